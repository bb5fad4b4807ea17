/-
  What the functions that the law reaches compute, and that they do. No condition.
-/
import Derived.Test.YtmdlnjeppemipaaGreatAmPV
namespace Go.Proofs.YtmdlnjeppemipaaGreat.AM
open Go Go.Proofs Go.RowKit
set_option linter.unusedVariables false
set_option linter.unusedSimpArgs false
set_option maxRecDepth 100000

/-- spec.l09Unit -/
noncomputable def F_spec_l09Unit (a0 : TPoint) : Option (Bool) :=
 ((
    (F_spec_l09In a0.fX (-40) 39).bind fun y8 =>
    br y8
    ((F_spec_l09In a0.fY (-40) 39).bind fun y10 =>
    some y10)
    (some false)
  ) : Option (Bool)).bind fun y1 =>
 letO y1 fun w7 =>
 some w7
theorem run_spec_l09Unit (a0 : TPoint) (r : Bool) (h : F_spec_l09Unit a0 = some r) : Fun Tryz.prog 48 [.agg [.v (.int .i64 a0.fX), .v (.int .i64 a0.fY)]] [] (.c (.v (.bool r))) [] true := by
 refine Fun.of_wp (oneOf [1]) tok mixed Tryz.func48 (by kernel_rfl) rfl Tryz.ntmps48 rfl trivial (fun _ => ⟨trivial, trivial⟩) ?_
 unfold F_spec_l09Unit at h
 have hf_spec_l09In := @run_spec_l09In
 generalize hLEN : @len = LEN at *
 generalize hGD : @gd = GD at *
 generalize hA : std = A at *
 generalize hP : Tryz.prog = P at *
 cbv
 replace h := of_bind h
 obtain ⟨y1, hy2, h⟩ := h
 obtain ⟨S5, hS6⟩ : ∃ S, S = (sparse 11 [(2, .c (.v (.bool y1)))] []) := ⟨_, rfl⟩
 refine ⟨S5, ?_, ?_⟩
 ·clear h
  have h := hy2
  clear hy2
  cbv
  replace h := of_bind h
  obtain ⟨y8, hy9, h⟩ := h
  refine ⟨{ args := [.c (.v (.int .i64 a0.fX)), .c (.v (.int .i64 (-40))), .c (.v (.int .i64 39))], o0 := [], r := .c (.v (.bool y8)), o1 := [], fl := true, σ := [], τ := [] }, hf_spec_l09In _ _ _ _ hy9, ⟨les_cons (lR _) (les_cons (lR _) (les_cons (lR _) (les_nil))), trivial, rfl, rfl, rfl, rfl, trivial, rfl⟩, ?_⟩
  cbv
  refine fork (fun b12 => ?_) (fun b12 => ?_)
  ·replace h := of_br_t b12 h
   cbv
   replace h := of_bind h
   obtain ⟨y10, hy11, h⟩ := h
   refine ⟨{ args := [.c (.v (.int .i64 a0.fY)), .c (.v (.int .i64 (-40))), .c (.v (.int .i64 39))], o0 := [], r := .c (.v (.bool y10)), o1 := [], fl := true, σ := [], τ := [] }, hf_spec_l09In _ _ _ _ hy11, ⟨les_cons (lR _) (les_cons (lR _) (les_cons (lR _) (les_nil))), trivial, rfl, rfl, rfl, rfl, trivial, rfl⟩, ?_⟩
   cbv
   injection h with h
   subst h
   subst hS6
   show St.le _ _
   exact le_sparse rfl ⟨lR _, trivial⟩ trivial rfl
  ·replace h := of_br_f b12 h
   cbv
   injection h with h
   subst h
   subst hS6
   show St.le _ _
   exact le_sparse rfl ⟨lR _, trivial⟩ trivial rfl
 ·clear hy2
  subst hS6
  replace h := of_let h
  obtain ⟨w7, hw7, h⟩ := h
  have hw7 : w7 = y1 := hw7
  subst hw7
  cbv
  injection h with h
  subst h
  refine ⟨(sparse 11 [(2, .c (.v (.bool w7)))] []), ?_, ?_⟩
  ·exact le_sparse rfl ⟨lR _, trivial⟩ trivial rfl
  ·exact ⟨lR _, trivial, rfl⟩

/-- spec.l09Label -/
noncomputable def F_spec_l09Label (a0 : TLabel) : Option (Bool) :=
 ((
    (F_spec_l09Layer a0.fLayer).bind fun y8 =>
    br y8
    ((F_spec_l09Unit a0.fAt).bind fun y10 =>
    br y10
    ((F_spec_IsName a0.fName).bind fun y12 =>
    some y12)
    (some false))
    (some false)
  ) : Option (Bool)).bind fun y1 =>
 letO y1 fun w7 =>
 some w7
theorem run_spec_l09Label (a0 : TLabel) (r : Bool) (h : F_spec_l09Label a0 = some r) : Fun Tryz.prog 78 [.agg [.v (.int .i64 a0.fLayer), .v (.int .i64 a0.fAt.fX), .v (.int .i64 a0.fAt.fY), .v (.string a0.fName)]] [] (.c (.v (.bool r))) [] true := by
 refine Fun.of_wp (oneOf [1]) tok mixed Tryz.func78 (by kernel_rfl) rfl Tryz.ntmps78 rfl trivial (fun _ => ⟨trivial, trivial⟩) ?_
 unfold F_spec_l09Label at h
 have hf_spec_IsName := @run_spec_IsName
 have hf_spec_l09Layer := @run_spec_l09Layer
 have hf_spec_l09Unit := @run_spec_l09Unit
 generalize hLEN : @len = LEN at *
 generalize hGD : @gd = GD at *
 generalize hA : std = A at *
 generalize hP : Tryz.prog = P at *
 cbv
 replace h := of_bind h
 obtain ⟨y1, hy2, h⟩ := h
 obtain ⟨S5, hS6⟩ : ∃ S, S = (sparse 16 [(2, .c (.v (.bool y1)))] []) := ⟨_, rfl⟩
 refine ⟨S5, ?_, ?_⟩
 ·clear h
  have h := hy2
  clear hy2
  cbv
  replace h := of_bind h
  obtain ⟨y8, hy9, h⟩ := h
  refine ⟨{ args := [.c (.v (.int .i64 a0.fLayer))], o0 := [], r := .c (.v (.bool y8)), o1 := [], fl := true, σ := [], τ := [] }, hf_spec_l09Layer _ _ hy9, ⟨les_cons (lR _) (les_nil), trivial, rfl, rfl, rfl, rfl, trivial, rfl⟩, ?_⟩
  cbv
  refine fork (fun b15 => ?_) (fun b15 => ?_)
  ·replace h := of_br_t b15 h
   cbv
   replace h := of_bind h
   obtain ⟨y10, hy11, h⟩ := h
   refine ⟨{ args := [.agg [.v (.int .i64 a0.fAt.fX), .v (.int .i64 a0.fAt.fY)]], o0 := [], r := .c (.v (.bool y10)), o1 := [], fl := true, σ := [], τ := [] }, hf_spec_l09Unit _ _ hy11, ⟨les_cons (lR _) (les_nil), trivial, rfl, rfl, rfl, rfl, trivial, rfl⟩, ?_⟩
   cbv
   refine fork (fun b14 => ?_) (fun b14 => ?_)
   ·replace h := of_br_t b14 h
    cbv
    replace h := of_bind h
    obtain ⟨y12, hy13, h⟩ := h
    refine ⟨{ args := [.c (.v (.string a0.fName))], o0 := [], r := .c (.v (.bool y12)), o1 := [], fl := true, σ := [], τ := [] }, hf_spec_IsName _ _ hy13, ⟨les_cons (lR _) (les_nil), trivial, rfl, rfl, rfl, rfl, trivial, rfl⟩, ?_⟩
    cbv
    injection h with h
    subst h
    subst hS6
    show St.le _ _
    exact le_sparse rfl ⟨lR _, trivial⟩ trivial rfl
   ·replace h := of_br_f b14 h
    cbv
    injection h with h
    subst h
    subst hS6
    show St.le _ _
    exact le_sparse rfl ⟨lR _, trivial⟩ trivial rfl
  ·replace h := of_br_f b15 h
   cbv
   injection h with h
   subst h
   subst hS6
   show St.le _ _
   exact le_sparse rfl ⟨lR _, trivial⟩ trivial rfl
 ·clear hy2
  subst hS6
  replace h := of_let h
  obtain ⟨w7, hw7, h⟩ := h
  have hw7 : w7 = y1 := hw7
  subst hw7
  cbv
  injection h with h
  subst h
  refine ⟨(sparse 16 [(2, .c (.v (.bool w7)))] []), ?_, ?_⟩
  ·exact le_sparse rfl ⟨lR _, trivial⟩ trivial rfl
  ·exact ⟨lR _, trivial, rfl⟩

/-- spec.l09Transform -/
noncomputable def F_spec_l09Transform (a0 : TTransform) : Option (Bool) :=
 ((
    (F_spec_l09In a0.fOrientation 0 7).bind fun y8 =>
    br y8
    ((F_spec_l09In a0.fX (-80) 80).bind fun y10 =>
    br y10
    ((F_spec_l09In a0.fY (-80) 80).bind fun y12 =>
    some y12)
    (some false))
    (some false)
  ) : Option (Bool)).bind fun y1 =>
 letO y1 fun w7 =>
 some w7
theorem run_spec_l09Transform (a0 : TTransform) (r : Bool) (h : F_spec_l09Transform a0 = some r) : Fun Tryz.prog 96 [.agg [.v (.int .i64 a0.fOrientation), .v (.int .i64 a0.fX), .v (.int .i64 a0.fY)]] [] (.c (.v (.bool r))) [] true := by
 refine Fun.of_wp (oneOf [1]) tok mixed Tryz.func96 (by kernel_rfl) rfl Tryz.ntmps96 rfl trivial (fun _ => ⟨trivial, trivial⟩) ?_
 unfold F_spec_l09Transform at h
 have hf_spec_l09In := @run_spec_l09In
 generalize hLEN : @len = LEN at *
 generalize hGD : @gd = GD at *
 generalize hA : std = A at *
 generalize hP : Tryz.prog = P at *
 cbv
 replace h := of_bind h
 obtain ⟨y1, hy2, h⟩ := h
 obtain ⟨S5, hS6⟩ : ∃ S, S = (sparse 16 [(2, .c (.v (.bool y1)))] []) := ⟨_, rfl⟩
 refine ⟨S5, ?_, ?_⟩
 ·clear h
  have h := hy2
  clear hy2
  cbv
  replace h := of_bind h
  obtain ⟨y8, hy9, h⟩ := h
  refine ⟨{ args := [.c (.v (.int .i64 a0.fOrientation)), .c (.v (.int .i64 0)), .c (.v (.int .i64 7))], o0 := [], r := .c (.v (.bool y8)), o1 := [], fl := true, σ := [], τ := [] }, hf_spec_l09In _ _ _ _ hy9, ⟨les_cons (lR _) (les_cons (lR _) (les_cons (lR _) (les_nil))), trivial, rfl, rfl, rfl, rfl, trivial, rfl⟩, ?_⟩
  cbv
  refine fork (fun b15 => ?_) (fun b15 => ?_)
  ·replace h := of_br_t b15 h
   cbv
   replace h := of_bind h
   obtain ⟨y10, hy11, h⟩ := h
   refine ⟨{ args := [.c (.v (.int .i64 a0.fX)), .c (.v (.int .i64 (-80))), .c (.v (.int .i64 80))], o0 := [], r := .c (.v (.bool y10)), o1 := [], fl := true, σ := [], τ := [] }, hf_spec_l09In _ _ _ _ hy11, ⟨les_cons (lR _) (les_cons (lR _) (les_cons (lR _) (les_nil))), trivial, rfl, rfl, rfl, rfl, trivial, rfl⟩, ?_⟩
   cbv
   refine fork (fun b14 => ?_) (fun b14 => ?_)
   ·replace h := of_br_t b14 h
    cbv
    replace h := of_bind h
    obtain ⟨y12, hy13, h⟩ := h
    refine ⟨{ args := [.c (.v (.int .i64 a0.fY)), .c (.v (.int .i64 (-80))), .c (.v (.int .i64 80))], o0 := [], r := .c (.v (.bool y12)), o1 := [], fl := true, σ := [], τ := [] }, hf_spec_l09In _ _ _ _ hy13, ⟨les_cons (lR _) (les_cons (lR _) (les_cons (lR _) (les_nil))), trivial, rfl, rfl, rfl, rfl, trivial, rfl⟩, ?_⟩
    cbv
    injection h with h
    subst h
    subst hS6
    show St.le _ _
    exact le_sparse rfl ⟨lR _, trivial⟩ trivial rfl
   ·replace h := of_br_f b14 h
    cbv
    injection h with h
    subst h
    subst hS6
    show St.le _ _
    exact le_sparse rfl ⟨lR _, trivial⟩ trivial rfl
  ·replace h := of_br_f b15 h
   cbv
   injection h with h
   subst h
   subst hS6
   show St.le _ _
   exact le_sparse rfl ⟨lR _, trivial⟩ trivial rfl
 ·clear hy2
  subst hS6
  replace h := of_let h
  obtain ⟨w7, hw7, h⟩ := h
  have hw7 : w7 = y1 := hw7
  subst hw7
  cbv
  injection h with h
  subst h
  refine ⟨(sparse 16 [(2, .c (.v (.bool w7)))] []), ?_, ?_⟩
  ·exact le_sparse rfl ⟨lR _, trivial⟩ trivial rfl
  ·exact ⟨lR _, trivial, rfl⟩

/-- spec.l09Instance -/
noncomputable def F_spec_l09Instance (a0 : TInstance) (a1 : Int) : Option (Bool) :=
 ((
    (F_spec_l09In a0.fCell 0 (std.sub .i64 a1 1)).bind fun y8 =>
    br (!(y8))
    (some true)
    ((F_spec_l09Transform a0.fPlace).bind fun y10 =>
    br (!(y10))
    (some true)
    ((F_spec_l09In a0.fColumns 1 4).bind fun y12 =>
    br (!(y12))
    (some true)
    ((F_spec_l09In a0.fRows 1 4).bind fun y14 =>
    some (!(y14)))))
  ) : Option (Bool)).bind fun y1 =>
 letO y1 fun w7 =>
 br w7
 (some false)
 (((
    (F_spec_l09In a0.fStepX (-80) 80).bind fun y26 =>
    br (!(y26))
    (some true)
    ((F_spec_l09In a0.fStepY (-80) 80).bind fun y28 =>
    some (!(y28)))
  ) : Option (Bool)).bind fun y19 =>
 letO y19 fun w25 =>
 br w25
 (some false)
 (((
    br (std.lt 1 a0.fColumns)
    (br (std.lt 1 a0.fRows)
    (some true)
    (some (std.eq a0.fStepY 0)))
    (br (std.eq a0.fStepX 0)
    (br (std.lt 1 a0.fRows)
    (some true)
    (some (std.eq a0.fStepY 0)))
    (some false))
  ) : Option (Bool)).bind fun y31 =>
 letO y31 fun w37 =>
 some w37))
theorem run_spec_l09Instance (a0 : TInstance) (a1 : Int) (r : Bool) (h : F_spec_l09Instance a0 a1 = some r) : Fun Tryz.prog 79 [.agg [.v (.int .i64 a0.fCell), .v (.int .i64 a0.fPlace.fOrientation), .v (.int .i64 a0.fPlace.fX), .v (.int .i64 a0.fPlace.fY), .v (.int .i64 a0.fColumns), .v (.int .i64 a0.fRows), .v (.int .i64 a0.fStepX), .v (.int .i64 a0.fStepY)], .c (.v (.int .i64 a1))] [] (.c (.v (.bool r))) [] true := by
 refine Fun.of_wp (oneOf [1, 3, 5]) tok mixed Tryz.func79 (by kernel_rfl) rfl Tryz.ntmps79 rfl trivial (fun _ => ⟨trivial, trivial⟩) ?_
 unfold F_spec_l09Instance at h
 have hf_spec_l09In := @run_spec_l09In
 have hf_spec_l09Transform := @run_spec_l09Transform
 generalize hLEN : @len = LEN at *
 generalize hGD : @gd = GD at *
 generalize hA : std = A at *
 generalize hP : Tryz.prog = P at *
 cbv
 replace h := of_bind h
 obtain ⟨y1, hy2, h⟩ := h
 obtain ⟨S5, hS6⟩ : ∃ S, S = (sparse 57 [(2, .c (.ptr 128 0)), (28, .c (.v (.bool y1)))] [(128, .var [.v (.int .i64 a0.fCell), .v (.int .i64 a0.fPlace.fOrientation), .v (.int .i64 a0.fPlace.fX), .v (.int .i64 a0.fPlace.fY), .v (.int .i64 a0.fColumns), .v (.int .i64 a0.fRows), .v (.int .i64 a0.fStepX), .v (.int .i64 a0.fStepY)])]) := ⟨_, rfl⟩
 refine ⟨S5, ?_, ?_⟩
 ·clear h
  have h := hy2
  clear hy2
  cbv
  replace h := of_bind h
  obtain ⟨y8, hy9, h⟩ := h
  refine ⟨{ args := [.c (.v (.int .i64 a0.fCell)), .c (.v (.int .i64 0)), .c (.v (.int .i64 (A.sub .i64 a1 1)))], o0 := [], r := .c (.v (.bool y8)), o1 := [], fl := true, σ := [], τ := [] }, hf_spec_l09In _ _ _ _ hy9, ⟨les_cons (lR _) (les_cons (lR _) (les_cons (lR _) (les_nil))), trivial, rfl, rfl, rfl, rfl, trivial, rfl⟩, ?_⟩
  cbv
  refine fork (fun b18 => ?_) (fun b18 => ?_)
  ·replace h := of_br_t b18 h
   cbv
   injection h with h
   subst h
   subst hS6
   show St.le _ _
   exact le_sparse rfl ⟨lR _, lR _, trivial⟩ ⟨rfl, trivial⟩ rfl
  ·replace h := of_br_f b18 h
   cbv
   replace h := of_bind h
   obtain ⟨y10, hy11, h⟩ := h
   refine ⟨{ args := [.agg [.v (.int .i64 a0.fPlace.fOrientation), .v (.int .i64 a0.fPlace.fX), .v (.int .i64 a0.fPlace.fY)]], o0 := [], r := .c (.v (.bool y10)), o1 := [], fl := true, σ := [], τ := [] }, hf_spec_l09Transform _ _ hy11, ⟨les_cons (lR _) (les_nil), trivial, rfl, rfl, rfl, rfl, trivial, rfl⟩, ?_⟩
   cbv
   refine fork (fun b17 => ?_) (fun b17 => ?_)
   ·replace h := of_br_t b17 h
    cbv
    injection h with h
    subst h
    subst hS6
    show St.le _ _
    exact le_sparse rfl ⟨lR _, lR _, trivial⟩ ⟨rfl, trivial⟩ rfl
   ·replace h := of_br_f b17 h
    cbv
    replace h := of_bind h
    obtain ⟨y12, hy13, h⟩ := h
    refine ⟨{ args := [.c (.v (.int .i64 a0.fColumns)), .c (.v (.int .i64 1)), .c (.v (.int .i64 4))], o0 := [], r := .c (.v (.bool y12)), o1 := [], fl := true, σ := [], τ := [] }, hf_spec_l09In _ _ _ _ hy13, ⟨les_cons (lR _) (les_cons (lR _) (les_cons (lR _) (les_nil))), trivial, rfl, rfl, rfl, rfl, trivial, rfl⟩, ?_⟩
    cbv
    refine fork (fun b16 => ?_) (fun b16 => ?_)
    ·replace h := of_br_t b16 h
     cbv
     injection h with h
     subst h
     subst hS6
     show St.le _ _
     exact le_sparse rfl ⟨lR _, lR _, trivial⟩ ⟨rfl, trivial⟩ rfl
    ·replace h := of_br_f b16 h
     cbv
     replace h := of_bind h
     obtain ⟨y14, hy15, h⟩ := h
     refine ⟨{ args := [.c (.v (.int .i64 a0.fRows)), .c (.v (.int .i64 1)), .c (.v (.int .i64 4))], o0 := [], r := .c (.v (.bool y14)), o1 := [], fl := true, σ := [], τ := [] }, hf_spec_l09In _ _ _ _ hy15, ⟨les_cons (lR _) (les_cons (lR _) (les_cons (lR _) (les_nil))), trivial, rfl, rfl, rfl, rfl, trivial, rfl⟩, ?_⟩
     cbv
     injection h with h
     subst h
     subst hS6
     show St.le _ _
     exact le_sparse rfl ⟨lR _, lR _, trivial⟩ ⟨rfl, trivial⟩ rfl
 ·clear hy2
  subst hS6
  replace h := of_let h
  obtain ⟨w7, hw7, h⟩ := h
  have hw7 : w7 = y1 := hw7
  subst hw7
  cbv
  refine fork (fun b43 => ?_) (fun b43 => ?_)
  ·replace h := of_br_t b43 h
   cbv
   injection h with h
   subst h
   refine ⟨(sparse 57 [(4, .c (.v (.bool false)))] []), ?_, ?_⟩
   ·exact le_sparse rfl ⟨lR _, trivial⟩ trivial rfl
   ·exact ⟨lR _, trivial, rfl⟩
  ·replace h := of_br_f b43 h
   cbv
   replace h := of_bind h
   obtain ⟨y19, hy20, h⟩ := h
   obtain ⟨S23, hS24⟩ : ∃ S, S = (sparse 57 [(2, .c (.ptr 128 0)), (38, .c (.v (.bool y19)))] [(128, .var [.v (.int .i64 a0.fCell), .v (.int .i64 a0.fPlace.fOrientation), .v (.int .i64 a0.fPlace.fX), .v (.int .i64 a0.fPlace.fY), .v (.int .i64 a0.fColumns), .v (.int .i64 a0.fRows), .v (.int .i64 a0.fStepX), .v (.int .i64 a0.fStepY)])]) := ⟨_, rfl⟩
   refine ⟨S23, ?_, ?_⟩
   ·clear h
    have h := hy20
    clear hy20
    cbv
    replace h := of_bind h
    obtain ⟨y26, hy27, h⟩ := h
    refine ⟨{ args := [.c (.v (.int .i64 a0.fStepX)), .c (.v (.int .i64 (-80))), .c (.v (.int .i64 80))], o0 := [], r := .c (.v (.bool y26)), o1 := [], fl := true, σ := [], τ := [] }, hf_spec_l09In _ _ _ _ hy27, ⟨les_cons (lR _) (les_cons (lR _) (les_cons (lR _) (les_nil))), trivial, rfl, rfl, rfl, rfl, trivial, rfl⟩, ?_⟩
    cbv
    refine fork (fun b30 => ?_) (fun b30 => ?_)
    ·replace h := of_br_t b30 h
     cbv
     injection h with h
     subst h
     subst hS24
     show St.le _ _
     exact le_sparse rfl ⟨lR _, lR _, trivial⟩ ⟨rfl, trivial⟩ rfl
    ·replace h := of_br_f b30 h
     cbv
     replace h := of_bind h
     obtain ⟨y28, hy29, h⟩ := h
     refine ⟨{ args := [.c (.v (.int .i64 a0.fStepY)), .c (.v (.int .i64 (-80))), .c (.v (.int .i64 80))], o0 := [], r := .c (.v (.bool y28)), o1 := [], fl := true, σ := [], τ := [] }, hf_spec_l09In _ _ _ _ hy29, ⟨les_cons (lR _) (les_cons (lR _) (les_cons (lR _) (les_nil))), trivial, rfl, rfl, rfl, rfl, trivial, rfl⟩, ?_⟩
     cbv
     injection h with h
     subst h
     subst hS24
     show St.le _ _
     exact le_sparse rfl ⟨lR _, lR _, trivial⟩ ⟨rfl, trivial⟩ rfl
   ·clear hy20
    subst hS24
    replace h := of_let h
    obtain ⟨w25, hw25, h⟩ := h
    have hw25 : w25 = y19 := hw25
    subst hw25
    cbv
    refine fork (fun b42 => ?_) (fun b42 => ?_)
    ·replace h := of_br_t b42 h
     cbv
     injection h with h
     subst h
     refine ⟨(sparse 57 [(4, .c (.v (.bool false)))] []), ?_, ?_⟩
     ·exact le_sparse rfl ⟨lR _, trivial⟩ trivial rfl
     ·exact ⟨lR _, trivial, rfl⟩
    ·replace h := of_br_f b42 h
     cbv
     replace h := of_bind h
     obtain ⟨y31, hy32, h⟩ := h
     obtain ⟨S35, hS36⟩ : ∃ S, S = (sparse 57 [(4, .c (.v (.bool y31)))] []) := ⟨_, rfl⟩
     refine ⟨S35, ?_, ?_⟩
     ·clear h
      have h := hy32
      clear hy32
      cbv
      refine fork (fun b41 => ?_) (fun b41 => ?_)
      ·replace h := of_br_t b41 h
       cbv
       refine fork (fun b40 => ?_) (fun b40 => ?_)
       ·replace h := of_br_t b40 h
        cbv
        injection h with h
        subst h
        subst hS36
        show St.le _ _
        exact le_sparse rfl ⟨lR _, trivial⟩ trivial rfl
       ·replace h := of_br_f b40 h
        cbv
        injection h with h
        subst h
        subst hS36
        show St.le _ _
        exact le_sparse rfl ⟨lR _, trivial⟩ trivial rfl
      ·replace h := of_br_f b41 h
       cbv
       refine fork (fun b39 => ?_) (fun b39 => ?_)
       ·replace h := of_br_t b39 h
        cbv
        refine fork (fun b38 => ?_) (fun b38 => ?_)
        ·replace h := of_br_t b38 h
         cbv
         injection h with h
         subst h
         subst hS36
         show St.le _ _
         exact le_sparse rfl ⟨lR _, trivial⟩ trivial rfl
        ·replace h := of_br_f b38 h
         cbv
         injection h with h
         subst h
         subst hS36
         show St.le _ _
         exact le_sparse rfl ⟨lR _, trivial⟩ trivial rfl
       ·replace h := of_br_f b39 h
        cbv
        injection h with h
        subst h
        subst hS36
        show St.le _ _
        exact le_sparse rfl ⟨lR _, trivial⟩ trivial rfl
     ·clear hy32
      subst hS36
      replace h := of_let h
      obtain ⟨w37, hw37, h⟩ := h
      have hw37 : w37 = y31 := hw37
      subst hw37
      cbv
      injection h with h
      subst h
      refine ⟨(sparse 57 [(4, .c (.v (.bool w37)))] []), ?_, ?_⟩
      ·exact le_sparse rfl ⟨lR _, trivial⟩ trivial rfl
      ·exact ⟨lR _, trivial, rfl⟩

noncomputable def L_spec_l09Cell_x52 (a0 : TCell) (a1 : Int) : (Int) → Option ((Int) ⊕ ((Bool) ⊕ (Unit))) := fun x52 =>
 letO x52 fun v51 =>
 br (std.lt v51 (std.ofN (len a0.fInstances)))
 (req (std.inR v51 (len a0.fInstances)) <|
 (F_spec_l09Instance (gd a0.fInstances (std.toN v51)) a1).bind fun y65 =>
 br (!(y65))
 (some (.inr (.inl false)))
 (some (.inl (std.add .i64 v51 1))))
 (some (.inr (.inr ())))
noncomputable def L_spec_l09Cell_x33 (a0 : TCell) : (Int) → Option ((Int) ⊕ ((Bool) ⊕ (Unit))) := fun x33 =>
 letO x33 fun v32 =>
 br (std.lt v32 (std.ofN (len a0.fLabels)))
 (req (std.inR v32 (len a0.fLabels)) <|
 (F_spec_l09Label (gd a0.fLabels (std.toN v32))).bind fun y46 =>
 br (!(y46))
 (some (.inr (.inl false)))
 (some (.inl (std.add .i64 v32 1))))
 (some (.inr (.inr ())))
noncomputable def L_spec_l09Cell_x14 (a0 : TCell) : (Int) → Option ((Int) ⊕ ((Bool) ⊕ (Unit))) := fun x14 =>
 letO x14 fun v13 =>
 br (std.lt v13 (std.ofN (len a0.fShapes)))
 (req (std.inR v13 (len a0.fShapes)) <|
 (F_spec_l09Shape (gd a0.fShapes (std.toN v13))).bind fun y27 =>
 br (!(y27))
 (some (.inr (.inl false)))
 (some (.inl (std.add .i64 v13 1))))
 (some (.inr (.inr ())))
/-- spec.l09Cell -/
noncomputable def F_spec_l09Cell (a0 : TCell) (a1 : Int) : Option (Bool) :=
 ((
    (F_spec_IsName a0.fName).bind fun y8 =>
    br (!(y8))
    (some true)
    (br (std.lt 24 (std.ofN (len a0.fShapes)))
    (some true)
    (br (std.lt 8 (std.ofN (len a0.fLabels)))
    (some true)
    (some (std.lt 8 (std.ofN (len a0.fInstances))))))
  ) : Option (Bool)).bind fun y1 =>
 letO y1 fun w7 =>
 br w7
 (some false)
 ((whileP (σ := Int) (ρ := (Bool) ⊕ (Unit)) (L_spec_l09Cell_x14 a0) 0).bind fun y15 =>
 (match y15 with
  | .inl y15k0 => (
    letO y15k0 fun w31 =>
    some w31)
  | .inr y15m0 =>
    (whileP (σ := Int) (ρ := (Bool) ⊕ (Unit)) (L_spec_l09Cell_x33 a0) 0).bind fun y34 =>
    (match y34 with
     | .inl y34k0 => (
       letO y34k0 fun w50 =>
       some w50)
     | .inr y34m0 =>
       (whileP (σ := Int) (ρ := (Bool) ⊕ (Unit)) (L_spec_l09Cell_x52 a0 a1) 0).bind fun y53 =>
       (match y53 with
        | .inl y53k0 => (
          letO y53k0 fun w69 =>
          some w69)
        | .inr y53m0 =>
          some true))))
theorem run_spec_l09Cell (a0 : TCell) (a1 : Int) (r : Bool) (h : F_spec_l09Cell a0 a1 = some r) : Fun Tryz.prog 51 [.agg [.v (.string a0.fName), .bs (len a0.fShapes) 5 (row gd (encShape) a0.fShapes), .bs (len a0.fLabels) 4 (row gd (encLabel) a0.fLabels), .bs (len a0.fInstances) 8 (row gd (encInstance) a0.fInstances)], .c (.v (.int .i64 a1))] [] (.c (.v (.bool r))) [] true := by
 refine Fun.of_wp (oneOf [1]) tok mixed Tryz.func51 (by kernel_rfl) rfl Tryz.ntmps51 rfl trivial (fun _ => ⟨trivial, trivial⟩) ?_
 unfold F_spec_l09Cell at h
 unfold L_spec_l09Cell_x14 at h
 unfold L_spec_l09Cell_x33 at h
 unfold L_spec_l09Cell_x52 at h
 have hf_spec_IsName := @run_spec_IsName
 have hf_spec_l09Instance := @run_spec_l09Instance
 have hf_spec_l09Label := @run_spec_l09Label
 have hf_spec_l09Shape := @run_spec_l09Shape
 generalize hLEN : @len = LEN at *
 generalize hGD : @gd = GD at *
 generalize hA : std = A at *
 generalize hP : Tryz.prog = P at *
 cbv
 replace h := of_bind h
 obtain ⟨y1, hy2, h⟩ := h
 obtain ⟨S5, hS6⟩ : ∃ S, S = (sparse 73 [(1, .c (.v (.int .i64 a1))), (2, .c (.ptr 128 0)), (29, .c (.v (.bool y1)))] [(128, .var [.v (.string a0.fName), .bs (LEN a0.fShapes) 5 (row GD (encShape) a0.fShapes), .bs (LEN a0.fLabels) 4 (row GD (encLabel) a0.fLabels), .bs (LEN a0.fInstances) 8 (row GD (encInstance) a0.fInstances)])]) := ⟨_, rfl⟩
 refine ⟨S5, ?_, ?_⟩
 ·clear h
  have h := hy2
  clear hy2
  cbv
  replace h := of_bind h
  obtain ⟨y8, hy9, h⟩ := h
  refine ⟨{ args := [.c (.v (.string a0.fName))], o0 := [], r := .c (.v (.bool y8)), o1 := [], fl := true, σ := [], τ := [] }, hf_spec_IsName _ _ hy9, ⟨les_cons (lR _) (les_nil), trivial, rfl, rfl, rfl, rfl, trivial, rfl⟩, ?_⟩
  cbv
  refine fork (fun b12 => ?_) (fun b12 => ?_)
  ·replace h := of_br_t b12 h
   cbv
   injection h with h
   subst h
   subst hS6
   show St.le _ _
   exact le_sparse rfl ⟨lR _, lR _, lR _, trivial⟩ ⟨rfl, trivial⟩ rfl
  ·replace h := of_br_f b12 h
   cbv
   refine fork (fun b11 => ?_) (fun b11 => ?_)
   ·replace h := of_br_t b11 h
    cbv
    injection h with h
    subst h
    subst hS6
    show St.le _ _
    exact le_sparse rfl ⟨lR _, lR _, lR _, trivial⟩ ⟨rfl, trivial⟩ rfl
   ·replace h := of_br_f b11 h
    cbv
    refine fork (fun b10 => ?_) (fun b10 => ?_)
    ·replace h := of_br_t b10 h
     cbv
     injection h with h
     subst h
     subst hS6
     show St.le _ _
     exact le_sparse rfl ⟨lR _, lR _, lR _, trivial⟩ ⟨rfl, trivial⟩ rfl
    ·replace h := of_br_f b10 h
     cbv
     injection h with h
     subst h
     subst hS6
     show St.le _ _
     exact le_sparse rfl ⟨lR _, lR _, lR _, trivial⟩ ⟨rfl, trivial⟩ rfl
 ·clear hy2
  subst hS6
  replace h := of_let h
  obtain ⟨w7, hw7, h⟩ := h
  have hw7 : w7 = y1 := hw7
  subst hw7
  cbv
  refine fork (fun b70 => ?_) (fun b70 => ?_)
  ·replace h := of_br_t b70 h
   cbv
   injection h with h
   subst h
   refine ⟨(sparse 73 [(4, .c (.v (.bool false)))] []), ?_, ?_⟩
   ·exact le_sparse rfl ⟨lR _, trivial⟩ trivial rfl
   ·exact ⟨lR _, trivial, rfl⟩
  ·replace h := of_br_f b70 h
   cbv
   replace h := of_bind h
   obtain ⟨y15, hr16, hN17⟩ := h
   refine loop_cut hr16 (fun x => (sparse 73 [(1, .c (.v (.int .i64 a1))), (2, .c (.ptr 128 0)), (5, .c (.v (.int .i64 x)))] [(128, .var [.v (.string a0.fName), .bs (LEN a0.fShapes) 5 (row GD (encShape) a0.fShapes), .bs (LEN a0.fLabels) 4 (row GD (encLabel) a0.fLabels), .bs (LEN a0.fInstances) 8 (row GD (encInstance) a0.fInstances)])])) ?_ (fun y e s => (match y with | .inl w => e = .ret ∧ s.le (sparse 73 [(4, .c (.v (.bool w)))] []) | .inr w0 => (fun (w : Unit) => e = .exit 0 ∧ s.le (sparse 73 [(1, .c (.v (.int .i64 a1))), (2, .c (.ptr 128 0))] [(128, .var [.v (.string a0.fName), .bs (LEN a0.fShapes) 5 (row GD (encShape) a0.fShapes), .bs (LEN a0.fLabels) 4 (row GD (encLabel) a0.fLabels), .bs (LEN a0.fInstances) 8 (row GD (encInstance) a0.fInstances)])])) w0)) ?_ ?_
   ·clear hr16 hN17
    show St.le _ _
    exact le_sparse rfl ⟨lR _, lR _, lR _, trivial⟩ ⟨rfl, trivial⟩ rfl
   ·clear hr16 hN17
    intro x z21 h K19 hK20 hY18
    replace h := of_let h
    obtain ⟨v13, hv13, h⟩ := h
    have hv13 : v13 = x := hv13
    subst hv13
    cbv
    refine fork (fun b30 => ?_) (fun b30 => ?_)
    ·replace h := of_br_t b30 h
     cbv
     replace h := of_req h
     obtain ⟨c26, h⟩ := h
     refine ⟨⟨c26, trivial⟩, ?_⟩
     replace h := of_bind h
     obtain ⟨y27, hy28, h⟩ := h
     refine ⟨{ args := [.agg [.v (.int .i64 (GD a0.fShapes (A.toN v13)).fLayer), .v (.int .i64 (GD a0.fShapes (A.toN v13)).fBox.fX0), .v (.int .i64 (GD a0.fShapes (A.toN v13)).fBox.fY0), .v (.int .i64 (GD a0.fShapes (A.toN v13)).fBox.fX1), .v (.int .i64 (GD a0.fShapes (A.toN v13)).fBox.fY1)]], o0 := [], r := .c (.v (.bool y27)), o1 := [], fl := true, σ := [], τ := [] }, hf_spec_l09Shape _ _ hy28, ⟨les_cons (lR _) (les_nil), trivial, rfl, rfl, rfl, rfl, trivial, rfl⟩, ?_⟩
     cbv
     refine fork (fun b29 => ?_) (fun b29 => ?_)
     ·replace h := of_br_t b29 h
      cbv
      injection h with h
      refine hY18 _ h.symm _ _ (And.intro rfl ?_) (by intro hh; cases hh)
      exact le_sparse rfl ⟨lR _, trivial⟩ trivial rfl
     ·replace h := of_br_f b29 h
      cbv
      injection h with h
      refine hK20 _ h.symm _ ?_
      exact le_sparse rfl ⟨lR _, lR _, lR _, trivial⟩ ⟨rfl, trivial⟩ rfl
    ·replace h := of_br_f b30 h
     cbv
     injection h with h
     refine hY18 _ h.symm _ _ (And.intro rfl ?_) (by intro hh; cases hh)
     exact le_sparse rfl ⟨lR _, lR _, trivial⟩ ⟨rfl, trivial⟩ rfl
   ·clear hr16
    have h := hN17
    clear hN17
    intro e24 s25 q23 hne
    rcases y15 with y15k0 | y15m0
    ·replace h := h
     obtain ⟨rfl, q23⟩ := q23
     replace h := of_let h
     obtain ⟨w31, hw31, h⟩ := h
     have hw31 : w31 = y15k0 := hw31
     subst hw31
     cbv
     injection h with h
     subst h
     refine ⟨(sparse 73 [(4, .c (.v (.bool w31)))] []), ?_, ?_⟩
     ·refine St.le_trans q23 ?_
      exact le_sparse rfl ⟨lR _, trivial⟩ trivial rfl
     ·exact ⟨lR _, trivial, rfl⟩
    ·obtain ⟨rfl, q23⟩ := q23
     cbv
     refine ⟨_, q23, ?_⟩
     cbv
     replace h := of_bind h
     obtain ⟨y34, hr35, hN36⟩ := h
     refine loop_cut hr35 (fun x => (sparse 73 [(1, .c (.v (.int .i64 a1))), (2, .c (.ptr 128 0)), (6, .c (.v (.int .i64 x)))] [(128, .var [.v (.string a0.fName), .bs (LEN a0.fShapes) 5 (row GD (encShape) a0.fShapes), .bs (LEN a0.fLabels) 4 (row GD (encLabel) a0.fLabels), .bs (LEN a0.fInstances) 8 (row GD (encInstance) a0.fInstances)])])) ?_ (fun y e s => (match y with | .inl w => e = .ret ∧ s.le (sparse 73 [(4, .c (.v (.bool w)))] []) | .inr w0 => (fun (w : Unit) => e = .exit 2 ∧ s.le (sparse 73 [(1, .c (.v (.int .i64 a1))), (2, .c (.ptr 128 0))] [(128, .var [.v (.string a0.fName), .bs (LEN a0.fShapes) 5 (row GD (encShape) a0.fShapes), .bs (LEN a0.fLabels) 4 (row GD (encLabel) a0.fLabels), .bs (LEN a0.fInstances) 8 (row GD (encInstance) a0.fInstances)])])) w0)) ?_ ?_
     ·clear hr35 hN36
      show St.le _ _
      exact le_sparse rfl ⟨lR _, lR _, lR _, trivial⟩ ⟨rfl, trivial⟩ rfl
     ·clear hr35 hN36
      intro x z40 h K38 hK39 hY37
      replace h := of_let h
      obtain ⟨v32, hv32, h⟩ := h
      have hv32 : v32 = x := hv32
      subst hv32
      cbv
      refine fork (fun b49 => ?_) (fun b49 => ?_)
      ·replace h := of_br_t b49 h
       cbv
       replace h := of_req h
       obtain ⟨c45, h⟩ := h
       refine ⟨⟨c45, trivial⟩, ?_⟩
       replace h := of_bind h
       obtain ⟨y46, hy47, h⟩ := h
       refine ⟨{ args := [.agg [.v (.int .i64 (GD a0.fLabels (A.toN v32)).fLayer), .v (.int .i64 (GD a0.fLabels (A.toN v32)).fAt.fX), .v (.int .i64 (GD a0.fLabels (A.toN v32)).fAt.fY), .v (.string (GD a0.fLabels (A.toN v32)).fName)]], o0 := [], r := .c (.v (.bool y46)), o1 := [], fl := true, σ := [], τ := [] }, hf_spec_l09Label _ _ hy47, ⟨les_cons (lR _) (les_nil), trivial, rfl, rfl, rfl, rfl, trivial, rfl⟩, ?_⟩
       cbv
       refine fork (fun b48 => ?_) (fun b48 => ?_)
       ·replace h := of_br_t b48 h
        cbv
        injection h with h
        refine hY37 _ h.symm _ _ (And.intro rfl ?_) (by intro hh; cases hh)
        exact le_sparse rfl ⟨lR _, trivial⟩ trivial rfl
       ·replace h := of_br_f b48 h
        cbv
        injection h with h
        refine hK39 _ h.symm _ ?_
        exact le_sparse rfl ⟨lR _, lR _, lR _, trivial⟩ ⟨rfl, trivial⟩ rfl
      ·replace h := of_br_f b49 h
       cbv
       injection h with h
       refine hY37 _ h.symm _ _ (And.intro rfl ?_) (by intro hh; cases hh)
       exact le_sparse rfl ⟨lR _, lR _, trivial⟩ ⟨rfl, trivial⟩ rfl
     ·clear hr35
      have h := hN36
      clear hN36
      intro e43 s44 q42 hne
      rcases y34 with y34k0 | y34m0
      ·replace h := h
       obtain ⟨rfl, q42⟩ := q42
       replace h := of_let h
       obtain ⟨w50, hw50, h⟩ := h
       have hw50 : w50 = y34k0 := hw50
       subst hw50
       cbv
       injection h with h
       subst h
       refine ⟨(sparse 73 [(4, .c (.v (.bool w50)))] []), ?_, ?_⟩
       ·refine St.le_trans q42 ?_
        exact le_sparse rfl ⟨lR _, trivial⟩ trivial rfl
       ·exact ⟨lR _, trivial, rfl⟩
      ·obtain ⟨rfl, q42⟩ := q42
       cbv
       refine ⟨_, q42, ?_⟩
       cbv
       replace h := of_bind h
       obtain ⟨y53, hr54, hN55⟩ := h
       refine loop_cut hr54 (fun x => (sparse 73 [(1, .c (.v (.int .i64 a1))), (2, .c (.ptr 128 0)), (7, .c (.v (.int .i64 x)))] [(128, .var [.v (.string a0.fName), .bs (LEN a0.fShapes) 5 (row GD (encShape) a0.fShapes), .bs (LEN a0.fLabels) 4 (row GD (encLabel) a0.fLabels), .bs (LEN a0.fInstances) 8 (row GD (encInstance) a0.fInstances)])])) ?_ (fun y e s => (match y with | .inl w => e = .ret ∧ s.le (sparse 73 [(4, .c (.v (.bool w)))] []) | .inr w0 => (fun (w : Unit) => e = .exit 4 ∧ s.le (sparse 73 [] [])) w0)) ?_ ?_
       ·clear hr54 hN55
        show St.le _ _
        exact le_sparse rfl ⟨lR _, lR _, lR _, trivial⟩ ⟨rfl, trivial⟩ rfl
       ·clear hr54 hN55
        intro x z59 h K57 hK58 hY56
        replace h := of_let h
        obtain ⟨v51, hv51, h⟩ := h
        have hv51 : v51 = x := hv51
        subst hv51
        cbv
        refine fork (fun b68 => ?_) (fun b68 => ?_)
        ·replace h := of_br_t b68 h
         cbv
         replace h := of_req h
         obtain ⟨c64, h⟩ := h
         refine ⟨⟨c64, trivial⟩, ?_⟩
         replace h := of_bind h
         obtain ⟨y65, hy66, h⟩ := h
         refine ⟨{ args := [.agg [.v (.int .i64 (GD a0.fInstances (A.toN v51)).fCell), .v (.int .i64 (GD a0.fInstances (A.toN v51)).fPlace.fOrientation), .v (.int .i64 (GD a0.fInstances (A.toN v51)).fPlace.fX), .v (.int .i64 (GD a0.fInstances (A.toN v51)).fPlace.fY), .v (.int .i64 (GD a0.fInstances (A.toN v51)).fColumns), .v (.int .i64 (GD a0.fInstances (A.toN v51)).fRows), .v (.int .i64 (GD a0.fInstances (A.toN v51)).fStepX), .v (.int .i64 (GD a0.fInstances (A.toN v51)).fStepY)], .c (.v (.int .i64 a1))], o0 := [], r := .c (.v (.bool y65)), o1 := [], fl := true, σ := [], τ := [] }, hf_spec_l09Instance _ _ _ hy66, ⟨les_cons (lR _) (les_cons (lR _) (les_nil)), trivial, rfl, rfl, rfl, rfl, trivial, rfl⟩, ?_⟩
         cbv
         refine fork (fun b67 => ?_) (fun b67 => ?_)
         ·replace h := of_br_t b67 h
          cbv
          injection h with h
          refine hY56 _ h.symm _ _ (And.intro rfl ?_) (by intro hh; cases hh)
          exact le_sparse rfl ⟨lR _, trivial⟩ trivial rfl
         ·replace h := of_br_f b67 h
          cbv
          injection h with h
          refine hK58 _ h.symm _ ?_
          exact le_sparse rfl ⟨lR _, lR _, lR _, trivial⟩ ⟨rfl, trivial⟩ rfl
        ·replace h := of_br_f b68 h
         cbv
         injection h with h
         refine hY56 _ h.symm _ _ (And.intro rfl ?_) (by intro hh; cases hh)
         exact le_sparse rfl trivial trivial rfl
       ·clear hr54
        have h := hN55
        clear hN55
        intro e62 s63 q61 hne
        rcases y53 with y53k0 | y53m0
        ·replace h := h
         obtain ⟨rfl, q61⟩ := q61
         replace h := of_let h
         obtain ⟨w69, hw69, h⟩ := h
         have hw69 : w69 = y53k0 := hw69
         subst hw69
         cbv
         injection h with h
         subst h
         refine ⟨(sparse 73 [(4, .c (.v (.bool w69)))] []), ?_, ?_⟩
         ·refine St.le_trans q61 ?_
          exact le_sparse rfl ⟨lR _, trivial⟩ trivial rfl
         ·exact ⟨lR _, trivial, rfl⟩
        ·obtain ⟨rfl, q61⟩ := q61
         cbv
         refine ⟨_, q61, ?_⟩
         cbv
         injection h with h
         subst h
         refine ⟨(sparse 73 [(4, .c (.v (.bool true)))] []), ?_, ?_⟩
         ·exact le_sparse rfl ⟨lR _, trivial⟩ trivial rfl
         ·exact ⟨lR _, trivial, rfl⟩

noncomputable def L_spec_IsValidLibrary_x26 (a0 : TLibrary) (v9 : Int) : (Int) → Option ((Int) ⊕ ((Bool) ⊕ (Unit))) := fun x26 =>
 letO x26 fun v25 =>
 br (std.lt v25 v9)
 (req (std.inR v25 (len a0.fCells)) <|
 req (std.inR v9 (len a0.fCells)) <|
 br (std.seq (gd a0.fCells (std.toN v25)).fName (gd a0.fCells (std.toN v9)).fName)
 (some (.inr (.inl false)))
 (some (.inl (std.add .i64 v25 1))))
 (some (.inr (.inr ())))
noncomputable def L_spec_IsValidLibrary_x10 (a0 : TLibrary) : (Int) → Option ((Int) ⊕ ((Bool) ⊕ (Unit))) := fun x10 =>
 letO x10 fun v9 =>
 br (std.lt v9 (std.ofN (len a0.fCells)))
 (req (std.inR v9 (len a0.fCells)) <|
 (F_spec_l09Cell (gd a0.fCells (std.toN v9)) v9).bind fun y23 =>
 br (!(y23))
 (some (.inr (.inl false)))
 ((whileP (σ := Int) (ρ := (Bool) ⊕ (Unit)) (L_spec_IsValidLibrary_x26 a0 v9) 0).bind fun y27 =>
 (match y27 with
  | .inl y27k0 => (
    letO y27k0 fun w42 =>
    some (.inr (.inl w42)))
  | .inr y27m0 =>
    some (.inl (std.add .i64 v9 1)))))
 (some (.inr (.inr ())))
/-- spec.IsValidLibrary -/
noncomputable def F_spec_IsValidLibrary (a0 : TLibrary) : Option (Bool) :=
 ((
    br (std.lt (std.ofN (len a0.fCells)) 1)
    (some true)
    (some (std.lt 8 (std.ofN (len a0.fCells))))
  ) : Option (Bool)).bind fun y1 =>
 letO y1 fun w7 =>
 br w7
 (some false)
 ((whileP (σ := Int) (ρ := (Bool) ⊕ (Unit)) (L_spec_IsValidLibrary_x10 a0) 0).bind fun y11 =>
 (match y11 with
  | .inl y11k0 => (
    letO y11k0 fun w45 =>
    some w45)
  | .inr y11m0 =>
    some true))
theorem run_spec_IsValidLibrary (a0 : TLibrary) (r : Bool) (h : F_spec_IsValidLibrary a0 = some r) : Fun Tryz.prog 25 [.agg [.bs (len a0.fCells) 4 (row gd (encCell len gd) a0.fCells)]] [] (.c (.v (.bool r))) [] true := by
 refine Fun.of_wp (oneOf [1]) tok mixed Tryz.func25 (by kernel_rfl) rfl Tryz.ntmps25 rfl trivial (fun _ => ⟨trivial, trivial⟩) ?_
 unfold F_spec_IsValidLibrary at h
 unfold L_spec_IsValidLibrary_x10 at h
 unfold L_spec_IsValidLibrary_x26 at h
 have hf_spec_l09Cell := @run_spec_l09Cell
 generalize hLEN : @len = LEN at *
 generalize hGD : @gd = GD at *
 generalize hA : std = A at *
 generalize hP : Tryz.prog = P at *
 cbv
 replace h := of_bind h
 obtain ⟨y1, hy2, h⟩ := h
 obtain ⟨S5, hS6⟩ : ∃ S, S = (sparse 48 [(1, .c (.ptr 64 0)), (14, .c (.v (.bool y1)))] [(64, .var [.bs (LEN a0.fCells) 4 (row GD (encCell LEN GD) a0.fCells)])]) := ⟨_, rfl⟩
 refine ⟨S5, ?_, ?_⟩
 ·clear h
  have h := hy2
  clear hy2
  cbv
  refine fork (fun b8 => ?_) (fun b8 => ?_)
  ·replace h := of_br_t b8 h
   cbv
   injection h with h
   subst h
   subst hS6
   show St.le _ _
   exact le_sparse rfl ⟨lR _, lR _, trivial⟩ ⟨rfl, trivial⟩ rfl
  ·replace h := of_br_f b8 h
   cbv
   injection h with h
   subst h
   subst hS6
   show St.le _ _
   exact le_sparse rfl ⟨lR _, lR _, trivial⟩ ⟨rfl, trivial⟩ rfl
 ·clear hy2
  subst hS6
  replace h := of_let h
  obtain ⟨w7, hw7, h⟩ := h
  have hw7 : w7 = y1 := hw7
  subst hw7
  cbv
  refine fork (fun b46 => ?_) (fun b46 => ?_)
  ·replace h := of_br_t b46 h
   cbv
   injection h with h
   subst h
   refine ⟨(sparse 48 [(2, .c (.v (.bool false)))] []), ?_, ?_⟩
   ·exact le_sparse rfl ⟨lR _, trivial⟩ trivial rfl
   ·exact ⟨lR _, trivial, rfl⟩
  ·replace h := of_br_f b46 h
   cbv
   replace h := of_bind h
   obtain ⟨y11, hr12, hN13⟩ := h
   refine loop_cut hr12 (fun x => (sparse 48 [(1, .c (.ptr 64 0)), (3, .c (.v (.int .i64 x)))] [(64, .var [.bs (LEN a0.fCells) 4 (row GD (encCell LEN GD) a0.fCells)])])) ?_ (fun y e s => (match y with | .inl w => e = .ret ∧ s.le (sparse 48 [(2, .c (.v (.bool w)))] []) | .inr w0 => (fun (w : Unit) => e = .exit 0 ∧ s.le (sparse 48 [] [])) w0)) ?_ ?_
   ·clear hr12 hN13
    show St.le _ _
    exact le_sparse rfl ⟨lR _, lR _, trivial⟩ ⟨rfl, trivial⟩ rfl
   ·clear hr12 hN13
    intro x z17 h K15 hK16 hY14
    replace h := of_let h
    obtain ⟨v9, hv9, h⟩ := h
    have hv9 : v9 = x := hv9
    subst hv9
    cbv
    refine fork (fun b44 => ?_) (fun b44 => ?_)
    ·replace h := of_br_t b44 h
     cbv
     replace h := of_req h
     obtain ⟨c22, h⟩ := h
     refine ⟨⟨c22, trivial⟩, ?_⟩
     replace h := of_bind h
     obtain ⟨y23, hy24, h⟩ := h
     refine ⟨{ args := [.agg [.v (.string (GD a0.fCells (A.toN v9)).fName), .bs (LEN (GD a0.fCells (A.toN v9)).fShapes) 5 (row GD (encShape) (GD a0.fCells (A.toN v9)).fShapes), .bs (LEN (GD a0.fCells (A.toN v9)).fLabels) 4 (row GD (encLabel) (GD a0.fCells (A.toN v9)).fLabels), .bs (LEN (GD a0.fCells (A.toN v9)).fInstances) 8 (row GD (encInstance) (GD a0.fCells (A.toN v9)).fInstances)], .c (.v (.int .i64 v9))], o0 := [], r := .c (.v (.bool y23)), o1 := [], fl := true, σ := [], τ := [] }, hf_spec_l09Cell _ _ _ hy24, ⟨les_cons (lR _) (les_cons (lR _) (les_nil)), trivial, rfl, rfl, rfl, rfl, trivial, rfl⟩, ?_⟩
     cbv
     refine fork (fun b43 => ?_) (fun b43 => ?_)
     ·replace h := of_br_t b43 h
      cbv
      injection h with h
      refine hY14 _ h.symm _ _ (And.intro rfl ?_) (by intro hh; cases hh)
      exact le_sparse rfl ⟨lR _, trivial⟩ trivial rfl
     ·replace h := of_br_f b43 h
      cbv
      replace h := of_bind h
      obtain ⟨y27, hr28, hN29⟩ := h
      refine loop_cut hr28 (fun x => (sparse 48 [(1, .c (.ptr 64 0)), (3, .c (.v (.int .i64 v9))), (4, .c (.v (.int .i64 x)))] [(64, .var [.bs (LEN a0.fCells) 4 (row GD (encCell LEN GD) a0.fCells)])])) ?_ (fun y e s => (match y with | .inl w => e = .ret ∧ s.le (sparse 48 [(2, .c (.v (.bool w)))] []) | .inr w0 => (fun (w : Unit) => e = .exit 2 ∧ s.le (sparse 48 [(1, .c (.ptr 64 0)), (3, .c (.v (.int .i64 v9)))] [(64, .var [.bs (LEN a0.fCells) 4 (row GD (encCell LEN GD) a0.fCells)])])) w0)) ?_ ?_
      ·clear hr28 hN29
       show St.le _ _
       exact le_sparse rfl ⟨lR _, lR _, lR _, trivial⟩ ⟨rfl, trivial⟩ rfl
      ·clear hr28 hN29
       intro x z33 h K31 hK32 hY30
       replace h := of_let h
       obtain ⟨v25, hv25, h⟩ := h
       have hv25 : v25 = x := hv25
       subst hv25
       cbv
       refine fork (fun b41 => ?_) (fun b41 => ?_)
       ·replace h := of_br_t b41 h
        cbv
        replace h := of_req h
        obtain ⟨c38, h⟩ := h
        refine ⟨⟨c38, trivial⟩, ?_⟩
        replace h := of_req h
        obtain ⟨c39, h⟩ := h
        refine ⟨⟨c39, trivial⟩, ?_⟩
        refine fork (fun b40 => ?_) (fun b40 => ?_)
        ·replace h := of_br_t b40 h
         cbv
         injection h with h
         refine hY30 _ h.symm _ _ (And.intro rfl ?_) (by intro hh; cases hh)
         exact le_sparse rfl ⟨lR _, trivial⟩ trivial rfl
        ·replace h := of_br_f b40 h
         cbv
         injection h with h
         refine hK32 _ h.symm _ ?_
         exact le_sparse rfl ⟨lR _, lR _, lR _, trivial⟩ ⟨rfl, trivial⟩ rfl
       ·replace h := of_br_f b41 h
        cbv
        injection h with h
        refine hY30 _ h.symm _ _ (And.intro rfl ?_) (by intro hh; cases hh)
        exact le_sparse rfl ⟨lR _, lR _, trivial⟩ ⟨rfl, trivial⟩ rfl
      ·clear hr28
       have h := hN29
       clear hN29
       intro e36 s37 q35 hne
       rcases y27 with y27k0 | y27m0
       ·replace h := h
        obtain ⟨rfl, q35⟩ := q35
        replace h := of_let h
        obtain ⟨w42, hw42, h⟩ := h
        have hw42 : w42 = y27k0 := hw42
        subst hw42
        cbv
        injection h with h
        refine hY14 _ h.symm _ _ (And.intro rfl ?_) (by intro hh; cases hh)
        refine St.le_trans q35 ?_
        exact le_sparse rfl ⟨lR _, trivial⟩ trivial rfl
       ·obtain ⟨rfl, q35⟩ := q35
        cbv
        refine ⟨_, q35, ?_⟩
        cbv
        injection h with h
        refine hK16 _ h.symm _ ?_
        exact le_sparse rfl ⟨lR _, lR _, trivial⟩ ⟨rfl, trivial⟩ rfl
    ·replace h := of_br_f b44 h
     cbv
     injection h with h
     refine hY14 _ h.symm _ _ (And.intro rfl ?_) (by intro hh; cases hh)
     exact le_sparse rfl trivial trivial rfl
   ·clear hr12
    have h := hN13
    clear hN13
    intro e20 s21 q19 hne
    rcases y11 with y11k0 | y11m0
    ·replace h := h
     obtain ⟨rfl, q19⟩ := q19
     replace h := of_let h
     obtain ⟨w45, hw45, h⟩ := h
     have hw45 : w45 = y11k0 := hw45
     subst hw45
     cbv
     injection h with h
     subst h
     refine ⟨(sparse 48 [(2, .c (.v (.bool w45)))] []), ?_, ?_⟩
     ·refine St.le_trans q19 ?_
      exact le_sparse rfl ⟨lR _, trivial⟩ trivial rfl
     ·exact ⟨lR _, trivial, rfl⟩
    ·obtain ⟨rfl, q19⟩ := q19
     cbv
     refine ⟨_, q19, ?_⟩
     cbv
     injection h with h
     subst h
     refine ⟨(sparse 48 [(2, .c (.v (.bool true)))] []), ?_, ?_⟩
     ·exact le_sparse rfl ⟨lR _, trivial⟩ trivial rfl
     ·exact ⟨lR _, trivial, rfl⟩
/-- spec.l09Has -/
noncomputable def F_spec_l09Has (a0 : TLibrary) (a1 : Int) : Option (Bool) :=
 ((
    (F_spec_IsValidLibrary a0).bind fun y8 =>
    br y8
    ((F_spec_l09In a1 0 (std.sub .i64 (std.ofN (len a0.fCells)) 1)).bind fun y10 =>
    some y10)
    (some false)
  ) : Option (Bool)).bind fun y1 =>
 letO y1 fun w7 =>
 some w7
theorem run_spec_l09Has (a0 : TLibrary) (a1 : Int) (r : Bool) (h : F_spec_l09Has a0 a1 = some r) : Fun Tryz.prog 27 [.agg [.bs (len a0.fCells) 4 (row gd (encCell len gd) a0.fCells)], .c (.v (.int .i64 a1))] [] (.c (.v (.bool r))) [] true := by
 refine Fun.of_wp (oneOf [1]) tok mixed Tryz.func27 (by kernel_rfl) rfl Tryz.ntmps27 rfl trivial (fun _ => ⟨trivial, trivial⟩) ?_
 unfold F_spec_l09Has at h
 have hf_spec_IsValidLibrary := @run_spec_IsValidLibrary
 have hf_spec_l09In := @run_spec_l09In
 generalize hLEN : @len = LEN at *
 generalize hGD : @gd = GD at *
 generalize hA : std = A at *
 generalize hP : Tryz.prog = P at *
 cbv
 replace h := of_bind h
 obtain ⟨y1, hy2, h⟩ := h
 obtain ⟨S5, hS6⟩ : ∃ S, S = (sparse 15 [(4, .c (.v (.bool y1)))] []) := ⟨_, rfl⟩
 refine ⟨S5, ?_, ?_⟩
 ·clear h
  have h := hy2
  clear hy2
  cbv
  replace h := of_bind h
  obtain ⟨y8, hy9, h⟩ := h
  refine ⟨{ args := [.agg [.bs (LEN a0.fCells) 4 (row GD (encCell LEN GD) a0.fCells)]], o0 := [], r := .c (.v (.bool y8)), o1 := [], fl := true, σ := [], τ := [] }, hf_spec_IsValidLibrary _ _ hy9, ⟨les_cons (lR _) (les_nil), trivial, rfl, rfl, rfl, rfl, trivial, rfl⟩, ?_⟩
  cbv
  refine fork (fun b12 => ?_) (fun b12 => ?_)
  ·replace h := of_br_t b12 h
   cbv
   replace h := of_bind h
   obtain ⟨y10, hy11, h⟩ := h
   refine ⟨{ args := [.c (.v (.int .i64 a1)), .c (.v (.int .i64 0)), .c (.v (.int .i64 (A.sub .i64 (A.ofN (LEN a0.fCells)) 1)))], o0 := [], r := .c (.v (.bool y10)), o1 := [], fl := true, σ := [], τ := [] }, hf_spec_l09In _ _ _ _ hy11, ⟨les_cons (lR _) (les_cons (lR _) (les_cons (lR _) (les_nil))), trivial, rfl, rfl, rfl, rfl, trivial, rfl⟩, ?_⟩
   cbv
   injection h with h
   subst h
   subst hS6
   show St.le _ _
   exact le_sparse rfl ⟨lR _, trivial⟩ trivial rfl
  ·replace h := of_br_f b12 h
   cbv
   injection h with h
   subst h
   subst hS6
   show St.le _ _
   exact le_sparse rfl ⟨lR _, trivial⟩ trivial rfl
 ·clear hy2
  subst hS6
  replace h := of_let h
  obtain ⟨w7, hw7, h⟩ := h
  have hw7 : w7 = y1 := hw7
  subst hw7
  cbv
  injection h with h
  subst h
  refine ⟨(sparse 15 [(4, .c (.v (.bool w7)))] []), ?_, ?_⟩
  ·exact le_sparse rfl ⟨lR _, trivial⟩ trivial rfl
  ·exact ⟨lR _, trivial, rfl⟩

noncomputable def L_spec_ElementCount_x22 (a0 : TLibrary) (v6 : List Int) (v5 : Int) : (Int × Int) → Option ((Int × Int) ⊕ ((Int))) := fun x22 =>
 letO x22.1 fun v20 =>
 letO x22.2 fun v21 =>
 br (std.lt v21 (std.ofN (len (gd a0.fCells (std.toN v5)).fInstances)))
 (req (std.inR v21 (len (gd a0.fCells (std.toN v5)).fInstances)) <|
 req (std.inR v21 (len (gd a0.fCells (std.toN v5)).fInstances)) <|
 req (std.inR v21 (len (gd a0.fCells (std.toN v5)).fInstances)) <|
 req (std.inR (gd (gd a0.fCells (std.toN v5)).fInstances (std.toN v21)).fCell (len v6)) <|
 some (.inl (std.add .i64 v20 (std.mul .i64 (std.mul .i64 (gd (gd a0.fCells (std.toN v5)).fInstances (std.toN v21)).fColumns (gd (gd a0.fCells (std.toN v5)).fInstances (std.toN v21)).fRows) (gd v6 (std.nadd 0 (std.toN (gd (gd a0.fCells (std.toN v5)).fInstances (std.toN v21)).fCell)))), std.add .i64 v21 1)))
 (some (.inr v20))
noncomputable def L_spec_ElementCount_x7 (a0 : TLibrary) : (Int × (List Int)) → Option ((Int × (List Int)) ⊕ (((List Int)))) := fun x7 =>
 letO x7.1 fun v5 =>
 letO x7.2 fun v6 =>
 br (std.lt v5 (std.ofN (len a0.fCells)))
 (req (std.inR v5 (len a0.fCells)) <|
 (whileP (σ := Int × Int) (ρ := (Int)) (L_spec_ElementCount_x22 a0 v6 v5) (1, 0)).bind fun y23 =>
 letO y23 fun y23k0 =>
 letO y23k0 fun w39 =>
 letO ([w39] : List Int) fun l40 =>
 req (std.room (std.nadd (len v6) (len l40)) 8) <|
 letO (v6 ++ l40) fun l42 =>
 some (.inl (std.add .i64 v5 1, l42)))
 (some (.inr v6))
/-- spec.ElementCount -/
noncomputable def F_spec_ElementCount (a0 : TLibrary) (a1 : Int) : Option (Int) :=
 (F_spec_l09Has a0 a1).bind fun y1 =>
 br (!(y1))
 (some (-1))
 (letO ([] : List Int) fun l3 =>
 (whileP (σ := Int × (List Int)) (ρ := ((List Int))) (L_spec_ElementCount_x7 a0) (0, l3)).bind fun y8 =>
 letO y8 fun y8k0 =>
 letO y8k0 fun w46 =>
 req (std.inR a1 (len w46)) <|
 some (gd w46 (std.nadd 0 (std.toN a1))))
theorem run_spec_ElementCount (a0 : TLibrary) (a1 : Int) (r : Int) (h : F_spec_ElementCount a0 a1 = some r) : Fun Tryz.prog 28 [.agg [.bs (len a0.fCells) 4 (row gd (encCell len gd) a0.fCells)], .c (.v (.int .i64 a1))] [] (.c (.v (.int .i64 r))) [] true := by
 refine Fun.of_wp (oneOf []) tok mixed Tryz.func28 (by kernel_rfl) rfl Tryz.ntmps28 rfl trivial (fun _ => ⟨trivial, trivial⟩) ?_
 unfold F_spec_ElementCount at h
 unfold L_spec_ElementCount_x7 at h
 unfold L_spec_ElementCount_x22 at h
 have hf_spec_l09Has := @run_spec_l09Has
 generalize hLEN : @len = LEN at *
 generalize hGD : @gd = GD at *
 generalize hA : std = A at *
 generalize hP : Tryz.prog = P at *
 cbv
 replace h := of_bind h
 obtain ⟨y1, hy2, h⟩ := h
 refine ⟨{ args := [.agg [.bs (LEN a0.fCells) 4 (row GD (encCell LEN GD) a0.fCells)], .c (.v (.int .i64 a1))], o0 := [], r := .c (.v (.bool y1)), o1 := [], fl := true, σ := [], τ := [] }, hf_spec_l09Has _ _ _ hy2, ⟨les_cons (lR _) (les_cons (lR _) (les_nil)), trivial, rfl, rfl, rfl, rfl, trivial, rfl⟩, ?_⟩
 cbv
 refine fork (fun b48 => ?_) (fun b48 => ?_)
 ·replace h := of_br_t b48 h
  cbv
  injection h with h
  subst h
  refine ⟨(sparse 64 [(4, .c (.v (.int .i64 (-1))))] []), ?_, ?_⟩
  ·exact le_sparse rfl ⟨lR _, trivial⟩ trivial rfl
  ·exact ⟨lR _, trivial, rfl⟩
 ·replace h := of_br_f b48 h
  cbv
  replace h := of_let h
  obtain ⟨l3, hl3, h⟩ := h
  have e4 : 0 = LEN l3 := by subst hl3 hLEN; rfl
  refine ⟨_, congrArg (fun n => AV.c (AC.os 896 0 n)) e4, _, row GD (encI .i64) l3, e4, ?_, ?_⟩
  ·intro i hi j hj
   rw [← e4] at hi
   subst hl3
   subst hGD
   omega
  cbv
  replace h := of_bind h
  obtain ⟨y8, hr9, hN10⟩ := h
  refine loop_cut hr9 (fun x => (sparse 64 [(1, .c (.v (.int .i64 a1))), (2, .c (.ptr 128 0)), (5, .c (.os 896 0 (LEN x.2))), (6, .c (.v (.int .i64 x.1)))] [(128, .var [.bs (LEN a0.fCells) 4 (row GD (encCell LEN GD) a0.fCells)]), (896, .arr .rw [] (LEN x.2) 1 (row GD (encI .i64) x.2))])) ?_ (fun y e s => (fun (w : (List Int)) => e = .exit 0 ∧ s.le (sparse 64 [(1, .c (.v (.int .i64 a1))), (5, .c (.os 896 0 (LEN w)))] [(896, .arr .rw [] (LEN w) 1 (row GD (encI .i64) w))])) y) ?_ ?_
  ·clear hr9 hN10
   show St.le _ _
   exact le_sparse rfl ⟨lR _, lR _, lR _, lR _, trivial⟩ ⟨rfl, oS, trivial⟩ rfl
  ·clear hr9 hN10
   intro x z14 h K12 hK13 hY11
   obtain ⟨x0_, x1_⟩ := x
   replace h := of_let h
   obtain ⟨v5, hv5, h⟩ := h
   have hv5 : v5 = x0_ := hv5
   subst hv5
   replace h := of_let h
   obtain ⟨v6, hv6, h⟩ := h
   have hv6 : v6 = x1_ := hv6
   subst hv6
   cbv
   refine fork (fun b45 => ?_) (fun b45 => ?_)
   ·replace h := of_br_t b45 h
    cbv
    replace h := of_req h
    obtain ⟨c19, h⟩ := h
    refine ⟨⟨c19, trivial⟩, ?_⟩
    replace h := of_bind h
    obtain ⟨y23, hr24, hN25⟩ := h
    refine loop_cut hr24 (fun x => (sparse 64 [(1, .c (.v (.int .i64 a1))), (2, .c (.ptr 128 0)), (5, .c (.os 896 0 (LEN v6))), (6, .c (.v (.int .i64 v5))), (7, .c (.v (.int .i64 x.1))), (8, .c (.bs (LEN (GD a0.fCells (A.toN v5)).fInstances) 8 (row GD (encInstance) (GD a0.fCells (A.toN v5)).fInstances))), (9, .c (.v (.int .i64 x.2)))] [(128, .var [.bs (LEN a0.fCells) 4 (row GD (encCell LEN GD) a0.fCells)]), (896, .arr .rw [] (LEN v6) 1 (row GD (encI .i64) v6))])) ?_ (fun y e s => (fun (w : Int) => e = .exit 2 ∧ s.le (sparse 64 [(1, .c (.v (.int .i64 a1))), (2, .c (.ptr 128 0)), (5, .c (.os 896 0 (LEN v6))), (6, .c (.v (.int .i64 v5))), (7, .c (.v (.int .i64 w)))] [(128, .var [.bs (LEN a0.fCells) 4 (row GD (encCell LEN GD) a0.fCells)]), (896, .arr .rw [] (LEN v6) 1 (row GD (encI .i64) v6))])) y) ?_ ?_
    ·clear hr24 hN25
     show St.le _ _
     exact le_sparse rfl ⟨lR _, lR _, lR _, lR _, lR _, lR _, lR _, trivial⟩ ⟨rfl, oS, trivial⟩ rfl
    ·clear hr24 hN25
     intro x z29 h K27 hK28 hY26
     obtain ⟨x0_, x1_⟩ := x
     replace h := of_let h
     obtain ⟨v20, hv20, h⟩ := h
     have hv20 : v20 = x0_ := hv20
     subst hv20
     replace h := of_let h
     obtain ⟨v21, hv21, h⟩ := h
     have hv21 : v21 = x1_ := hv21
     subst hv21
     cbv
     refine fork (fun b38 => ?_) (fun b38 => ?_)
     ·replace h := of_br_t b38 h
      cbv
      replace h := of_req h
      obtain ⟨c34, h⟩ := h
      refine ⟨⟨c34, trivial⟩, ?_⟩
      replace h := of_req h
      obtain ⟨c35, h⟩ := h
      refine ⟨⟨c35, trivial⟩, ?_⟩
      replace h := of_req h
      obtain ⟨c36, h⟩ := h
      refine ⟨⟨c36, trivial⟩, ?_⟩
      replace h := of_req h
      obtain ⟨c37, h⟩ := h
      refine ⟨⟨c37, trivial⟩, ?_⟩
      refine And.intro (by first | exact (by subst hA; exact idx_lt c37) | (refine And.intro (by subst hA; exact idx_lt c37) ?_; first | trivial | exact ⟨trivial, trivial⟩)) ?_
      injection h with h
      refine hK28 _ h.symm _ ?_
      exact le_sparse rfl ⟨lR _, lR _, lR _, lR _, lR _, lR _, lR _, trivial⟩ ⟨rfl, oS, trivial⟩ rfl
     ·replace h := of_br_f b38 h
      cbv
      injection h with h
      refine hY26 _ h.symm _ _ (And.intro rfl ?_) (by intro hh; cases hh)
      exact le_sparse rfl ⟨lR _, lR _, lR _, lR _, lR _, trivial⟩ ⟨rfl, oS, trivial⟩ rfl
    ·clear hr24
     have h := hN25
     clear hN25
     intro e32 s33 q31 hne
     replace h := of_let h
     obtain ⟨y23k0, hyk, h⟩ := h
     have hyk : y23k0 = y23 := hyk
     subst hyk
     obtain ⟨rfl, q31⟩ := q31
     replace h := of_let h
     obtain ⟨w39, hw39, h⟩ := h
     have hw39 : w39 = y23k0 := hw39
     subst hw39
     cbv
     refine ⟨_, q31, ?_⟩
     cbv
     replace h := of_let h
     obtain ⟨l40, hl40, h⟩ := h
     have e41 : 1 = LEN l40 := by subst hl40 hLEN; rfl
     refine ⟨_, congrArg (fun n => AV.c (AC.os 3712 0 n)) e41, _, row GD (encI .i64) l40, e41, ?_, ?_⟩
     ·intro i hi j hj
      rw [← e41] at hi
      subst hl40
      subst hGD
      obtain rfl : i = 0 := (by omega)
      all_goals obtain rfl : j = 0 := by omega
      all_goals rfl
     cbv
     replace h := of_req h
     obtain ⟨c44, h⟩ := h
     replace h := of_let h
     obtain ⟨l42, hl42, h⟩ := h
     have e43 : A.nadd (LEN v6) (LEN l40) = LEN l42 := by subst hl42 hLEN hA; simp [std, len]
     refine ⟨c44, _, congrArg (fun n => AV.c (AC.os 896 0 n)) e43, _, row GD (encI .i64) l42, e43, ?_, ?_⟩
     ·subst hGD hLEN hA
      exact app_os (off := 0) (fun _ _ => rfl) hl42 (Nat.le_refl _)
     cbv
     injection h with h
     refine hK13 _ h.symm _ ?_
     exact le_sparse rfl ⟨lR _, lR _, lR _, lR _, trivial⟩ ⟨rfl, oS, trivial⟩ rfl
   ·replace h := of_br_f b45 h
    cbv
    injection h with h
    refine hY11 _ h.symm _ _ (And.intro rfl ?_) (by intro hh; cases hh)
    exact le_sparse rfl ⟨lR _, lR _, trivial⟩ ⟨oS, trivial⟩ rfl
  ·clear hr9
   have h := hN10
   clear hN10
   intro e17 s18 q16 hne
   replace h := of_let h
   obtain ⟨y8k0, hyk, h⟩ := h
   have hyk : y8k0 = y8 := hyk
   subst hyk
   obtain ⟨rfl, q16⟩ := q16
   replace h := of_let h
   obtain ⟨w46, hw46, h⟩ := h
   have hw46 : w46 = y8k0 := hw46
   subst hw46
   cbv
   refine ⟨_, q16, ?_⟩
   cbv
   replace h := of_req h
   obtain ⟨c47, h⟩ := h
   refine ⟨⟨c47, trivial⟩, ?_⟩
   refine And.intro (by first | exact (by subst hA; exact idx_lt c47) | (refine And.intro (by subst hA; exact idx_lt c47) ?_; first | trivial | exact ⟨trivial, trivial⟩)) ?_
   injection h with h
   subst h
   refine ⟨(sparse 64 [(4, .c (.v (.int .i64 (GD w46 (A.nadd 0 (A.toN a1))))))] []), ?_, ?_⟩
   ·exact le_sparse rfl ⟨lR _, trivial⟩ trivial rfl
   ·exact ⟨lR _, trivial, rfl⟩

/-- spec.l10Hull -/
noncomputable def F_spec_l10Hull (a0 : TRect) (a1 : TRect) : Option (TRect) :=
 some (TRect.mk (std.imin a0.fX0 a1.fX0) (std.imin a0.fY0 a1.fY0) (std.imax a0.fX1 a1.fX1) (std.imax a0.fY1 a1.fY1))
theorem run_spec_l10Hull (a0 : TRect) (a1 : TRect) (r : TRect) (h : F_spec_l10Hull a0 a1 = some r) : Fun Tryz.prog 99 [.agg [.v (.int .i64 a0.fX0), .v (.int .i64 a0.fY0), .v (.int .i64 a0.fX1), .v (.int .i64 a0.fY1)], .agg [.v (.int .i64 a1.fX0), .v (.int .i64 a1.fY0), .v (.int .i64 a1.fX1), .v (.int .i64 a1.fY1)]] [] (.agg [.v (.int .i64 r.fX0), .v (.int .i64 r.fY0), .v (.int .i64 r.fX1), .v (.int .i64 r.fY1)]) [] true := by
 refine Fun.of_wp (oneOf []) tok mixed Tryz.func99 (by kernel_rfl) rfl Tryz.ntmps99 rfl trivial (fun _ => ⟨(by simp [AV.flat, AV.flat1, AC.flat]), trivial⟩) ?_
 unfold F_spec_l10Hull at h
 generalize hLEN : @len = LEN at *
 generalize hGD : @gd = GD at *
 generalize hA : std = A at *
 generalize hP : Tryz.prog = P at *
 cbv
 injection h with h
 subst h
 refine ⟨(sparse 26 [(4, .c (.ptr 256 0))] [(256, .var [.v (.int .i64 (A.imin a0.fX0 a1.fX0)), .v (.int .i64 (A.imin a0.fY0 a1.fY0)), .v (.int .i64 (A.imax a0.fX1 a1.fX1)), .v (.int .i64 (A.imax a0.fY1 a1.fY1))])]), ?_, ?_⟩
 ·exact le_sparse rfl ⟨lR _, trivial⟩ ⟨rfl, trivial⟩ rfl
 ·exact ⟨lR _, trivial, rfl⟩

noncomputable def L_spec_l12Own_x53 (w46 : List TRect) : (Int × Int × Int × Int × Int) → Option ((Int × Int × Int × Int × Int) ⊕ ((Int × Int × Int × Int))) := fun x53 =>
 letO x53.1 fun v48 =>
 letO x53.2.1 fun v49 =>
 letO x53.2.2.1 fun v50 =>
 letO x53.2.2.2.1 fun v51 =>
 letO x53.2.2.2.2 fun v52 =>
 br (std.lt v48 (std.ofN (len w46)))
 (req (std.inR v48 (len w46)) <|
 (F_spec_l10Hull (TRect.mk v49 v50 v51 v52) (gd w46 (std.nadd 0 (std.toN v48)))).bind fun y66 =>
 some (.inl (std.add .i64 v48 1, y66.fX0, y66.fY0, y66.fX1, y66.fY1)))
 (some (.inr (v49, v50, v51, v52)))
noncomputable def L_spec_l12Own_x27 (a0 : TCell) : (Int × (List TRect)) → Option ((Int × (List TRect)) ⊕ (((List TRect)))) := fun x27 =>
 letO x27.1 fun v25 =>
 letO x27.2 fun v26 =>
 br (std.lt v25 (std.ofN (len a0.fLabels)))
 (req (std.inR v25 (len a0.fLabels)) <|
 letO ([(TRect.mk (gd a0.fLabels (std.toN v25)).fAt.fX (gd a0.fLabels (std.toN v25)).fAt.fY (std.add .i64 (gd a0.fLabels (std.toN v25)).fAt.fX 1) (std.add .i64 (gd a0.fLabels (std.toN v25)).fAt.fY 1))] : List TRect) fun l40 =>
 req (std.room (std.nadd (len v26) (len l40)) 32) <|
 letO (v26 ++ l40) fun l42 =>
 some (.inl (std.add .i64 v25 1, l42)))
 (some (.inr v26))
noncomputable def L_spec_l12Own_x5 (a0 : TCell) : (Int × (List TRect)) → Option ((Int × (List TRect)) ⊕ (((List TRect)))) := fun x5 =>
 letO x5.1 fun v3 =>
 letO x5.2 fun v4 =>
 br (std.lt v3 (std.ofN (len a0.fShapes)))
 (req (std.inR v3 (len a0.fShapes)) <|
 letO ([(gd a0.fShapes (std.toN v3)).fBox] : List TRect) fun l18 =>
 req (std.room (std.nadd (len v4) (len l18)) 32) <|
 letO (v4 ++ l18) fun l20 =>
 some (.inl (std.add .i64 v3 1, l20)))
 (some (.inr v4))
/-- spec.l12Own -/
noncomputable def F_spec_l12Own (a0 : TCell) : Option (TRect × Bool) :=
 letO ([] : List TRect) fun l1 =>
 (whileP (σ := Int × (List TRect)) (ρ := ((List TRect))) (L_spec_l12Own_x5 a0) (0, l1)).bind fun y6 =>
 letO y6 fun y6k0 =>
 letO y6k0 fun w24 =>
 (whileP (σ := Int × (List TRect)) (ρ := ((List TRect))) (L_spec_l12Own_x27 a0) (0, w24)).bind fun y28 =>
 letO y28 fun y28k0 =>
 letO y28k0 fun w46 =>
 br (std.eq (std.ofN (len w46)) 0)
 (some ((TRect.mk 0 0 0 0), false))
 (req (std.inR 0 (len w46)) <|
 (whileP (σ := Int × Int × Int × Int × Int) (ρ := (Int × Int × Int × Int)) (L_spec_l12Own_x53 w46) (1, (gd w46 (std.nadd 0 (std.toN 0))).fX0, (gd w46 (std.nadd 0 (std.toN 0))).fY0, (gd w46 (std.nadd 0 (std.toN 0))).fX1, (gd w46 (std.nadd 0 (std.toN 0))).fY1)).bind fun y54 =>
 letO y54 fun y54k0 =>
 letO y54k0.1 fun w69 =>
 letO y54k0.2.1 fun w70 =>
 letO y54k0.2.2.1 fun w71 =>
 letO y54k0.2.2.2 fun w72 =>
 some ((TRect.mk w69 w70 w71 w72), true))
theorem run_spec_l12Own (a0 : TCell) (r : TRect × Bool) (h : F_spec_l12Own a0 = some r) : Fun Tryz.prog 97 [.agg [.v (.string a0.fName), .bs (len a0.fShapes) 5 (row gd (encShape) a0.fShapes), .bs (len a0.fLabels) 4 (row gd (encLabel) a0.fLabels), .bs (len a0.fInstances) 8 (row gd (encInstance) a0.fInstances)]] [] (.tup [.agg [.v (.int .i64 r.1.fX0), .v (.int .i64 r.1.fY0), .v (.int .i64 r.1.fX1), .v (.int .i64 r.1.fY1)], .c (.v (.bool r.2))]) [] true := by
 refine Fun.of_wp (oneOf []) tok mixed Tryz.func97 (by kernel_rfl) rfl Tryz.ntmps97 rfl trivial (fun _ => ⟨(by simp [AV.flat, AV.flat1, AC.flat]), trivial⟩) ?_
 unfold F_spec_l12Own at h
 unfold L_spec_l12Own_x5 at h
 unfold L_spec_l12Own_x27 at h
 unfold L_spec_l12Own_x53 at h
 have hf_spec_l10Hull := @run_spec_l10Hull
 generalize hLEN : @len = LEN at *
 generalize hGD : @gd = GD at *
 generalize hA : std = A at *
 generalize hP : Tryz.prog = P at *
 cbv
 replace h := of_let h
 obtain ⟨l1, hl1, h⟩ := h
 have e2 : 0 = LEN l1 := by subst hl1 hLEN; rfl
 refine ⟨_, congrArg (fun n => AV.c (AC.os 640 0 n)) e2, _, row GD (encRect) l1, e2, ?_, ?_⟩
 ·intro i hi j hj
  rw [← e2] at hi
  subst hl1
  subst hGD
  omega
 cbv
 replace h := of_bind h
 obtain ⟨y6, hr7, hN8⟩ := h
 refine loop_cut hr7 (fun x => (sparse 74 [(1, .c (.ptr 64 0)), (2, .c (.ptr 128 0)), (4, .c (.os 640 0 (LEN x.2))), (5, .c (.v (.int .i64 x.1)))] [(64, .var [.v (.string a0.fName), .bs (LEN a0.fShapes) 5 (row GD (encShape) a0.fShapes), .bs (LEN a0.fLabels) 4 (row GD (encLabel) a0.fLabels), .bs (LEN a0.fInstances) 8 (row GD (encInstance) a0.fInstances)]), (128, .var [.v (.int .i64 0), .v (.int .i64 0), .v (.int .i64 0), .v (.int .i64 0)]), (640, .arr .rw [] (LEN x.2) 4 (row GD (encRect) x.2))])) ?_ (fun y e s => (fun (w : (List TRect)) => e = .exit 0 ∧ s.le (sparse 74 [(1, .c (.ptr 64 0)), (2, .c (.ptr 128 0)), (4, .c (.os 640 0 (LEN w)))] [(64, .var [.v (.string a0.fName), .bs (LEN a0.fShapes) 5 (row GD (encShape) a0.fShapes), .bs (LEN a0.fLabels) 4 (row GD (encLabel) a0.fLabels), .bs (LEN a0.fInstances) 8 (row GD (encInstance) a0.fInstances)]), (128, .var [.v (.int .i64 0), .v (.int .i64 0), .v (.int .i64 0), .v (.int .i64 0)]), (640, .arr .rw [] (LEN w) 4 (row GD (encRect) w))])) y) ?_ ?_
 ·clear hr7 hN8
  show St.le _ _
  exact le_sparse rfl ⟨lR _, lR _, lR _, lR _, trivial⟩ ⟨rfl, rfl, oS, trivial⟩ rfl
 ·clear hr7 hN8
  intro x z12 h K10 hK11 hY9
  obtain ⟨x0_, x1_⟩ := x
  replace h := of_let h
  obtain ⟨v3, hv3, h⟩ := h
  have hv3 : v3 = x0_ := hv3
  subst hv3
  replace h := of_let h
  obtain ⟨v4, hv4, h⟩ := h
  have hv4 : v4 = x1_ := hv4
  subst hv4
  cbv
  refine fork (fun b23 => ?_) (fun b23 => ?_)
  ·replace h := of_br_t b23 h
   cbv
   replace h := of_req h
   obtain ⟨c17, h⟩ := h
   refine ⟨⟨c17, trivial⟩, ?_⟩
   replace h := of_let h
   obtain ⟨l18, hl18, h⟩ := h
   have e19 : 1 = LEN l18 := by subst hl18 hLEN; rfl
   refine ⟨_, congrArg (fun n => AV.c (AC.os 1600 0 n)) e19, _, row GD (encRect) l18, e19, ?_, ?_⟩
   ·intro i hi j hj
    rw [← e19] at hi
    subst hl18
    subst hGD
    obtain rfl : i = 0 := (by omega) <;> obtain rfl | rfl | rfl | rfl : j = 0 ∨ j = 1 ∨ j = 2 ∨ j = 3 := (by omega)
    all_goals rfl
   cbv
   replace h := of_req h
   obtain ⟨c22, h⟩ := h
   replace h := of_let h
   obtain ⟨l20, hl20, h⟩ := h
   have e21 : A.nadd (LEN v4) (LEN l18) = LEN l20 := by subst hl20 hLEN hA; simp [std, len]
   refine ⟨c22, _, congrArg (fun n => AV.c (AC.os 640 0 n)) e21, _, row GD (encRect) l20, e21, ?_, ?_⟩
   ·subst hGD hLEN hA
    exact app_os (off := 0) (pl_encRect) hl20 (Nat.le_refl _)
   cbv
   injection h with h
   refine hK11 _ h.symm _ ?_
   exact le_sparse rfl ⟨lR _, lR _, lR _, lR _, trivial⟩ ⟨rfl, rfl, oS, trivial⟩ rfl
  ·replace h := of_br_f b23 h
   cbv
   injection h with h
   refine hY9 _ h.symm _ _ (And.intro rfl ?_) (by intro hh; cases hh)
   exact le_sparse rfl ⟨lR _, lR _, lR _, trivial⟩ ⟨rfl, rfl, oS, trivial⟩ rfl
 ·clear hr7
  have h := hN8
  clear hN8
  intro e15 s16 q14 hne
  replace h := of_let h
  obtain ⟨y6k0, hyk, h⟩ := h
  have hyk : y6k0 = y6 := hyk
  subst hyk
  obtain ⟨rfl, q14⟩ := q14
  replace h := of_let h
  obtain ⟨w24, hw24, h⟩ := h
  have hw24 : w24 = y6k0 := hw24
  subst hw24
  cbv
  refine ⟨_, q14, ?_⟩
  cbv
  replace h := of_bind h
  obtain ⟨y28, hr29, hN30⟩ := h
  refine loop_cut hr29 (fun x => (sparse 74 [(1, .c (.ptr 64 0)), (2, .c (.ptr 128 0)), (4, .c (.os 640 0 (LEN x.2))), (6, .c (.v (.int .i64 x.1)))] [(64, .var [.v (.string a0.fName), .bs (LEN a0.fShapes) 5 (row GD (encShape) a0.fShapes), .bs (LEN a0.fLabels) 4 (row GD (encLabel) a0.fLabels), .bs (LEN a0.fInstances) 8 (row GD (encInstance) a0.fInstances)]), (128, .var [.v (.int .i64 0), .v (.int .i64 0), .v (.int .i64 0), .v (.int .i64 0)]), (640, .arr .rw [] (LEN x.2) 4 (row GD (encRect) x.2))])) ?_ (fun y e s => (fun (w : (List TRect)) => e = .exit 2 ∧ s.le (sparse 74 [(2, .c (.ptr 128 0)), (4, .c (.os 640 0 (LEN w)))] [(128, .var [.v (.int .i64 0), .v (.int .i64 0), .v (.int .i64 0), .v (.int .i64 0)]), (640, .arr .rw [] (LEN w) 4 (row GD (encRect) w))])) y) ?_ ?_
  ·clear hr29 hN30
   show St.le _ _
   exact le_sparse rfl ⟨lR _, lR _, lR _, lR _, trivial⟩ ⟨rfl, rfl, oS, trivial⟩ rfl
  ·clear hr29 hN30
   intro x z34 h K32 hK33 hY31
   obtain ⟨x0_, x1_⟩ := x
   replace h := of_let h
   obtain ⟨v25, hv25, h⟩ := h
   have hv25 : v25 = x0_ := hv25
   subst hv25
   replace h := of_let h
   obtain ⟨v26, hv26, h⟩ := h
   have hv26 : v26 = x1_ := hv26
   subst hv26
   cbv
   refine fork (fun b45 => ?_) (fun b45 => ?_)
   ·replace h := of_br_t b45 h
    cbv
    replace h := of_req h
    obtain ⟨c39, h⟩ := h
    refine ⟨⟨c39, trivial⟩, ?_⟩
    replace h := of_let h
    obtain ⟨l40, hl40, h⟩ := h
    have e41 : 1 = LEN l40 := by subst hl40 hLEN; rfl
    refine ⟨_, congrArg (fun n => AV.c (AC.os 3328 0 n)) e41, _, row GD (encRect) l40, e41, ?_, ?_⟩
    ·intro i hi j hj
     rw [← e41] at hi
     subst hl40
     subst hGD
     obtain rfl : i = 0 := (by omega) <;> obtain rfl | rfl | rfl | rfl : j = 0 ∨ j = 1 ∨ j = 2 ∨ j = 3 := (by omega)
     all_goals rfl
    cbv
    replace h := of_req h
    obtain ⟨c44, h⟩ := h
    replace h := of_let h
    obtain ⟨l42, hl42, h⟩ := h
    have e43 : A.nadd (LEN v26) (LEN l40) = LEN l42 := by subst hl42 hLEN hA; simp [std, len]
    refine ⟨c44, _, congrArg (fun n => AV.c (AC.os 640 0 n)) e43, _, row GD (encRect) l42, e43, ?_, ?_⟩
    ·subst hGD hLEN hA
     exact app_os (off := 0) (pl_encRect) hl42 (Nat.le_refl _)
    cbv
    injection h with h
    refine hK33 _ h.symm _ ?_
    exact le_sparse rfl ⟨lR _, lR _, lR _, lR _, trivial⟩ ⟨rfl, rfl, oS, trivial⟩ rfl
   ·replace h := of_br_f b45 h
    cbv
    injection h with h
    refine hY31 _ h.symm _ _ (And.intro rfl ?_) (by intro hh; cases hh)
    exact le_sparse rfl ⟨lR _, lR _, trivial⟩ ⟨rfl, oS, trivial⟩ rfl
  ·clear hr29
   have h := hN30
   clear hN30
   intro e37 s38 q36 hne
   replace h := of_let h
   obtain ⟨y28k0, hyk, h⟩ := h
   have hyk : y28k0 = y28 := hyk
   subst hyk
   obtain ⟨rfl, q36⟩ := q36
   replace h := of_let h
   obtain ⟨w46, hw46, h⟩ := h
   have hw46 : w46 = y28k0 := hw46
   subst hw46
   cbv
   refine ⟨_, q36, ?_⟩
   cbv
   refine fork (fun b73 => ?_) (fun b73 => ?_)
   ·replace h := of_br_t b73 h
    cbv
    injection h with h
    subst h
    refine ⟨(sparse 74 [(2, .c (.ptr 128 0)), (3, .c (.v (.bool false)))] [(128, .var [.v (.int .i64 0), .v (.int .i64 0), .v (.int .i64 0), .v (.int .i64 0)])]), ?_, ?_⟩
    ·exact le_sparse rfl ⟨lR _, lR _, trivial⟩ ⟨rfl, trivial⟩ rfl
    ·exact ⟨lR _, trivial, rfl⟩
   ·replace h := of_br_f b73 h
    cbv
    replace h := of_req h
    obtain ⟨c47, h⟩ := h
    refine ⟨⟨c47, trivial⟩, ?_⟩
    refine And.intro (by first | exact (by subst hA; exact idx_lt c47) | (refine And.intro (by subst hA; exact idx_lt c47) ?_; first | trivial | exact ⟨trivial, trivial⟩)) ?_
    replace h := of_bind h
    obtain ⟨y54, hr55, hN56⟩ := h
    refine loop_cut hr55 (fun x => (sparse 74 [(2, .c (.ptr 128 0)), (4, .c (.os 640 0 (LEN w46))), (8, .c (.ptr 512 0)), (9, .c (.v (.int .i64 x.1)))] [(128, .var [.v (.int .i64 0), .v (.int .i64 0), .v (.int .i64 0), .v (.int .i64 0)]), (640, .arr .rw [] (LEN w46) 4 (row GD (encRect) w46)), (512, .var [.v (.int .i64 x.2.1), .v (.int .i64 x.2.2.1), .v (.int .i64 x.2.2.2.1), .v (.int .i64 x.2.2.2.2)])])) ?_ (fun y e s => (fun (w : Int × Int × Int × Int) => e = .exit 4 ∧ s.le (sparse 74 [(2, .c (.ptr 128 0)), (8, .c (.ptr 512 0))] [(128, .var [.v (.int .i64 0), .v (.int .i64 0), .v (.int .i64 0), .v (.int .i64 0)]), (512, .var [.v (.int .i64 w.1), .v (.int .i64 w.2.1), .v (.int .i64 w.2.2.1), .v (.int .i64 w.2.2.2)])])) y) ?_ ?_
    ·clear hr55 hN56
     show St.le _ _
     exact le_sparse rfl ⟨lR _, lR _, lR _, lR _, trivial⟩ ⟨rfl, oS, rfl, trivial⟩ rfl
    ·clear hr55 hN56
     intro x z60 h K58 hK59 hY57
     obtain ⟨x0_, x1_, x2_, x3_, x4_⟩ := x
     replace h := of_let h
     obtain ⟨v48, hv48, h⟩ := h
     have hv48 : v48 = x0_ := hv48
     subst hv48
     replace h := of_let h
     obtain ⟨v49, hv49, h⟩ := h
     have hv49 : v49 = x1_ := hv49
     subst hv49
     replace h := of_let h
     obtain ⟨v50, hv50, h⟩ := h
     have hv50 : v50 = x2_ := hv50
     subst hv50
     replace h := of_let h
     obtain ⟨v51, hv51, h⟩ := h
     have hv51 : v51 = x3_ := hv51
     subst hv51
     replace h := of_let h
     obtain ⟨v52, hv52, h⟩ := h
     have hv52 : v52 = x4_ := hv52
     subst hv52
     cbv
     refine fork (fun b68 => ?_) (fun b68 => ?_)
     ·replace h := of_br_t b68 h
      cbv
      replace h := of_req h
      obtain ⟨c65, h⟩ := h
      refine ⟨⟨c65, trivial⟩, ?_⟩
      refine And.intro (by first | exact (by subst hA; exact idx_lt c65) | (refine And.intro (by subst hA; exact idx_lt c65) ?_; first | trivial | exact ⟨trivial, trivial⟩)) ?_
      replace h := of_bind h
      obtain ⟨y66, hy67, h⟩ := h
      refine ⟨{ args := [.agg [.v (.int .i64 v49), .v (.int .i64 v50), .v (.int .i64 v51), .v (.int .i64 v52)], .agg [.v (.int .i64 (GD w46 (A.nadd 0 (A.toN v48))).fX0), .v (.int .i64 (GD w46 (A.nadd 0 (A.toN v48))).fY0), .v (.int .i64 (GD w46 (A.nadd 0 (A.toN v48))).fX1), .v (.int .i64 (GD w46 (A.nadd 0 (A.toN v48))).fY1)]], o0 := [], r := .agg [.v (.int .i64 y66.fX0), .v (.int .i64 y66.fY0), .v (.int .i64 y66.fX1), .v (.int .i64 y66.fY1)], o1 := [], fl := true, σ := [], τ := [] }, hf_spec_l10Hull _ _ _ hy67, ⟨les_cons (lR _) (les_cons (lR _) (les_nil)), trivial, rfl, rfl, rfl, rfl, trivial, rfl⟩, ?_⟩
      cbv
      injection h with h
      refine hK59 _ h.symm _ ?_
      exact le_sparse rfl ⟨lR _, lR _, lR _, lR _, trivial⟩ ⟨rfl, oS, rfl, trivial⟩ rfl
     ·replace h := of_br_f b68 h
      cbv
      injection h with h
      refine hY57 _ h.symm _ _ (And.intro rfl ?_) (by intro hh; cases hh)
      exact le_sparse rfl ⟨lR _, lR _, trivial⟩ ⟨rfl, rfl, trivial⟩ rfl
    ·clear hr55
     have h := hN56
     clear hN56
     intro e63 s64 q62 hne
     replace h := of_let h
     obtain ⟨y54k0, hyk, h⟩ := h
     have hyk : y54k0 = y54 := hyk
     subst hyk
     obtain ⟨rfl, q62⟩ := q62
     obtain ⟨y54k0_0, y54k0_1, y54k0_2, y54k0_3⟩ := y54k0
     replace h := of_let h
     obtain ⟨w69, hw69, h⟩ := h
     have hw69 : w69 = y54k0_0 := hw69
     subst hw69
     replace h := of_let h
     obtain ⟨w70, hw70, h⟩ := h
     have hw70 : w70 = y54k0_1 := hw70
     subst hw70
     replace h := of_let h
     obtain ⟨w71, hw71, h⟩ := h
     have hw71 : w71 = y54k0_2 := hw71
     subst hw71
     replace h := of_let h
     obtain ⟨w72, hw72, h⟩ := h
     have hw72 : w72 = y54k0_3 := hw72
     subst hw72
     cbv
     refine ⟨_, q62, ?_⟩
     cbv
     injection h with h
     subst h
     refine ⟨(sparse 74 [(2, .c (.ptr 128 0)), (3, .c (.v (.bool true)))] [(128, .var [.v (.int .i64 w69), .v (.int .i64 w70), .v (.int .i64 w71), .v (.int .i64 w72)])]), ?_, ?_⟩
     ·exact le_sparse rfl ⟨lR _, lR _, trivial⟩ ⟨rfl, trivial⟩ rfl
     ·exact ⟨lR _, trivial, rfl⟩

noncomputable def L_spec_l10Point_x13  : (Int × Int × Int) → Option ((Int × Int × Int) ⊕ ((Int × Int))) := fun x13 =>
 letO x13.1 fun v10 =>
 letO x13.2.1 fun v11 =>
 letO x13.2.2 fun v12 =>
 br (std.lt 0 v12)
 (some (.inl (std.sub .i64 0 v11, v10, std.sub .i64 v12 1)))
 (some (.inr (v10, v11)))
/-- spec.l10Point -/
noncomputable def F_spec_l10Point (a0 : TTransform) (a1 : TPoint) : Option (TPoint) :=
 ((
    br (std.le 4 a0.fOrientation)
    (some (std.sub .i64 0 a1.fY))
    (some a1.fY)
  ) : Option (Int)).bind fun y1 =>
 letO y1 fun w7 =>
 req (std.nz 4) <|
 (whileP (σ := Int × Int × Int) (ρ := (Int × Int)) L_spec_l10Point_x13 (a1.fX, w7, std.rem a0.fOrientation 4)).bind fun y14 =>
 letO y14 fun y14k0 =>
 letO y14k0.1 fun w26 =>
 letO y14k0.2 fun w27 =>
 some (TPoint.mk (std.add .i64 w26 a0.fX) (std.add .i64 w27 a0.fY))
theorem run_spec_l10Point (a0 : TTransform) (a1 : TPoint) (r : TPoint) (h : F_spec_l10Point a0 a1 = some r) : Fun Tryz.prog 83 [.agg [.v (.int .i64 a0.fOrientation), .v (.int .i64 a0.fX), .v (.int .i64 a0.fY)], .agg [.v (.int .i64 a1.fX), .v (.int .i64 a1.fY)]] [] (.agg [.v (.int .i64 r.fX), .v (.int .i64 r.fY)]) [] true := by
 refine Fun.of_wp (oneOf [100014]) tok mixed Tryz.func83 (by kernel_rfl) rfl Tryz.ntmps83 rfl trivial (fun _ => ⟨(by simp [AV.flat, AV.flat1, AC.flat]), trivial⟩) ?_
 unfold F_spec_l10Point at h
 unfold L_spec_l10Point_x13 at h
 generalize hLEN : @len = LEN at *
 generalize hGD : @gd = GD at *
 generalize hA : std = A at *
 generalize hP : Tryz.prog = P at *
 cbv
 replace h := of_bind h
 obtain ⟨y1, hy2, h⟩ := h
 obtain ⟨S5, hS6⟩ : ∃ S, S = some (sparse 36 [(2, .c (.ptr 128 0)), (4, .c (.ptr 256 0)), (5, .c (.v (.int .i64 a1.fX))), (6, .c (.v (.int .i64 y1)))] [(128, .var [.v (.int .i64 a0.fOrientation), .v (.int .i64 a0.fX), .v (.int .i64 a0.fY)]), (256, .var [.v (.int .i64 0), .v (.int .i64 0)])]) := ⟨_, rfl⟩
 refine ⟨S5, ?_, ?_⟩
 ·clear h
  have h := hy2
  clear hy2
  cbv
  refine fork (fun b8 => ?_) (fun b8 => ?_)
  ·replace h := of_br_t b8 h
   cbv
   injection h with h
   subst h
   subst hS6
   show St.le _ _
   exact le_sparse rfl ⟨lR _, lR _, lR _, lR _, trivial⟩ ⟨rfl, rfl, trivial⟩ rfl
  ·replace h := of_br_f b8 h
   cbv
   injection h with h
   subst h
   subst hS6
   show St.le _ _
   exact le_sparse rfl ⟨lR _, lR _, lR _, lR _, trivial⟩ ⟨rfl, rfl, trivial⟩ rfl
 ·clear hy2
  subst hS6
  replace h := of_let h
  obtain ⟨w7, hw7, h⟩ := h
  have hw7 : w7 = y1 := hw7
  subst hw7
  cbv
  replace h := of_req h
  obtain ⟨c9, h⟩ := h
  refine ⟨c9, ?_⟩
  replace h := of_bind h
  obtain ⟨y14, hr15, hN16⟩ := h
  refine loop_cut hr15 (fun x => (sparse 36 [(2, .c (.ptr 128 0)), (4, .c (.ptr 256 0)), (5, .c (.v (.int .i64 x.1))), (6, .c (.v (.int .i64 x.2.1))), (7, .c (.v (.int .i64 x.2.2)))] [(128, .var [.v (.int .i64 a0.fOrientation), .v (.int .i64 a0.fX), .v (.int .i64 a0.fY)]), (256, .var [.v (.int .i64 0), .v (.int .i64 0)])])) ?_ (fun y e s => (fun (w : Int × Int) => e = .exit 0 ∧ s.le (sparse 36 [(2, .c (.ptr 128 0)), (4, .c (.ptr 256 0)), (5, .c (.v (.int .i64 w.1))), (6, .c (.v (.int .i64 w.2)))] [(128, .var [.v (.int .i64 a0.fOrientation), .v (.int .i64 a0.fX), .v (.int .i64 a0.fY)]), (256, .var [.v (.int .i64 0), .v (.int .i64 0)])])) y) ?_ ?_
  ·clear hr15 hN16
   show St.le _ _
   exact le_sparse rfl ⟨lR _, lR _, lR _, lR _, lR _, trivial⟩ ⟨rfl, rfl, trivial⟩ rfl
  ·clear hr15 hN16
   intro x z20 h K18 hK19 hY17
   obtain ⟨x0_, x1_, x2_⟩ := x
   replace h := of_let h
   obtain ⟨v10, hv10, h⟩ := h
   have hv10 : v10 = x0_ := hv10
   subst hv10
   replace h := of_let h
   obtain ⟨v11, hv11, h⟩ := h
   have hv11 : v11 = x1_ := hv11
   subst hv11
   replace h := of_let h
   obtain ⟨v12, hv12, h⟩ := h
   have hv12 : v12 = x2_ := hv12
   subst hv12
   cbv
   refine fork (fun b25 => ?_) (fun b25 => ?_)
   ·replace h := of_br_t b25 h
    cbv
    injection h with h
    refine hK19 _ h.symm _ ?_
    exact le_sparse rfl ⟨lR _, lR _, lR _, lR _, lR _, trivial⟩ ⟨rfl, rfl, trivial⟩ rfl
   ·replace h := of_br_f b25 h
    cbv
    injection h with h
    refine hY17 _ h.symm _ _ (And.intro rfl ?_) (by intro hh; cases hh)
    exact le_sparse rfl ⟨lR _, lR _, lR _, lR _, trivial⟩ ⟨rfl, rfl, trivial⟩ rfl
  ·clear hr15
   have h := hN16
   clear hN16
   intro e23 s24 q22 hne
   replace h := of_let h
   obtain ⟨y14k0, hyk, h⟩ := h
   have hyk : y14k0 = y14 := hyk
   subst hyk
   obtain ⟨rfl, q22⟩ := q22
   obtain ⟨y14k0_0, y14k0_1⟩ := y14k0
   replace h := of_let h
   obtain ⟨w26, hw26, h⟩ := h
   have hw26 : w26 = y14k0_0 := hw26
   subst hw26
   replace h := of_let h
   obtain ⟨w27, hw27, h⟩ := h
   have hw27 : w27 = y14k0_1 := hw27
   subst hw27
   cbv
   refine ⟨_, q22, ?_⟩
   cbv
   injection h with h
   subst h
   refine ⟨(sparse 36 [(4, .c (.ptr 256 0))] [(256, .var [.v (.int .i64 (A.add .i64 w26 a0.fX)), .v (.int .i64 (A.add .i64 w27 a0.fY))])]), ?_, ?_⟩
   ·exact le_sparse rfl ⟨lR _, trivial⟩ ⟨rfl, trivial⟩ rfl
   ·exact ⟨lR _, trivial, rfl⟩

/-- spec.l10Rect -/
noncomputable def F_spec_l10Rect (a0 : TTransform) (a1 : TRect) : Option (TRect) :=
 (F_spec_l10Point a0 (TPoint.mk a1.fX0 a1.fY0)).bind fun y1 =>
 (F_spec_l10Point a0 (TPoint.mk a1.fX1 a1.fY1)).bind fun y3 =>
 some (TRect.mk (std.imin y1.fX y3.fX) (std.imin y1.fY y3.fY) (std.imax y1.fX y3.fX) (std.imax y1.fY y3.fY))
theorem run_spec_l10Rect (a0 : TTransform) (a1 : TRect) (r : TRect) (h : F_spec_l10Rect a0 a1 = some r) : Fun Tryz.prog 54 [.agg [.v (.int .i64 a0.fOrientation), .v (.int .i64 a0.fX), .v (.int .i64 a0.fY)], .agg [.v (.int .i64 a1.fX0), .v (.int .i64 a1.fY0), .v (.int .i64 a1.fX1), .v (.int .i64 a1.fY1)]] [] (.agg [.v (.int .i64 r.fX0), .v (.int .i64 r.fY0), .v (.int .i64 r.fX1), .v (.int .i64 r.fY1)]) [] true := by
 refine Fun.of_wp (oneOf []) tok mixed Tryz.func54 (by kernel_rfl) rfl Tryz.ntmps54 rfl trivial (fun _ => ⟨(by simp [AV.flat, AV.flat1, AC.flat]), trivial⟩) ?_
 unfold F_spec_l10Rect at h
 have hf_spec_l10Point := @run_spec_l10Point
 generalize hLEN : @len = LEN at *
 generalize hGD : @gd = GD at *
 generalize hA : std = A at *
 generalize hP : Tryz.prog = P at *
 cbv
 replace h := of_bind h
 obtain ⟨y1, hy2, h⟩ := h
 refine ⟨{ args := [.agg [.v (.int .i64 a0.fOrientation), .v (.int .i64 a0.fX), .v (.int .i64 a0.fY)], .agg [.v (.int .i64 a1.fX0), .v (.int .i64 a1.fY0)]], o0 := [], r := .agg [.v (.int .i64 y1.fX), .v (.int .i64 y1.fY)], o1 := [], fl := true, σ := [], τ := [] }, hf_spec_l10Point _ _ _ hy2, ⟨les_cons (lR _) (les_cons (lR _) (les_nil)), trivial, rfl, rfl, rfl, rfl, trivial, rfl⟩, ?_⟩
 cbv
 replace h := of_bind h
 obtain ⟨y3, hy4, h⟩ := h
 refine ⟨{ args := [.agg [.v (.int .i64 a0.fOrientation), .v (.int .i64 a0.fX), .v (.int .i64 a0.fY)], .agg [.v (.int .i64 a1.fX1), .v (.int .i64 a1.fY1)]], o0 := [], r := .agg [.v (.int .i64 y3.fX), .v (.int .i64 y3.fY)], o1 := [], fl := true, σ := [], τ := [] }, hf_spec_l10Point _ _ _ hy4, ⟨les_cons (lR _) (les_cons (lR _) (les_nil)), trivial, rfl, rfl, rfl, rfl, trivial, rfl⟩, ?_⟩
 cbv
 injection h with h
 subst h
 refine ⟨(sparse 42 [(4, .c (.ptr 256 0))] [(256, .var [.v (.int .i64 (A.imin y1.fX y3.fX)), .v (.int .i64 (A.imin y1.fY y3.fY)), .v (.int .i64 (A.imax y1.fX y3.fX)), .v (.int .i64 (A.imax y1.fY y3.fY))])]), ?_, ?_⟩
 ·exact le_sparse rfl ⟨lR _, trivial⟩ ⟨rfl, trivial⟩ rfl
 ·exact ⟨lR _, trivial, rfl⟩
/-- spec.l10Element -/
noncomputable def F_spec_l10Element (a0 : TInstance) (a1 : Int) (a2 : Int) : Option (TTransform) :=
 some (TTransform.mk a0.fPlace.fOrientation (std.add .i64 a0.fPlace.fX (std.mul .i64 a1 a0.fStepX)) (std.add .i64 a0.fPlace.fY (std.mul .i64 a2 a0.fStepY)))
theorem run_spec_l10Element (a0 : TInstance) (a1 : Int) (a2 : Int) (r : TTransform) (h : F_spec_l10Element a0 a1 a2 = some r) : Fun Tryz.prog 82 [.agg [.v (.int .i64 a0.fCell), .v (.int .i64 a0.fPlace.fOrientation), .v (.int .i64 a0.fPlace.fX), .v (.int .i64 a0.fPlace.fY), .v (.int .i64 a0.fColumns), .v (.int .i64 a0.fRows), .v (.int .i64 a0.fStepX), .v (.int .i64 a0.fStepY)], .c (.v (.int .i64 a1)), .c (.v (.int .i64 a2))] [] (.agg [.v (.int .i64 r.fOrientation), .v (.int .i64 r.fX), .v (.int .i64 r.fY)]) [] true := by
 refine Fun.of_wp (oneOf []) tok mixed Tryz.func82 (by kernel_rfl) rfl Tryz.ntmps82 rfl trivial (fun _ => ⟨(by simp [AV.flat, AV.flat1, AC.flat]), trivial⟩) ?_
 unfold F_spec_l10Element at h
 generalize hLEN : @len = LEN at *
 generalize hGD : @gd = GD at *
 generalize hA : std = A at *
 generalize hP : Tryz.prog = P at *
 cbv
 injection h with h
 subst h
 refine ⟨(sparse 27 [(6, .c (.ptr 384 0))] [(384, .var [.v (.int .i64 a0.fPlace.fOrientation), .v (.int .i64 (A.add .i64 a0.fPlace.fX (A.mul .i64 a1 a0.fStepX))), .v (.int .i64 (A.add .i64 a0.fPlace.fY (A.mul .i64 a2 a0.fStepY)))])]), ?_, ?_⟩
 ·exact le_sparse rfl ⟨lR _, trivial⟩ ⟨rfl, trivial⟩ rfl
 ·exact ⟨lR _, trivial, rfl⟩

noncomputable def L_spec_l12Array_x25 (a0 : TInstance) (a1 : TRect) (v3 : Int) : (Int × Int × Int × Int × Int) → Option ((Int × Int × Int × Int × Int) ⊕ ((Int × Int × Int × Int))) := fun x25 =>
 letO x25.1 fun v20 =>
 letO x25.2.1 fun v21 =>
 letO x25.2.2.1 fun v22 =>
 letO x25.2.2.2.1 fun v23 =>
 letO x25.2.2.2.2 fun v24 =>
 br (std.lt v20 a0.fColumns)
 ((F_spec_l10Element a0 v20 v3).bind fun y37 =>
 (F_spec_l10Rect y37 (TRect.mk a1.fX0 a1.fY0 a1.fX1 a1.fY1)).bind fun y39 =>
 (F_spec_l10Hull (TRect.mk v21 v22 v23 v24) y39).bind fun y41 =>
 some (.inl (std.add .i64 v20 1, y41.fX0, y41.fY0, y41.fX1, y41.fY1)))
 (some (.inr (v21, v22, v23, v24)))
noncomputable def L_spec_l12Array_x8 (a0 : TInstance) (a1 : TRect) : (Int × Int × Int × Int × Int) → Option ((Int × Int × Int × Int × Int) ⊕ ((Int × Int × Int × Int))) := fun x8 =>
 letO x8.1 fun v3 =>
 letO x8.2.1 fun v4 =>
 letO x8.2.2.1 fun v5 =>
 letO x8.2.2.2.1 fun v6 =>
 letO x8.2.2.2.2 fun v7 =>
 br (std.lt v3 a0.fRows)
 ((whileP (σ := Int × Int × Int × Int × Int) (ρ := (Int × Int × Int × Int)) (L_spec_l12Array_x25 a0 a1 v3) (0, v4, v5, v6, v7)).bind fun y26 =>
 letO y26 fun y26k0 =>
 letO y26k0.1 fun w44 =>
 letO y26k0.2.1 fun w45 =>
 letO y26k0.2.2.1 fun w46 =>
 letO y26k0.2.2.2 fun w47 =>
 some (.inl (std.add .i64 v3 1, w44, w45, w46, w47)))
 (some (.inr (v4, v5, v6, v7)))
/-- spec.l12Array -/
noncomputable def F_spec_l12Array (a0 : TInstance) (a1 : TRect) : Option (TRect) :=
 (F_spec_l10Rect a0.fPlace (TRect.mk a1.fX0 a1.fY0 a1.fX1 a1.fY1)).bind fun y1 =>
 (whileP (σ := Int × Int × Int × Int × Int) (ρ := (Int × Int × Int × Int)) (L_spec_l12Array_x8 a0 a1) (0, y1.fX0, y1.fY0, y1.fX1, y1.fY1)).bind fun y9 =>
 letO y9 fun y9k0 =>
 letO y9k0.1 fun w49 =>
 letO y9k0.2.1 fun w50 =>
 letO y9k0.2.2.1 fun w51 =>
 letO y9k0.2.2.2 fun w52 =>
 some (TRect.mk w49 w50 w51 w52)
theorem run_spec_l12Array (a0 : TInstance) (a1 : TRect) (r : TRect) (h : F_spec_l12Array a0 a1 = some r) : Fun Tryz.prog 98 [.agg [.v (.int .i64 a0.fCell), .v (.int .i64 a0.fPlace.fOrientation), .v (.int .i64 a0.fPlace.fX), .v (.int .i64 a0.fPlace.fY), .v (.int .i64 a0.fColumns), .v (.int .i64 a0.fRows), .v (.int .i64 a0.fStepX), .v (.int .i64 a0.fStepY)], .agg [.v (.int .i64 a1.fX0), .v (.int .i64 a1.fY0), .v (.int .i64 a1.fX1), .v (.int .i64 a1.fY1)]] [] (.agg [.v (.int .i64 r.fX0), .v (.int .i64 r.fY0), .v (.int .i64 r.fX1), .v (.int .i64 r.fY1)]) [] true := by
 refine Fun.of_wp (oneOf []) tok mixed Tryz.func98 (by kernel_rfl) rfl Tryz.ntmps98 rfl trivial (fun _ => ⟨(by simp [AV.flat, AV.flat1, AC.flat]), trivial⟩) ?_
 unfold F_spec_l12Array at h
 unfold L_spec_l12Array_x8 at h
 unfold L_spec_l12Array_x25 at h
 have hf_spec_l10Element := @run_spec_l10Element
 have hf_spec_l10Hull := @run_spec_l10Hull
 have hf_spec_l10Rect := @run_spec_l10Rect
 generalize hLEN : @len = LEN at *
 generalize hGD : @gd = GD at *
 generalize hA : std = A at *
 generalize hP : Tryz.prog = P at *
 cbv
 replace h := of_bind h
 obtain ⟨y1, hy2, h⟩ := h
 refine ⟨{ args := [.agg [.v (.int .i64 a0.fPlace.fOrientation), .v (.int .i64 a0.fPlace.fX), .v (.int .i64 a0.fPlace.fY)], .agg [.v (.int .i64 a1.fX0), .v (.int .i64 a1.fY0), .v (.int .i64 a1.fX1), .v (.int .i64 a1.fY1)]], o0 := [], r := .agg [.v (.int .i64 y1.fX0), .v (.int .i64 y1.fY0), .v (.int .i64 y1.fX1), .v (.int .i64 y1.fY1)], o1 := [], fl := true, σ := [], τ := [] }, hf_spec_l10Rect _ _ _ hy2, ⟨les_cons (lR _) (les_cons (lR _) (les_nil)), trivial, rfl, rfl, rfl, rfl, trivial, rfl⟩, ?_⟩
 cbv
 replace h := of_bind h
 obtain ⟨y9, hr10, hN11⟩ := h
 refine loop_cut hr10 (fun x => (sparse 33 [(2, .c (.ptr 128 0)), (3, .c (.ptr 192 0)), (4, .c (.ptr 256 0)), (5, .c (.ptr 320 0)), (6, .c (.v (.int .i64 x.1)))] [(128, .var [.v (.int .i64 a0.fCell), .v (.int .i64 a0.fPlace.fOrientation), .v (.int .i64 a0.fPlace.fX), .v (.int .i64 a0.fPlace.fY), .v (.int .i64 a0.fColumns), .v (.int .i64 a0.fRows), .v (.int .i64 a0.fStepX), .v (.int .i64 a0.fStepY)]), (192, .var [.v (.int .i64 a1.fX0), .v (.int .i64 a1.fY0), .v (.int .i64 a1.fX1), .v (.int .i64 a1.fY1)]), (256, .var [.v (.int .i64 0), .v (.int .i64 0), .v (.int .i64 0), .v (.int .i64 0)]), (320, .var [.v (.int .i64 x.2.1), .v (.int .i64 x.2.2.1), .v (.int .i64 x.2.2.2.1), .v (.int .i64 x.2.2.2.2)])])) ?_ (fun y e s => (fun (w : Int × Int × Int × Int) => e = .exit 0 ∧ s.le (sparse 33 [(4, .c (.ptr 256 0)), (5, .c (.ptr 320 0))] [(256, .var [.v (.int .i64 0), .v (.int .i64 0), .v (.int .i64 0), .v (.int .i64 0)]), (320, .var [.v (.int .i64 w.1), .v (.int .i64 w.2.1), .v (.int .i64 w.2.2.1), .v (.int .i64 w.2.2.2)])])) y) ?_ ?_
 ·clear hr10 hN11
  show St.le _ _
  exact le_sparse rfl ⟨lR _, lR _, lR _, lR _, lR _, trivial⟩ ⟨rfl, rfl, rfl, rfl, trivial⟩ rfl
 ·clear hr10 hN11
  intro x z15 h K13 hK14 hY12
  obtain ⟨x0_, x1_, x2_, x3_, x4_⟩ := x
  replace h := of_let h
  obtain ⟨v3, hv3, h⟩ := h
  have hv3 : v3 = x0_ := hv3
  subst hv3
  replace h := of_let h
  obtain ⟨v4, hv4, h⟩ := h
  have hv4 : v4 = x1_ := hv4
  subst hv4
  replace h := of_let h
  obtain ⟨v5, hv5, h⟩ := h
  have hv5 : v5 = x2_ := hv5
  subst hv5
  replace h := of_let h
  obtain ⟨v6, hv6, h⟩ := h
  have hv6 : v6 = x3_ := hv6
  subst hv6
  replace h := of_let h
  obtain ⟨v7, hv7, h⟩ := h
  have hv7 : v7 = x4_ := hv7
  subst hv7
  cbv
  refine fork (fun b48 => ?_) (fun b48 => ?_)
  ·replace h := of_br_t b48 h
   cbv
   replace h := of_bind h
   obtain ⟨y26, hr27, hN28⟩ := h
   refine loop_cut hr27 (fun x => (sparse 33 [(2, .c (.ptr 128 0)), (3, .c (.ptr 192 0)), (4, .c (.ptr 256 0)), (5, .c (.ptr 320 0)), (6, .c (.v (.int .i64 v3))), (7, .c (.v (.int .i64 x.1)))] [(128, .var [.v (.int .i64 a0.fCell), .v (.int .i64 a0.fPlace.fOrientation), .v (.int .i64 a0.fPlace.fX), .v (.int .i64 a0.fPlace.fY), .v (.int .i64 a0.fColumns), .v (.int .i64 a0.fRows), .v (.int .i64 a0.fStepX), .v (.int .i64 a0.fStepY)]), (192, .var [.v (.int .i64 a1.fX0), .v (.int .i64 a1.fY0), .v (.int .i64 a1.fX1), .v (.int .i64 a1.fY1)]), (256, .var [.v (.int .i64 0), .v (.int .i64 0), .v (.int .i64 0), .v (.int .i64 0)]), (320, .var [.v (.int .i64 x.2.1), .v (.int .i64 x.2.2.1), .v (.int .i64 x.2.2.2.1), .v (.int .i64 x.2.2.2.2)])])) ?_ (fun y e s => (fun (w : Int × Int × Int × Int) => e = .exit 2 ∧ s.le (sparse 33 [(2, .c (.ptr 128 0)), (3, .c (.ptr 192 0)), (4, .c (.ptr 256 0)), (5, .c (.ptr 320 0)), (6, .c (.v (.int .i64 v3)))] [(128, .var [.v (.int .i64 a0.fCell), .v (.int .i64 a0.fPlace.fOrientation), .v (.int .i64 a0.fPlace.fX), .v (.int .i64 a0.fPlace.fY), .v (.int .i64 a0.fColumns), .v (.int .i64 a0.fRows), .v (.int .i64 a0.fStepX), .v (.int .i64 a0.fStepY)]), (192, .var [.v (.int .i64 a1.fX0), .v (.int .i64 a1.fY0), .v (.int .i64 a1.fX1), .v (.int .i64 a1.fY1)]), (256, .var [.v (.int .i64 0), .v (.int .i64 0), .v (.int .i64 0), .v (.int .i64 0)]), (320, .var [.v (.int .i64 w.1), .v (.int .i64 w.2.1), .v (.int .i64 w.2.2.1), .v (.int .i64 w.2.2.2)])])) y) ?_ ?_
   ·clear hr27 hN28
    show St.le _ _
    exact le_sparse rfl ⟨lR _, lR _, lR _, lR _, lR _, lR _, trivial⟩ ⟨rfl, rfl, rfl, rfl, trivial⟩ rfl
   ·clear hr27 hN28
    intro x z32 h K30 hK31 hY29
    obtain ⟨x0_, x1_, x2_, x3_, x4_⟩ := x
    replace h := of_let h
    obtain ⟨v20, hv20, h⟩ := h
    have hv20 : v20 = x0_ := hv20
    subst hv20
    replace h := of_let h
    obtain ⟨v21, hv21, h⟩ := h
    have hv21 : v21 = x1_ := hv21
    subst hv21
    replace h := of_let h
    obtain ⟨v22, hv22, h⟩ := h
    have hv22 : v22 = x2_ := hv22
    subst hv22
    replace h := of_let h
    obtain ⟨v23, hv23, h⟩ := h
    have hv23 : v23 = x3_ := hv23
    subst hv23
    replace h := of_let h
    obtain ⟨v24, hv24, h⟩ := h
    have hv24 : v24 = x4_ := hv24
    subst hv24
    cbv
    refine fork (fun b43 => ?_) (fun b43 => ?_)
    ·replace h := of_br_t b43 h
     cbv
     replace h := of_bind h
     obtain ⟨y37, hy38, h⟩ := h
     refine ⟨{ args := [.agg [.v (.int .i64 a0.fCell), .v (.int .i64 a0.fPlace.fOrientation), .v (.int .i64 a0.fPlace.fX), .v (.int .i64 a0.fPlace.fY), .v (.int .i64 a0.fColumns), .v (.int .i64 a0.fRows), .v (.int .i64 a0.fStepX), .v (.int .i64 a0.fStepY)], .c (.v (.int .i64 v20)), .c (.v (.int .i64 v3))], o0 := [], r := .agg [.v (.int .i64 y37.fOrientation), .v (.int .i64 y37.fX), .v (.int .i64 y37.fY)], o1 := [], fl := true, σ := [], τ := [] }, hf_spec_l10Element _ _ _ _ hy38, ⟨les_cons (lR _) (les_cons (lR _) (les_cons (lR _) (les_nil))), trivial, rfl, rfl, rfl, rfl, trivial, rfl⟩, ?_⟩
     cbv
     replace h := of_bind h
     obtain ⟨y39, hy40, h⟩ := h
     refine ⟨{ args := [.agg [.v (.int .i64 y37.fOrientation), .v (.int .i64 y37.fX), .v (.int .i64 y37.fY)], .agg [.v (.int .i64 a1.fX0), .v (.int .i64 a1.fY0), .v (.int .i64 a1.fX1), .v (.int .i64 a1.fY1)]], o0 := [], r := .agg [.v (.int .i64 y39.fX0), .v (.int .i64 y39.fY0), .v (.int .i64 y39.fX1), .v (.int .i64 y39.fY1)], o1 := [], fl := true, σ := [], τ := [] }, hf_spec_l10Rect _ _ _ hy40, ⟨les_cons (lR _) (les_cons (lR _) (les_nil)), trivial, rfl, rfl, rfl, rfl, trivial, rfl⟩, ?_⟩
     cbv
     replace h := of_bind h
     obtain ⟨y41, hy42, h⟩ := h
     refine ⟨{ args := [.agg [.v (.int .i64 v21), .v (.int .i64 v22), .v (.int .i64 v23), .v (.int .i64 v24)], .agg [.v (.int .i64 y39.fX0), .v (.int .i64 y39.fY0), .v (.int .i64 y39.fX1), .v (.int .i64 y39.fY1)]], o0 := [], r := .agg [.v (.int .i64 y41.fX0), .v (.int .i64 y41.fY0), .v (.int .i64 y41.fX1), .v (.int .i64 y41.fY1)], o1 := [], fl := true, σ := [], τ := [] }, hf_spec_l10Hull _ _ _ hy42, ⟨les_cons (lR _) (les_cons (lR _) (les_nil)), trivial, rfl, rfl, rfl, rfl, trivial, rfl⟩, ?_⟩
     cbv
     injection h with h
     refine hK31 _ h.symm _ ?_
     exact le_sparse rfl ⟨lR _, lR _, lR _, lR _, lR _, lR _, trivial⟩ ⟨rfl, rfl, rfl, rfl, trivial⟩ rfl
    ·replace h := of_br_f b43 h
     cbv
     injection h with h
     refine hY29 _ h.symm _ _ (And.intro rfl ?_) (by intro hh; cases hh)
     exact le_sparse rfl ⟨lR _, lR _, lR _, lR _, lR _, trivial⟩ ⟨rfl, rfl, rfl, rfl, trivial⟩ rfl
   ·clear hr27
    have h := hN28
    clear hN28
    intro e35 s36 q34 hne
    replace h := of_let h
    obtain ⟨y26k0, hyk, h⟩ := h
    have hyk : y26k0 = y26 := hyk
    subst hyk
    obtain ⟨rfl, q34⟩ := q34
    obtain ⟨y26k0_0, y26k0_1, y26k0_2, y26k0_3⟩ := y26k0
    replace h := of_let h
    obtain ⟨w44, hw44, h⟩ := h
    have hw44 : w44 = y26k0_0 := hw44
    subst hw44
    replace h := of_let h
    obtain ⟨w45, hw45, h⟩ := h
    have hw45 : w45 = y26k0_1 := hw45
    subst hw45
    replace h := of_let h
    obtain ⟨w46, hw46, h⟩ := h
    have hw46 : w46 = y26k0_2 := hw46
    subst hw46
    replace h := of_let h
    obtain ⟨w47, hw47, h⟩ := h
    have hw47 : w47 = y26k0_3 := hw47
    subst hw47
    cbv
    refine ⟨_, q34, ?_⟩
    cbv
    injection h with h
    refine hK14 _ h.symm _ ?_
    exact le_sparse rfl ⟨lR _, lR _, lR _, lR _, lR _, trivial⟩ ⟨rfl, rfl, rfl, rfl, trivial⟩ rfl
  ·replace h := of_br_f b48 h
   cbv
   injection h with h
   refine hY12 _ h.symm _ _ (And.intro rfl ?_) (by intro hh; cases hh)
   exact le_sparse rfl ⟨lR _, lR _, trivial⟩ ⟨rfl, rfl, trivial⟩ rfl
 ·clear hr10
  have h := hN11
  clear hN11
  intro e18 s19 q17 hne
  replace h := of_let h
  obtain ⟨y9k0, hyk, h⟩ := h
  have hyk : y9k0 = y9 := hyk
  subst hyk
  obtain ⟨rfl, q17⟩ := q17
  obtain ⟨y9k0_0, y9k0_1, y9k0_2, y9k0_3⟩ := y9k0
  replace h := of_let h
  obtain ⟨w49, hw49, h⟩ := h
  have hw49 : w49 = y9k0_0 := hw49
  subst hw49
  replace h := of_let h
  obtain ⟨w50, hw50, h⟩ := h
  have hw50 : w50 = y9k0_1 := hw50
  subst hw50
  replace h := of_let h
  obtain ⟨w51, hw51, h⟩ := h
  have hw51 : w51 = y9k0_2 := hw51
  subst hw51
  replace h := of_let h
  obtain ⟨w52, hw52, h⟩ := h
  have hw52 : w52 = y9k0_3 := hw52
  subst hw52
  cbv
  refine ⟨_, q17, ?_⟩
  cbv
  injection h with h
  subst h
  refine ⟨(sparse 33 [(4, .c (.ptr 256 0))] [(256, .var [.v (.int .i64 w49), .v (.int .i64 w50), .v (.int .i64 w51), .v (.int .i64 w52)])]), ?_, ?_⟩
  ·exact le_sparse rfl ⟨lR _, trivial⟩ ⟨rfl, trivial⟩ rfl
  ·exact ⟨lR _, trivial, rfl⟩

noncomputable def L_spec_l12Box_x30 (a0 : TLibrary) (v5 : Int) (v6 : List TRect) (v7 : List Bool) : (Bool × Int × Int × Int × Int × Int) → Option ((Bool × Int × Int × Int × Int × Int) ⊕ ((Bool × Int × Int × Int × Int))) := fun x30 =>
 letO x30.1 fun v24 =>
 letO x30.2.1 fun v25 =>
 letO x30.2.2.1 fun v26 =>
 letO x30.2.2.2.1 fun v27 =>
 letO x30.2.2.2.2.1 fun v28 =>
 letO x30.2.2.2.2.2 fun v29 =>
 br (std.lt v25 (std.ofN (len (gd a0.fCells (std.toN v5)).fInstances)))
 (req (std.inR v25 (len (gd a0.fCells (std.toN v5)).fInstances)) <|
 req (std.inR (gd (gd a0.fCells (std.toN v5)).fInstances (std.toN v25)).fCell (len v7)) <|
 ((
    br (gd v7 (std.nadd 0 (std.toN (gd (gd a0.fCells (std.toN v5)).fInstances (std.toN v25)).fCell)))
    (req (std.inR v25 (len (gd a0.fCells (std.toN v5)).fInstances)) <|
    req (std.inR v25 (len (gd a0.fCells (std.toN v5)).fInstances)) <|
    req (std.inR (gd (gd a0.fCells (std.toN v5)).fInstances (std.toN v25)).fCell (len v6)) <|
    (F_spec_l12Array (gd (gd a0.fCells (std.toN v5)).fInstances (std.toN v25)) (gd v6 (std.nadd 0 (std.toN (gd (gd a0.fCells (std.toN v5)).fInstances (std.toN v25)).fCell)))).bind fun y58 =>
    ((
       br v24
       ((F_spec_l10Hull (TRect.mk v26 v27 v28 v29) y58).bind fun y70 =>
       some (y70.fX0, y70.fY0, y70.fX1, y70.fY1))
       (some (y58.fX0, y58.fY0, y58.fX1, y58.fY1))
     ) : Option (Int × Int × Int × Int)).bind fun y60 =>
    letO y60.1 fun w66 =>
    letO y60.2.1 fun w67 =>
    letO y60.2.2.1 fun w68 =>
    letO y60.2.2.2 fun w69 =>
    some (true, w66, w67, w68, w69))
    (some (v24, v26, v27, v28, v29))
  ) : Option (Bool × Int × Int × Int × Int)).bind fun y44 =>
 letO y44.1 fun w50 =>
 letO y44.2.1 fun w51 =>
 letO y44.2.2.1 fun w52 =>
 letO y44.2.2.2.1 fun w53 =>
 letO y44.2.2.2.2 fun w54 =>
 some (.inl (w50, std.add .i64 v25 1, w51, w52, w53, w54)))
 (some (.inr (v24, v26, v27, v28, v29)))
noncomputable def L_spec_l12Box_x8 (a0 : TLibrary) (a1 : Int) : (Int × (List TRect) × (List Bool)) → Option ((Int × (List TRect) × (List Bool)) ⊕ (((List TRect) × (List Bool)))) := fun x8 =>
 letO x8.1 fun v5 =>
 letO x8.2.1 fun v6 =>
 letO x8.2.2 fun v7 =>
 br (std.le v5 a1)
 (req (std.inR v5 (len a0.fCells)) <|
 (F_spec_l12Own (gd a0.fCells (std.toN v5))).bind fun y21 =>
 req (std.inR v5 (len a0.fCells)) <|
 (whileP (σ := Bool × Int × Int × Int × Int × Int) (ρ := (Bool × Int × Int × Int × Int)) (L_spec_l12Box_x30 a0 v5 v6 v7) (y21.2, 0, y21.1.fX0, y21.1.fY0, y21.1.fX1, y21.1.fY1)).bind fun y31 =>
 letO y31 fun y31k0 =>
 letO y31k0.1 fun w75 =>
 letO y31k0.2.1 fun w76 =>
 letO y31k0.2.2.1 fun w77 =>
 letO y31k0.2.2.2.1 fun w78 =>
 letO y31k0.2.2.2.2 fun w79 =>
 letO ([(TRect.mk w76 w77 w78 w79)] : List TRect) fun l80 =>
 req (std.room (std.nadd (len v6) (len l80)) 32) <|
 letO (v6 ++ l80) fun l82 =>
 letO ([w75] : List Bool) fun l85 =>
 req (std.room (std.nadd (len v7) (len l85)) 1) <|
 letO (v7 ++ l85) fun l87 =>
 some (.inl (std.add .i64 v5 1, l82, l87)))
 (some (.inr (v6, v7)))
/-- spec.l12Box -/
noncomputable def F_spec_l12Box (a0 : TLibrary) (a1 : Int) : Option (TRect × Bool) :=
 letO ([] : List TRect) fun l1 =>
 letO ([] : List Bool) fun l3 =>
 (whileP (σ := Int × (List TRect) × (List Bool)) (ρ := ((List TRect) × (List Bool))) (L_spec_l12Box_x8 a0 a1) (0, l1, l3)).bind fun y9 =>
 letO y9 fun y9k0 =>
 letO y9k0.1 fun w91 =>
 letO y9k0.2 fun w92 =>
 req (std.inR a1 (len w91)) <|
 req (std.inR a1 (len w92)) <|
 some ((gd w91 (std.nadd 0 (std.toN a1))), gd w92 (std.nadd 0 (std.toN a1)))
theorem run_spec_l12Box (a0 : TLibrary) (a1 : Int) (r : TRect × Bool) (h : F_spec_l12Box a0 a1 = some r) : Fun Tryz.prog 80 [.agg [.bs (len a0.fCells) 4 (row gd (encCell len gd) a0.fCells)], .c (.v (.int .i64 a1))] [] (.tup [.agg [.v (.int .i64 r.1.fX0), .v (.int .i64 r.1.fY0), .v (.int .i64 r.1.fX1), .v (.int .i64 r.1.fY1)], .c (.v (.bool r.2))]) [] true := by
 refine Fun.of_wp (oneOf [100049, 100063]) tok mixed Tryz.func80 (by kernel_rfl) rfl Tryz.ntmps80 rfl trivial (fun _ => ⟨(by simp [AV.flat, AV.flat1, AC.flat]), trivial⟩) ?_
 unfold F_spec_l12Box at h
 unfold L_spec_l12Box_x8 at h
 unfold L_spec_l12Box_x30 at h
 have hf_spec_l10Hull := @run_spec_l10Hull
 have hf_spec_l12Array := @run_spec_l12Array
 have hf_spec_l12Own := @run_spec_l12Own
 generalize hLEN : @len = LEN at *
 generalize hGD : @gd = GD at *
 generalize hA : std = A at *
 generalize hP : Tryz.prog = P at *
 cbv
 replace h := of_let h
 obtain ⟨l1, hl1, h⟩ := h
 have e2 : 0 = LEN l1 := by subst hl1 hLEN; rfl
 refine ⟨_, congrArg (fun n => AV.c (AC.os 896 0 n)) e2, _, row GD (encRect) l1, e2, ?_, ?_⟩
 ·intro i hi j hj
  rw [← e2] at hi
  subst hl1
  subst hGD
  omega
 cbv
 replace h := of_let h
 obtain ⟨l3, hl3, h⟩ := h
 have e4 : 0 = LEN l3 := by subst hl3 hLEN; rfl
 refine ⟨_, congrArg (fun n => AV.c (AC.os 960 0 n)) e4, _, row GD (encB) l3, e4, ?_, ?_⟩
 ·intro i hi j hj
  rw [← e4] at hi
  subst hl3
  subst hGD
  omega
 cbv
 replace h := of_bind h
 obtain ⟨y9, hr10, hN11⟩ := h
 refine loop_cut hr10 (fun x => (sparse 84 [(1, .c (.v (.int .i64 a1))), (2, .c (.ptr 128 0)), (4, .c (.ptr 256 0)), (6, .c (.os 896 0 (LEN x.2.1))), (7, .c (.os 960 0 (LEN x.2.2))), (8, .c (.v (.int .i64 x.1)))] [(128, .var [.bs (LEN a0.fCells) 4 (row GD (encCell LEN GD) a0.fCells)]), (256, .var [.v (.int .i64 0), .v (.int .i64 0), .v (.int .i64 0), .v (.int .i64 0)]), (896, .arr .rw [] (LEN x.2.1) 4 (row GD (encRect) x.2.1)), (960, .arr .rw [] (LEN x.2.2) 1 (row GD (encB) x.2.2))])) ?_ (fun y e s => (fun (w : (List TRect) × (List Bool)) => e = .exit 0 ∧ s.le (sparse 84 [(1, .c (.v (.int .i64 a1))), (4, .c (.ptr 256 0)), (6, .c (.os 896 0 (LEN w.1))), (7, .c (.os 960 0 (LEN w.2)))] [(256, .var [.v (.int .i64 0), .v (.int .i64 0), .v (.int .i64 0), .v (.int .i64 0)]), (896, .arr .rw [] (LEN w.1) 4 (row GD (encRect) w.1)), (960, .arr .rw [] (LEN w.2) 1 (row GD (encB) w.2))])) y) ?_ ?_
 ·clear hr10 hN11
  show St.le _ _
  exact le_sparse rfl ⟨lR _, lR _, lR _, lR _, lR _, lR _, trivial⟩ ⟨rfl, rfl, oS, oS, trivial⟩ rfl
 ·clear hr10 hN11
  intro x z15 h K13 hK14 hY12
  obtain ⟨x0_, x1_, x2_⟩ := x
  replace h := of_let h
  obtain ⟨v5, hv5, h⟩ := h
  have hv5 : v5 = x0_ := hv5
  subst hv5
  replace h := of_let h
  obtain ⟨v6, hv6, h⟩ := h
  have hv6 : v6 = x1_ := hv6
  subst hv6
  replace h := of_let h
  obtain ⟨v7, hv7, h⟩ := h
  have hv7 : v7 = x2_ := hv7
  subst hv7
  cbv
  refine fork (fun b90 => ?_) (fun b90 => ?_)
  ·replace h := of_br_t b90 h
   cbv
   replace h := of_req h
   obtain ⟨c20, h⟩ := h
   refine ⟨⟨c20, trivial⟩, ?_⟩
   replace h := of_bind h
   obtain ⟨y21, hy22, h⟩ := h
   refine ⟨{ args := [.agg [.v (.string (GD a0.fCells (A.toN v5)).fName), .bs (LEN (GD a0.fCells (A.toN v5)).fShapes) 5 (row GD (encShape) (GD a0.fCells (A.toN v5)).fShapes), .bs (LEN (GD a0.fCells (A.toN v5)).fLabels) 4 (row GD (encLabel) (GD a0.fCells (A.toN v5)).fLabels), .bs (LEN (GD a0.fCells (A.toN v5)).fInstances) 8 (row GD (encInstance) (GD a0.fCells (A.toN v5)).fInstances)]], o0 := [], r := .tup [.agg [.v (.int .i64 y21.1.fX0), .v (.int .i64 y21.1.fY0), .v (.int .i64 y21.1.fX1), .v (.int .i64 y21.1.fY1)], .c (.v (.bool y21.2))], o1 := [], fl := true, σ := [], τ := [] }, hf_spec_l12Own _ _ hy22, ⟨les_cons (lR _) (les_nil), trivial, rfl, rfl, rfl, rfl, trivial, rfl⟩, ?_⟩
   cbv
   replace h := of_req h
   obtain ⟨c23, h⟩ := h
   refine ⟨⟨c23, trivial⟩, ?_⟩
   replace h := of_bind h
   obtain ⟨y31, hr32, hN33⟩ := h
   refine loop_cut hr32 (fun x => (sparse 84 [(1, .c (.v (.int .i64 a1))), (2, .c (.ptr 128 0)), (4, .c (.ptr 256 0)), (6, .c (.os 896 0 (LEN v6))), (7, .c (.os 960 0 (LEN v7))), (8, .c (.v (.int .i64 v5))), (9, .c (.ptr 576 0)), (10, .c (.v (.bool x.1))), (11, .c (.bs (LEN (GD a0.fCells (A.toN v5)).fInstances) 8 (row GD (encInstance) (GD a0.fCells (A.toN v5)).fInstances))), (12, .c (.v (.int .i64 x.2.1)))] [(128, .var [.bs (LEN a0.fCells) 4 (row GD (encCell LEN GD) a0.fCells)]), (256, .var [.v (.int .i64 0), .v (.int .i64 0), .v (.int .i64 0), .v (.int .i64 0)]), (896, .arr .rw [] (LEN v6) 4 (row GD (encRect) v6)), (960, .arr .rw [] (LEN v7) 1 (row GD (encB) v7)), (576, .var [.v (.int .i64 x.2.2.1), .v (.int .i64 x.2.2.2.1), .v (.int .i64 x.2.2.2.2.1), .v (.int .i64 x.2.2.2.2.2)])])) ?_ (fun y e s => (fun (w : Bool × Int × Int × Int × Int) => e = .exit 2 ∧ s.le (sparse 84 [(1, .c (.v (.int .i64 a1))), (2, .c (.ptr 128 0)), (4, .c (.ptr 256 0)), (6, .c (.os 896 0 (LEN v6))), (7, .c (.os 960 0 (LEN v7))), (8, .c (.v (.int .i64 v5))), (9, .c (.ptr 576 0)), (10, .c (.v (.bool w.1)))] [(128, .var [.bs (LEN a0.fCells) 4 (row GD (encCell LEN GD) a0.fCells)]), (256, .var [.v (.int .i64 0), .v (.int .i64 0), .v (.int .i64 0), .v (.int .i64 0)]), (896, .arr .rw [] (LEN v6) 4 (row GD (encRect) v6)), (960, .arr .rw [] (LEN v7) 1 (row GD (encB) v7)), (576, .var [.v (.int .i64 w.2.1), .v (.int .i64 w.2.2.1), .v (.int .i64 w.2.2.2.1), .v (.int .i64 w.2.2.2.2)])])) y) ?_ ?_
   ·clear hr32 hN33
    show St.le _ _
    exact le_sparse rfl ⟨lR _, lR _, lR _, lR _, lR _, lR _, lR _, lR _, lR _, lR _, trivial⟩ ⟨rfl, rfl, oS, oS, rfl, trivial⟩ rfl
   ·clear hr32 hN33
    intro x z37 h K35 hK36 hY34
    obtain ⟨x0_, x1_, x2_, x3_, x4_, x5_⟩ := x
    replace h := of_let h
    obtain ⟨v24, hv24, h⟩ := h
    have hv24 : v24 = x0_ := hv24
    subst hv24
    replace h := of_let h
    obtain ⟨v25, hv25, h⟩ := h
    have hv25 : v25 = x1_ := hv25
    subst hv25
    replace h := of_let h
    obtain ⟨v26, hv26, h⟩ := h
    have hv26 : v26 = x2_ := hv26
    subst hv26
    replace h := of_let h
    obtain ⟨v27, hv27, h⟩ := h
    have hv27 : v27 = x3_ := hv27
    subst hv27
    replace h := of_let h
    obtain ⟨v28, hv28, h⟩ := h
    have hv28 : v28 = x4_ := hv28
    subst hv28
    replace h := of_let h
    obtain ⟨v29, hv29, h⟩ := h
    have hv29 : v29 = x5_ := hv29
    subst hv29
    cbv
    refine fork (fun b74 => ?_) (fun b74 => ?_)
    ·replace h := of_br_t b74 h
     cbv
     replace h := of_req h
     obtain ⟨c42, h⟩ := h
     refine ⟨⟨c42, trivial⟩, ?_⟩
     replace h := of_req h
     obtain ⟨c43, h⟩ := h
     refine ⟨⟨c43, trivial⟩, ?_⟩
     refine And.intro (by first | exact (by subst hA; exact idx_lt c43) | (refine And.intro (by subst hA; exact idx_lt c43) ?_; first | trivial | exact ⟨trivial, trivial⟩)) ?_
     replace h := of_bind h
     obtain ⟨y44, hy45, h⟩ := h
     obtain ⟨S48, hS49⟩ : ∃ S, S = some (sparse 84 [(1, .c (.v (.int .i64 a1))), (2, .c (.ptr 128 0)), (4, .c (.ptr 256 0)), (6, .c (.os 896 0 (LEN v6))), (7, .c (.os 960 0 (LEN v7))), (8, .c (.v (.int .i64 v5))), (9, .c (.ptr 576 0)), (10, .c (.v (.bool y44.1))), (11, .c (.bs (LEN (GD a0.fCells (A.toN v5)).fInstances) 8 (row GD (encInstance) (GD a0.fCells (A.toN v5)).fInstances))), (12, .c (.v (.int .i64 v25)))] [(128, .var [.bs (LEN a0.fCells) 4 (row GD (encCell LEN GD) a0.fCells)]), (256, .var [.v (.int .i64 0), .v (.int .i64 0), .v (.int .i64 0), .v (.int .i64 0)]), (896, .arr .rw [] (LEN v6) 4 (row GD (encRect) v6)), (960, .arr .rw [] (LEN v7) 1 (row GD (encB) v7)), (576, .var [.v (.int .i64 y44.2.1), .v (.int .i64 y44.2.2.1), .v (.int .i64 y44.2.2.2.1), .v (.int .i64 y44.2.2.2.2)])]) := ⟨_, rfl⟩
     refine ⟨S48, ?_, ?_⟩
     ·clear h
      have h := hy45
      clear hy45
      cbv
      refine fork (fun b73 => ?_) (fun b73 => ?_)
      ·replace h := of_br_t b73 h
       cbv
       replace h := of_req h
       obtain ⟨c55, h⟩ := h
       refine ⟨⟨c55, trivial⟩, ?_⟩
       replace h := of_req h
       obtain ⟨c56, h⟩ := h
       refine ⟨⟨c56, trivial⟩, ?_⟩
       replace h := of_req h
       obtain ⟨c57, h⟩ := h
       refine ⟨⟨c57, trivial⟩, ?_⟩
       refine And.intro (by first | exact (by subst hA; exact idx_lt c57) | (refine And.intro (by subst hA; exact idx_lt c57) ?_; first | trivial | exact ⟨trivial, trivial⟩)) ?_
       replace h := of_bind h
       obtain ⟨y58, hy59, h⟩ := h
       refine ⟨{ args := [.agg [.v (.int .i64 (GD (GD a0.fCells (A.toN v5)).fInstances (A.toN v25)).fCell), .v (.int .i64 (GD (GD a0.fCells (A.toN v5)).fInstances (A.toN v25)).fPlace.fOrientation), .v (.int .i64 (GD (GD a0.fCells (A.toN v5)).fInstances (A.toN v25)).fPlace.fX), .v (.int .i64 (GD (GD a0.fCells (A.toN v5)).fInstances (A.toN v25)).fPlace.fY), .v (.int .i64 (GD (GD a0.fCells (A.toN v5)).fInstances (A.toN v25)).fColumns), .v (.int .i64 (GD (GD a0.fCells (A.toN v5)).fInstances (A.toN v25)).fRows), .v (.int .i64 (GD (GD a0.fCells (A.toN v5)).fInstances (A.toN v25)).fStepX), .v (.int .i64 (GD (GD a0.fCells (A.toN v5)).fInstances (A.toN v25)).fStepY)], .agg [.v (.int .i64 (GD v6 (A.nadd 0 (A.toN (GD (GD a0.fCells (A.toN v5)).fInstances (A.toN v25)).fCell))).fX0), .v (.int .i64 (GD v6 (A.nadd 0 (A.toN (GD (GD a0.fCells (A.toN v5)).fInstances (A.toN v25)).fCell))).fY0), .v (.int .i64 (GD v6 (A.nadd 0 (A.toN (GD (GD a0.fCells (A.toN v5)).fInstances (A.toN v25)).fCell))).fX1), .v (.int .i64 (GD v6 (A.nadd 0 (A.toN (GD (GD a0.fCells (A.toN v5)).fInstances (A.toN v25)).fCell))).fY1)]], o0 := [], r := .agg [.v (.int .i64 y58.fX0), .v (.int .i64 y58.fY0), .v (.int .i64 y58.fX1), .v (.int .i64 y58.fY1)], o1 := [], fl := true, σ := [], τ := [] }, hf_spec_l12Array _ _ _ hy59, ⟨les_cons (lR _) (les_cons (lR _) (les_nil)), trivial, rfl, rfl, rfl, rfl, trivial, rfl⟩, ?_⟩
       cbv
       replace h := of_bind h
       obtain ⟨y60, hy61, h⟩ := h
       obtain ⟨S64, hS65⟩ : ∃ S, S = some (sparse 84 [(1, .c (.v (.int .i64 a1))), (2, .c (.ptr 128 0)), (4, .c (.ptr 256 0)), (6, .c (.os 896 0 (LEN v6))), (7, .c (.os 960 0 (LEN v7))), (8, .c (.v (.int .i64 v5))), (9, .c (.ptr 576 0)), (11, .c (.bs (LEN (GD a0.fCells (A.toN v5)).fInstances) 8 (row GD (encInstance) (GD a0.fCells (A.toN v5)).fInstances))), (12, .c (.v (.int .i64 v25))), (13, .c (.ptr 832 0))] [(128, .var [.bs (LEN a0.fCells) 4 (row GD (encCell LEN GD) a0.fCells)]), (256, .var [.v (.int .i64 0), .v (.int .i64 0), .v (.int .i64 0), .v (.int .i64 0)]), (896, .arr .rw [] (LEN v6) 4 (row GD (encRect) v6)), (960, .arr .rw [] (LEN v7) 1 (row GD (encB) v7)), (576, .var [.v (.int .i64 v26), .v (.int .i64 v27), .v (.int .i64 v28), .v (.int .i64 v29)]), (832, .var [.v (.int .i64 y60.1), .v (.int .i64 y60.2.1), .v (.int .i64 y60.2.2.1), .v (.int .i64 y60.2.2.2)])]) := ⟨_, rfl⟩
       refine ⟨S64, ?_, ?_⟩
       ·clear h
        have h := hy61
        clear hy61
        cbv
        refine fork (fun b72 => ?_) (fun b72 => ?_)
        ·replace h := of_br_t b72 h
         cbv
         replace h := of_bind h
         obtain ⟨y70, hy71, h⟩ := h
         refine ⟨{ args := [.agg [.v (.int .i64 v26), .v (.int .i64 v27), .v (.int .i64 v28), .v (.int .i64 v29)], .agg [.v (.int .i64 y58.fX0), .v (.int .i64 y58.fY0), .v (.int .i64 y58.fX1), .v (.int .i64 y58.fY1)]], o0 := [], r := .agg [.v (.int .i64 y70.fX0), .v (.int .i64 y70.fY0), .v (.int .i64 y70.fX1), .v (.int .i64 y70.fY1)], o1 := [], fl := true, σ := [], τ := [] }, hf_spec_l10Hull _ _ _ hy71, ⟨les_cons (lR _) (les_cons (lR _) (les_nil)), trivial, rfl, rfl, rfl, rfl, trivial, rfl⟩, ?_⟩
         cbv
         injection h with h
         subst h
         subst hS65
         show St.le _ _
         exact le_sparse rfl ⟨lR _, lR _, lR _, lR _, lR _, lR _, lR _, lR _, lR _, lR _, trivial⟩ ⟨rfl, rfl, oS, oS, rfl, rfl, trivial⟩ rfl
        ·replace h := of_br_f b72 h
         cbv
         injection h with h
         subst h
         subst hS65
         show St.le _ _
         exact le_sparse rfl ⟨lR _, lR _, lR _, lR _, lR _, lR _, lR _, lR _, lR _, lR _, trivial⟩ ⟨rfl, rfl, oS, oS, rfl, rfl, trivial⟩ rfl
       ·clear hy61
        subst hS65
        obtain ⟨y60_0, y60_1, y60_2, y60_3⟩ := y60
        replace h := of_let h
        obtain ⟨w66, hw66, h⟩ := h
        have hw66 : w66 = y60_0 := hw66
        subst hw66
        replace h := of_let h
        obtain ⟨w67, hw67, h⟩ := h
        have hw67 : w67 = y60_1 := hw67
        subst hw67
        replace h := of_let h
        obtain ⟨w68, hw68, h⟩ := h
        have hw68 : w68 = y60_2 := hw68
        subst hw68
        replace h := of_let h
        obtain ⟨w69, hw69, h⟩ := h
        have hw69 : w69 = y60_3 := hw69
        subst hw69
        cbv
        injection h with h
        subst h
        subst hS49
        show St.le _ _
        exact le_sparse rfl ⟨lR _, lR _, lR _, lR _, lR _, lR _, lR _, lR _, lR _, lR _, trivial⟩ ⟨rfl, rfl, oS, oS, rfl, trivial⟩ rfl
      ·replace h := of_br_f b73 h
       cbv
       injection h with h
       subst h
       subst hS49
       show St.le _ _
       exact le_sparse rfl ⟨lR _, lR _, lR _, lR _, lR _, lR _, lR _, lR _, lR _, lR _, trivial⟩ ⟨rfl, rfl, oS, oS, rfl, trivial⟩ rfl
     ·clear hy45
      subst hS49
      obtain ⟨y44_0, y44_1, y44_2, y44_3, y44_4⟩ := y44
      replace h := of_let h
      obtain ⟨w50, hw50, h⟩ := h
      have hw50 : w50 = y44_0 := hw50
      subst hw50
      replace h := of_let h
      obtain ⟨w51, hw51, h⟩ := h
      have hw51 : w51 = y44_1 := hw51
      subst hw51
      replace h := of_let h
      obtain ⟨w52, hw52, h⟩ := h
      have hw52 : w52 = y44_2 := hw52
      subst hw52
      replace h := of_let h
      obtain ⟨w53, hw53, h⟩ := h
      have hw53 : w53 = y44_3 := hw53
      subst hw53
      replace h := of_let h
      obtain ⟨w54, hw54, h⟩ := h
      have hw54 : w54 = y44_4 := hw54
      subst hw54
      cbv
      injection h with h
      refine hK36 _ h.symm _ ?_
      exact le_sparse rfl ⟨lR _, lR _, lR _, lR _, lR _, lR _, lR _, lR _, lR _, lR _, trivial⟩ ⟨rfl, rfl, oS, oS, rfl, trivial⟩ rfl
    ·replace h := of_br_f b74 h
     cbv
     injection h with h
     refine hY34 _ h.symm _ _ (And.intro rfl ?_) (by intro hh; cases hh)
     exact le_sparse rfl ⟨lR _, lR _, lR _, lR _, lR _, lR _, lR _, lR _, trivial⟩ ⟨rfl, rfl, oS, oS, rfl, trivial⟩ rfl
   ·clear hr32
    have h := hN33
    clear hN33
    intro e40 s41 q39 hne
    replace h := of_let h
    obtain ⟨y31k0, hyk, h⟩ := h
    have hyk : y31k0 = y31 := hyk
    subst hyk
    obtain ⟨rfl, q39⟩ := q39
    obtain ⟨y31k0_0, y31k0_1, y31k0_2, y31k0_3, y31k0_4⟩ := y31k0
    replace h := of_let h
    obtain ⟨w75, hw75, h⟩ := h
    have hw75 : w75 = y31k0_0 := hw75
    subst hw75
    replace h := of_let h
    obtain ⟨w76, hw76, h⟩ := h
    have hw76 : w76 = y31k0_1 := hw76
    subst hw76
    replace h := of_let h
    obtain ⟨w77, hw77, h⟩ := h
    have hw77 : w77 = y31k0_2 := hw77
    subst hw77
    replace h := of_let h
    obtain ⟨w78, hw78, h⟩ := h
    have hw78 : w78 = y31k0_3 := hw78
    subst hw78
    replace h := of_let h
    obtain ⟨w79, hw79, h⟩ := h
    have hw79 : w79 = y31k0_4 := hw79
    subst hw79
    cbv
    refine ⟨_, q39, ?_⟩
    cbv
    replace h := of_let h
    obtain ⟨l80, hl80, h⟩ := h
    have e81 : 1 = LEN l80 := by subst hl80 hLEN; rfl
    refine ⟨_, congrArg (fun n => AV.c (AC.os 4480 0 n)) e81, _, row GD (encRect) l80, e81, ?_, ?_⟩
    ·intro i hi j hj
     rw [← e81] at hi
     subst hl80
     subst hGD
     obtain rfl : i = 0 := (by omega) <;> obtain rfl | rfl | rfl | rfl : j = 0 ∨ j = 1 ∨ j = 2 ∨ j = 3 := (by omega)
     all_goals rfl
    cbv
    replace h := of_req h
    obtain ⟨c84, h⟩ := h
    replace h := of_let h
    obtain ⟨l82, hl82, h⟩ := h
    have e83 : A.nadd (LEN v6) (LEN l80) = LEN l82 := by subst hl82 hLEN hA; simp [std, len]
    refine ⟨c84, _, congrArg (fun n => AV.c (AC.os 896 0 n)) e83, _, row GD (encRect) l82, e83, ?_, ?_⟩
    ·subst hGD hLEN hA
     exact app_os (off := 0) (pl_encRect) hl82 (Nat.le_refl _)
    cbv
    replace h := of_let h
    obtain ⟨l85, hl85, h⟩ := h
    have e86 : 1 = LEN l85 := by subst hl85 hLEN; rfl
    refine ⟨_, congrArg (fun n => AV.c (AC.os 4736 0 n)) e86, _, row GD (encB) l85, e86, ?_, ?_⟩
    ·intro i hi j hj
     rw [← e86] at hi
     subst hl85
     subst hGD
     obtain rfl : i = 0 := (by omega)
     all_goals obtain rfl : j = 0 := by omega
     all_goals rfl
    cbv
    replace h := of_req h
    obtain ⟨c89, h⟩ := h
    replace h := of_let h
    obtain ⟨l87, hl87, h⟩ := h
    have e88 : A.nadd (LEN v7) (LEN l85) = LEN l87 := by subst hl87 hLEN hA; simp [std, len]
    refine ⟨c89, _, congrArg (fun n => AV.c (AC.os 960 0 n)) e88, _, row GD (encB) l87, e88, ?_, ?_⟩
    ·subst hGD hLEN hA
     exact app_os (off := 0) (fun _ _ => rfl) hl87 (Nat.le_refl _)
    cbv
    injection h with h
    refine hK14 _ h.symm _ ?_
    exact le_sparse rfl ⟨lR _, lR _, lR _, lR _, lR _, lR _, trivial⟩ ⟨rfl, rfl, oS, oS, trivial⟩ rfl
  ·replace h := of_br_f b90 h
   cbv
   injection h with h
   refine hY12 _ h.symm _ _ (And.intro rfl ?_) (by intro hh; cases hh)
   exact le_sparse rfl ⟨lR _, lR _, lR _, lR _, trivial⟩ ⟨rfl, oS, oS, trivial⟩ rfl
 ·clear hr10
  have h := hN11
  clear hN11
  intro e18 s19 q17 hne
  replace h := of_let h
  obtain ⟨y9k0, hyk, h⟩ := h
  have hyk : y9k0 = y9 := hyk
  subst hyk
  obtain ⟨rfl, q17⟩ := q17
  obtain ⟨y9k0_0, y9k0_1⟩ := y9k0
  replace h := of_let h
  obtain ⟨w91, hw91, h⟩ := h
  have hw91 : w91 = y9k0_0 := hw91
  subst hw91
  replace h := of_let h
  obtain ⟨w92, hw92, h⟩ := h
  have hw92 : w92 = y9k0_1 := hw92
  subst hw92
  cbv
  refine ⟨_, q17, ?_⟩
  cbv
  replace h := of_req h
  obtain ⟨c93, h⟩ := h
  refine ⟨⟨c93, trivial⟩, ?_⟩
  refine And.intro (by first | exact (by subst hA; exact idx_lt c93) | (refine And.intro (by subst hA; exact idx_lt c93) ?_; first | trivial | exact ⟨trivial, trivial⟩)) ?_
  replace h := of_req h
  obtain ⟨c94, h⟩ := h
  refine ⟨⟨c94, trivial⟩, ?_⟩
  refine And.intro (by first | exact (by subst hA; exact idx_lt c94) | (refine And.intro (by subst hA; exact idx_lt c94) ?_; first | trivial | exact ⟨trivial, trivial⟩)) ?_
  injection h with h
  subst h
  refine ⟨(sparse 84 [(4, .c (.ptr 256 0)), (5, .c (.v (.bool (GD w92 (A.nadd 0 (A.toN a1))))))] [(256, .var [.v (.int .i64 (GD w91 (A.nadd 0 (A.toN a1))).fX0), .v (.int .i64 (GD w91 (A.nadd 0 (A.toN a1))).fY0), .v (.int .i64 (GD w91 (A.nadd 0 (A.toN a1))).fX1), .v (.int .i64 (GD w91 (A.nadd 0 (A.toN a1))).fY1)])]), ?_, ?_⟩
  ·exact le_sparse rfl ⟨lR _, lR _, trivial⟩ ⟨rfl, trivial⟩ rfl
  ·exact ⟨lR _, trivial, rfl⟩

/-- spec.l10After -/
noncomputable def F_spec_l10After (a0 : TTransform) (a1 : TTransform) : Option (TTransform) :=
 req (std.nz 4) <|
 req (std.nz 4) <|
 ((
    br (std.le 4 a0.fOrientation)
    (some (std.sub .i64 0 (std.rem a1.fOrientation 4), std.sub .i64 1 (std.quo .i64 a1.fOrientation 4)))
    (some (std.rem a1.fOrientation 4, std.quo .i64 a1.fOrientation 4))
  ) : Option (Int × Int)).bind fun y3 =>
 letO y3.1 fun w9 =>
 letO y3.2 fun w10 =>
 (F_spec_l10Point a0 (TPoint.mk a1.fX a1.fY)).bind fun y12 =>
 req (std.nz 4) <|
 req (std.nz 4) <|
 some (TTransform.mk (std.add .i64 (std.rem (std.add .i64 (std.add .i64 (std.rem a0.fOrientation 4) w9) 4) 4) (std.mul .i64 4 w10)) y12.fX y12.fY)
theorem run_spec_l10After (a0 : TTransform) (a1 : TTransform) (r : TTransform) (h : F_spec_l10After a0 a1 = some r) : Fun Tryz.prog 81 [.agg [.v (.int .i64 a0.fOrientation), .v (.int .i64 a0.fX), .v (.int .i64 a0.fY)], .agg [.v (.int .i64 a1.fOrientation), .v (.int .i64 a1.fX), .v (.int .i64 a1.fY)]] [] (.agg [.v (.int .i64 r.fOrientation), .v (.int .i64 r.fX), .v (.int .i64 r.fY)]) [] true := by
 refine Fun.of_wp (oneOf [100016]) tok mixed Tryz.func81 (by kernel_rfl) rfl Tryz.ntmps81 rfl trivial (fun _ => ⟨(by simp [AV.flat, AV.flat1, AC.flat]), trivial⟩) ?_
 unfold F_spec_l10After at h
 have hf_spec_l10Point := @run_spec_l10Point
 generalize hLEN : @len = LEN at *
 generalize hGD : @gd = GD at *
 generalize hA : std = A at *
 generalize hP : Tryz.prog = P at *
 cbv
 replace h := of_req h
 obtain ⟨c1, h⟩ := h
 refine ⟨c1, ?_⟩
 replace h := of_req h
 obtain ⟨c2, h⟩ := h
 refine ⟨c2, ?_⟩
 replace h := of_bind h
 obtain ⟨y3, hy4, h⟩ := h
 obtain ⟨S7, hS8⟩ : ∃ S, S = some (sparse 43 [(2, .c (.ptr 128 0)), (3, .c (.ptr 192 0)), (4, .c (.ptr 256 0)), (5, .c (.v (.int .i64 y3.1))), (6, .c (.v (.int .i64 y3.2)))] [(128, .var [.v (.int .i64 a0.fOrientation), .v (.int .i64 a0.fX), .v (.int .i64 a0.fY)]), (192, .var [.v (.int .i64 a1.fOrientation), .v (.int .i64 a1.fX), .v (.int .i64 a1.fY)]), (256, .var [.v (.int .i64 0), .v (.int .i64 0), .v (.int .i64 0)])]) := ⟨_, rfl⟩
 refine ⟨S7, ?_, ?_⟩
 ·clear h
  have h := hy4
  clear hy4
  cbv
  refine fork (fun b11 => ?_) (fun b11 => ?_)
  ·replace h := of_br_t b11 h
   cbv
   injection h with h
   subst h
   subst hS8
   show St.le _ _
   exact le_sparse rfl ⟨lR _, lR _, lR _, lR _, lR _, trivial⟩ ⟨rfl, rfl, rfl, trivial⟩ rfl
  ·replace h := of_br_f b11 h
   cbv
   injection h with h
   subst h
   subst hS8
   show St.le _ _
   exact le_sparse rfl ⟨lR _, lR _, lR _, lR _, lR _, trivial⟩ ⟨rfl, rfl, rfl, trivial⟩ rfl
 ·clear hy4
  subst hS8
  obtain ⟨y3_0, y3_1⟩ := y3
  replace h := of_let h
  obtain ⟨w9, hw9, h⟩ := h
  have hw9 : w9 = y3_0 := hw9
  subst hw9
  replace h := of_let h
  obtain ⟨w10, hw10, h⟩ := h
  have hw10 : w10 = y3_1 := hw10
  subst hw10
  cbv
  replace h := of_bind h
  obtain ⟨y12, hy13, h⟩ := h
  refine ⟨{ args := [.agg [.v (.int .i64 a0.fOrientation), .v (.int .i64 a0.fX), .v (.int .i64 a0.fY)], .agg [.v (.int .i64 a1.fX), .v (.int .i64 a1.fY)]], o0 := [], r := .agg [.v (.int .i64 y12.fX), .v (.int .i64 y12.fY)], o1 := [], fl := true, σ := [], τ := [] }, hf_spec_l10Point _ _ _ hy13, ⟨les_cons (lR _) (les_cons (lR _) (les_nil)), trivial, rfl, rfl, rfl, rfl, trivial, rfl⟩, ?_⟩
  cbv
  replace h := of_req h
  obtain ⟨c14, h⟩ := h
  refine ⟨c14, ?_⟩
  replace h := of_req h
  obtain ⟨c15, h⟩ := h
  refine ⟨c15, ?_⟩
  injection h with h
  subst h
  refine ⟨(sparse 43 [(4, .c (.ptr 256 0))] [(256, .var [.v (.int .i64 (A.add .i64 (A.rem (A.add .i64 (A.add .i64 (A.rem a0.fOrientation 4) w9) 4) 4) (A.mul .i64 4 w10))), .v (.int .i64 y12.fX), .v (.int .i64 y12.fY)])]), ?_, ?_⟩
  ·exact le_sparse rfl ⟨lR _, trivial⟩ ⟨rfl, trivial⟩ rfl
  ·exact ⟨lR _, trivial, rfl⟩

/-- spec.l11Overlap -/
noncomputable def F_spec_l11Overlap (a0 : TRect) (a1 : TRect) : Option (Bool) :=
 ((
    br (std.lt a0.fX0 a1.fX1)
    (br (std.lt a1.fX0 a0.fX1)
    (br (std.lt a0.fY0 a1.fY1)
    (some (std.lt a1.fY0 a0.fY1))
    (some false))
    (some false))
    (some false)
  ) : Option (Bool)).bind fun y1 =>
 letO y1 fun w7 =>
 some w7
theorem run_spec_l11Overlap (a0 : TRect) (a1 : TRect) (r : Bool) (h : F_spec_l11Overlap a0 a1 = some r) : Fun Tryz.prog 31 [.agg [.v (.int .i64 a0.fX0), .v (.int .i64 a0.fY0), .v (.int .i64 a0.fX1), .v (.int .i64 a0.fY1)], .agg [.v (.int .i64 a1.fX0), .v (.int .i64 a1.fY0), .v (.int .i64 a1.fX1), .v (.int .i64 a1.fY1)]] [] (.c (.v (.bool r))) [] true := by
 refine Fun.of_wp (oneOf [1]) tok mixed Tryz.func31 (by kernel_rfl) rfl Tryz.ntmps31 rfl trivial (fun _ => ⟨trivial, trivial⟩) ?_
 unfold F_spec_l11Overlap at h
 generalize hLEN : @len = LEN at *
 generalize hGD : @gd = GD at *
 generalize hA : std = A at *
 generalize hP : Tryz.prog = P at *
 cbv
 replace h := of_bind h
 obtain ⟨y1, hy2, h⟩ := h
 obtain ⟨S5, hS6⟩ : ∃ S, S = (sparse 31 [(4, .c (.v (.bool y1)))] []) := ⟨_, rfl⟩
 refine ⟨S5, ?_, ?_⟩
 ·clear h
  have h := hy2
  clear hy2
  cbv
  refine fork (fun b10 => ?_) (fun b10 => ?_)
  ·replace h := of_br_t b10 h
   cbv
   refine fork (fun b9 => ?_) (fun b9 => ?_)
   ·replace h := of_br_t b9 h
    cbv
    refine fork (fun b8 => ?_) (fun b8 => ?_)
    ·replace h := of_br_t b8 h
     cbv
     injection h with h
     subst h
     subst hS6
     show St.le _ _
     exact le_sparse rfl ⟨lR _, trivial⟩ trivial rfl
    ·replace h := of_br_f b8 h
     cbv
     injection h with h
     subst h
     subst hS6
     show St.le _ _
     exact le_sparse rfl ⟨lR _, trivial⟩ trivial rfl
   ·replace h := of_br_f b9 h
    cbv
    injection h with h
    subst h
    subst hS6
    show St.le _ _
    exact le_sparse rfl ⟨lR _, trivial⟩ trivial rfl
  ·replace h := of_br_f b10 h
   cbv
   injection h with h
   subst h
   subst hS6
   show St.le _ _
   exact le_sparse rfl ⟨lR _, trivial⟩ trivial rfl
 ·clear hy2
  subst hS6
  replace h := of_let h
  obtain ⟨w7, hw7, h⟩ := h
  have hw7 : w7 = y1 := hw7
  subst hw7
  cbv
  injection h with h
  subst h
  refine ⟨(sparse 31 [(4, .c (.v (.bool w7)))] []), ?_, ?_⟩
  ·exact le_sparse rfl ⟨lR _, trivial⟩ trivial rfl
  ·exact ⟨lR _, trivial, rfl⟩

noncomputable def L_spec_l12Visit_mbxbb_x44 (a0 : TLibrary) (a2 : TOccurrence) (a3 : TRect) (F_REC_spec_l12Visit_mbxbb : TLibrary → (List TOccurrence) → TOccurrence → TRect → Option (List TOccurrence)) (v26 : Int) (v8 : Int) (y23 : TRect × Bool) : (Int × Int × (List TOccurrence)) → Option ((Int × Int × (List TOccurrence)) ⊕ ((Int × (List TOccurrence)))) := fun x44 =>
 letO x44.1 fun v41 =>
 letO x44.2.1 fun v42 =>
 letO x44.2.2 fun v43 =>
 req (std.inR v8 (len (gd a0.fCells (std.toN a2.fCell)).fInstances)) <|
 br (std.lt v42 (gd (gd a0.fCells (std.toN a2.fCell)).fInstances (std.toN v8)).fColumns)
 (req (std.inR v8 (len (gd a0.fCells (std.toN a2.fCell)).fInstances)) <|
 (F_spec_l10Element (gd (gd a0.fCells (std.toN a2.fCell)).fInstances (std.toN v8)) v42 v26).bind fun y58 =>
 (F_spec_l10After a2.fPlace y58).bind fun y60 =>
 ((
    br y23.2
    ((F_spec_l10Rect y60 y23.1).bind fun y69 =>
    (F_spec_l11Overlap y69 a3).bind fun y71 =>
    some y71)
    (some false)
  ) : Option (Bool)).bind fun y62 =>
 letO y62 fun w68 =>
 ((
    br w68
    (letO ([] : List Int) fun l81 =>
    req (std.room (std.nadd (len l81) (len a2.fPath)) 8) <|
    letO (l81 ++ a2.fPath) fun l83 =>
    letO ([v41] : List Int) fun l86 =>
    req (std.room (std.nadd (len l83) (len l86)) 8) <|
    letO (l83 ++ l86) fun l88 =>
    req (std.inR v8 (len (gd a0.fCells (std.toN a2.fCell)).fInstances)) <|
    (F_REC_spec_l12Visit_mbxbb (TLibrary.mk a0.fCells) v43 (TOccurrence.mk (gd (gd a0.fCells (std.toN a2.fCell)).fInstances (std.toN v8)).fCell y60 l88) a3).bind fun y92 =>
    some y92)
    (some v43)
  ) : Option ((List TOccurrence))).bind fun y74 =>
 letO y74 fun w80 =>
 some (.inl (std.add .i64 v41 1, std.add .i64 v42 1, w80)))
 (some (.inr (v41, v43)))
noncomputable def L_spec_l12Visit_mbxbb_x28 (a0 : TLibrary) (a2 : TOccurrence) (a3 : TRect) (F_REC_spec_l12Visit_mbxbb : TLibrary → (List TOccurrence) → TOccurrence → TRect → Option (List TOccurrence)) (v8 : Int) (y23 : TRect × Bool) : (Int × Int × (List TOccurrence)) → Option ((Int × Int × (List TOccurrence)) ⊕ ((Int × (List TOccurrence)))) := fun x28 =>
 letO x28.1 fun v25 =>
 letO x28.2.1 fun v26 =>
 letO x28.2.2 fun v27 =>
 req (std.inR v8 (len (gd a0.fCells (std.toN a2.fCell)).fInstances)) <|
 br (std.lt v26 (gd (gd a0.fCells (std.toN a2.fCell)).fInstances (std.toN v8)).fRows)
 ((whileP (σ := Int × Int × (List TOccurrence)) (ρ := (Int × (List TOccurrence))) (L_spec_l12Visit_mbxbb_x44 a0 a2 a3 F_REC_spec_l12Visit_mbxbb v26 v8 y23) (v25, 0, v27)).bind fun y45 =>
 letO y45 fun y45k0 =>
 letO y45k0.1 fun w96 =>
 letO y45k0.2 fun w97 =>
 some (.inl (w96, std.add .i64 v26 1, w97)))
 (some (.inr (v25, v27)))
noncomputable def L_spec_l12Visit_mbxbb_x10 (a0 : TLibrary) (a2 : TOccurrence) (a3 : TRect) (F_REC_spec_l12Visit_mbxbb : TLibrary → (List TOccurrence) → TOccurrence → TRect → Option (List TOccurrence)) : (Int × Int × (List TOccurrence)) → Option ((Int × Int × (List TOccurrence)) ⊕ (((List TOccurrence)))) := fun x10 =>
 letO x10.1 fun v7 =>
 letO x10.2.1 fun v8 =>
 letO x10.2.2 fun v9 =>
 br (std.lt v8 (std.ofN (len (gd a0.fCells (std.toN a2.fCell)).fInstances)))
 (req (std.inR v8 (len (gd a0.fCells (std.toN a2.fCell)).fInstances)) <|
 (F_spec_l12Box (TLibrary.mk a0.fCells) (gd (gd a0.fCells (std.toN a2.fCell)).fInstances (std.toN v8)).fCell).bind fun y23 =>
 (whileP (σ := Int × Int × (List TOccurrence)) (ρ := (Int × (List TOccurrence))) (L_spec_l12Visit_mbxbb_x28 a0 a2 a3 F_REC_spec_l12Visit_mbxbb v8 y23) (v7, 0, v9)).bind fun y29 =>
 letO y29 fun y29k0 =>
 letO y29k0.1 fun w99 =>
 letO y29k0.2 fun w100 =>
 some (.inl (w99, std.add .i64 v8 1, w100)))
 (some (.inr v9))
/-- spec.l12Visit -/
noncomputable def FS_spec_l12Visit_mbxbb (F_REC_spec_l12Visit_mbxbb : TLibrary → (List TOccurrence) → TOccurrence → TRect → Option (List TOccurrence)) (a0 : TLibrary) (a1 : List TOccurrence) (a2 : TOccurrence) (a3 : TRect) : Option (List TOccurrence) :=
 letO ([a2] : List TOccurrence) fun l1 =>
 req (std.room (std.nadd (len a1) (len l1)) 56) <|
 letO (a1 ++ l1) fun l3 =>
 req (std.inR a2.fCell (len a0.fCells)) <|
 (whileP (σ := Int × Int × (List TOccurrence)) (ρ := ((List TOccurrence))) (L_spec_l12Visit_mbxbb_x10 a0 a2 a3 F_REC_spec_l12Visit_mbxbb) (0, 0, l3)).bind fun y11 =>
 letO y11 fun y11k0 =>
 letO y11k0 fun w102 =>
 some w102
theorem runS_spec_l12Visit_mbxbb (F_REC_spec_l12Visit_mbxbb : TLibrary → (List TOccurrence) → TOccurrence → TRect → Option (List TOccurrence)) (hf_REC_spec_l12Visit_mbxbb : ∀ (a0 : TLibrary) (a1 : List TOccurrence) (a2 : TOccurrence) (a3 : TRect) (r : List TOccurrence), F_REC_spec_l12Visit_mbxbb a0 a1 a2 a3 = some r → Fun Tryz.prog 53 [.agg [.bs (len a0.fCells) 4 (row gd (encCell len gd) a0.fCells)], .c (.os 5 0 (len a1)), .agg [.v (.int .i64 a2.fCell), .v (.int .i64 a2.fPlace.fOrientation), .v (.int .i64 a2.fPlace.fX), .v (.int .i64 a2.fPlace.fY), .bs (len a2.fPath) 1 (row gd (encI .i64) a2.fPath)], .agg [.v (.int .i64 a3.fX0), .v (.int .i64 a3.fY0), .v (.int .i64 a3.fX1), .v (.int .i64 a3.fY1)]] [(5, .arr .rw [] (len a1) 5 (row gd (encOccurrence len gd) a1))] (.c (.os 64000 0 (len r))) [(64000, .arr .rw [] (len r) 5 (row gd (encOccurrence len gd) r))] false) (a0 : TLibrary) (a1 : List TOccurrence) (a2 : TOccurrence) (a3 : TRect) (r : List TOccurrence) (h : FS_spec_l12Visit_mbxbb F_REC_spec_l12Visit_mbxbb a0 a1 a2 a3 = some r) : Fun Tryz.prog 53 [.agg [.bs (len a0.fCells) 4 (row gd (encCell len gd) a0.fCells)], .c (.os 5 0 (len a1)), .agg [.v (.int .i64 a2.fCell), .v (.int .i64 a2.fPlace.fOrientation), .v (.int .i64 a2.fPlace.fX), .v (.int .i64 a2.fPlace.fY), .bs (len a2.fPath) 1 (row gd (encI .i64) a2.fPath)], .agg [.v (.int .i64 a3.fX0), .v (.int .i64 a3.fY0), .v (.int .i64 a3.fX1), .v (.int .i64 a3.fY1)]] [(5, .arr .rw [] (len a1) 5 (row gd (encOccurrence len gd) a1))] (.c (.os 64000 0 (len r))) [(64000, .arr .rw [] (len r) 5 (row gd (encOccurrence len gd) r))] false := by
 refine Fun.of_wp (oneOf [15, 100080]) tok mixed Tryz.func53 (by kernel_rfl) rfl Tryz.ntmps53 rfl ⟨fun i _ j _ k hk => (noref (plain_nil (pl_encOccurrence _ _)) hk).elim, trivial⟩ (fun h => by cases h) ?_
 unfold FS_spec_l12Visit_mbxbb at h
 unfold L_spec_l12Visit_mbxbb_x10 at h
 unfold L_spec_l12Visit_mbxbb_x28 at h
 unfold L_spec_l12Visit_mbxbb_x44 at h
 have hf_spec_l10After := @run_spec_l10After
 have hf_spec_l10Element := @run_spec_l10Element
 have hf_spec_l10Rect := @run_spec_l10Rect
 have hf_spec_l11Overlap := @run_spec_l11Overlap
 have hf_spec_l12Box := @run_spec_l12Box
 generalize hLEN : @len = LEN at *
 generalize hGD : @gd = GD at *
 generalize hA : std = A at *
 generalize hP : Tryz.prog = P at *
 cbv
 replace h := of_let h
 obtain ⟨l1, hl1, h⟩ := h
 have e2 : 1 = LEN l1 := by subst hl1 hLEN; rfl
 refine ⟨_, congrArg (fun n => AV.c (AC.os 1280 0 n)) e2, _, row GD (encOccurrence LEN GD) l1, e2, ?_, ?_⟩
 ·intro i hi j hj
  rw [← e2] at hi
  subst hl1
  subst hGD
  obtain rfl : i = 0 := (by omega) <;> obtain rfl | rfl | rfl | rfl | rfl : j = 0 ∨ j = 1 ∨ j = 2 ∨ j = 3 ∨ j = 4 := (by omega)
  all_goals rfl
 cbv
 replace h := of_req h
 obtain ⟨c5, h⟩ := h
 replace h := of_let h
 obtain ⟨l3, hl3, h⟩ := h
 have e4 : A.nadd (LEN a1) (LEN l1) = LEN l3 := by subst hl3 hLEN hA; simp [std, len]
 refine ⟨c5, _, congrArg (fun n => AV.c (AC.os 1344 0 n)) e4, _, row GD (encOccurrence LEN GD) l3, e4, ?_, ?_⟩
 ·subst hGD hLEN hA
  exact app_os (off := 0) (pl_encOccurrence) hl3 (Nat.le_refl _)
 cbv
 replace h := of_req h
 obtain ⟨c6, h⟩ := h
 refine ⟨⟨c6, trivial⟩, ?_⟩
 replace h := of_bind h
 obtain ⟨y11, hr12, hN13⟩ := h
 refine loop_cut hr12 (fun x => (sparse 103 [(1, .c (.os 6336 0 (LEN x.2.2))), (4, .c (.ptr 256 0)), (6, .c (.ptr 384 0)), (7, .c (.ptr 448 0)), (9, .c (.v (.int .i64 x.1))), (10, .c (.bs (LEN (GD a0.fCells (A.toN a2.fCell)).fInstances) 8 (row GD (encInstance) (GD a0.fCells (A.toN a2.fCell)).fInstances))), (11, .c (.v (.int .i64 x.2.1)))] [(6336, .arr .rw [] (LEN x.2.2) 5 (row GD (encOccurrence LEN GD) x.2.2)), (256, .var [.bs (LEN a0.fCells) 4 (row GD (encCell LEN GD) a0.fCells)]), (384, .var [.v (.int .i64 a2.fCell), .v (.int .i64 a2.fPlace.fOrientation), .v (.int .i64 a2.fPlace.fX), .v (.int .i64 a2.fPlace.fY), .bs (LEN a2.fPath) 1 (row GD (encI .i64) a2.fPath)]), (448, .var [.v (.int .i64 a3.fX0), .v (.int .i64 a3.fY0), .v (.int .i64 a3.fX1), .v (.int .i64 a3.fY1)])])) ?_ (fun y e s => (fun (w : (List TOccurrence)) => e = .exit 0 ∧ s.le (sparse 103 [(1, .c (.os 6336 0 (LEN w)))] [(6336, .arr .rw [] (LEN w) 5 (row GD (encOccurrence LEN GD) w))])) y) ?_ ?_
 ·clear hr12 hN13
  show St.le _ _
  refine St.le_trans (le_ren 1344 6336 (by decide) rfl) ?_
  exact le_sparse rfl ⟨lR _, lR _, lR _, lR _, lR _, lR _, lR _, trivial⟩ ⟨oS, rfl, rfl, rfl, trivial⟩ rfl
 ·clear hr12 hN13
  intro x z17 h K15 hK16 hY14
  obtain ⟨x0_, x1_, x2_⟩ := x
  replace h := of_let h
  obtain ⟨v7, hv7, h⟩ := h
  have hv7 : v7 = x0_ := hv7
  subst hv7
  replace h := of_let h
  obtain ⟨v8, hv8, h⟩ := h
  have hv8 : v8 = x1_ := hv8
  subst hv8
  replace h := of_let h
  obtain ⟨v9, hv9, h⟩ := h
  have hv9 : v9 = x2_ := hv9
  subst hv9
  cbv
  refine fork (fun b101 => ?_) (fun b101 => ?_)
  ·replace h := of_br_t b101 h
   cbv
   replace h := of_req h
   obtain ⟨c22, h⟩ := h
   refine ⟨⟨c22, trivial⟩, ?_⟩
   replace h := of_bind h
   obtain ⟨y23, hy24, h⟩ := h
   refine ⟨{ args := [.agg [.bs (LEN a0.fCells) 4 (row GD (encCell LEN GD) a0.fCells)], .c (.v (.int .i64 (GD (GD a0.fCells (A.toN a2.fCell)).fInstances (A.toN v8)).fCell))], o0 := [], r := .tup [.agg [.v (.int .i64 y23.1.fX0), .v (.int .i64 y23.1.fY0), .v (.int .i64 y23.1.fX1), .v (.int .i64 y23.1.fY1)], .c (.v (.bool y23.2))], o1 := [], fl := true, σ := [], τ := [] }, hf_spec_l12Box _ _ _ hy24, ⟨les_cons (lR _) (les_cons (lR _) (les_nil)), trivial, rfl, rfl, rfl, rfl, trivial, rfl⟩, ?_⟩
   cbv
   replace h := of_bind h
   obtain ⟨y29, hr30, hN31⟩ := h
   refine loop_cut hr30 (fun x => (sparse 103 [(1, .c (.os 6336 0 (LEN x.2.2))), (4, .c (.ptr 256 0)), (6, .c (.ptr 384 0)), (7, .c (.ptr 448 0)), (9, .c (.v (.int .i64 x.1))), (10, .c (.bs (LEN (GD a0.fCells (A.toN a2.fCell)).fInstances) 8 (row GD (encInstance) (GD a0.fCells (A.toN a2.fCell)).fInstances))), (11, .c (.v (.int .i64 v8))), (12, .c (.ptr 768 0)), (13, .c (.v (.bool y23.2))), (14, .c (.v (.int .i64 x.2.1)))] [(6336, .arr .rw [] (LEN x.2.2) 5 (row GD (encOccurrence LEN GD) x.2.2)), (256, .var [.bs (LEN a0.fCells) 4 (row GD (encCell LEN GD) a0.fCells)]), (384, .var [.v (.int .i64 a2.fCell), .v (.int .i64 a2.fPlace.fOrientation), .v (.int .i64 a2.fPlace.fX), .v (.int .i64 a2.fPlace.fY), .bs (LEN a2.fPath) 1 (row GD (encI .i64) a2.fPath)]), (448, .var [.v (.int .i64 a3.fX0), .v (.int .i64 a3.fY0), .v (.int .i64 a3.fX1), .v (.int .i64 a3.fY1)]), (768, .var [.v (.int .i64 y23.1.fX0), .v (.int .i64 y23.1.fY0), .v (.int .i64 y23.1.fX1), .v (.int .i64 y23.1.fY1)])])) ?_ (fun y e s => (fun (w : Int × (List TOccurrence)) => e = .exit 2 ∧ s.le (sparse 103 [(1, .c (.os 6336 0 (LEN w.2))), (4, .c (.ptr 256 0)), (6, .c (.ptr 384 0)), (7, .c (.ptr 448 0)), (9, .c (.v (.int .i64 w.1))), (10, .c (.bs (LEN (GD a0.fCells (A.toN a2.fCell)).fInstances) 8 (row GD (encInstance) (GD a0.fCells (A.toN a2.fCell)).fInstances))), (11, .c (.v (.int .i64 v8)))] [(6336, .arr .rw [] (LEN w.2) 5 (row GD (encOccurrence LEN GD) w.2)), (256, .var [.bs (LEN a0.fCells) 4 (row GD (encCell LEN GD) a0.fCells)]), (384, .var [.v (.int .i64 a2.fCell), .v (.int .i64 a2.fPlace.fOrientation), .v (.int .i64 a2.fPlace.fX), .v (.int .i64 a2.fPlace.fY), .bs (LEN a2.fPath) 1 (row GD (encI .i64) a2.fPath)]), (448, .var [.v (.int .i64 a3.fX0), .v (.int .i64 a3.fY0), .v (.int .i64 a3.fX1), .v (.int .i64 a3.fY1)])])) y) ?_ ?_
   ·clear hr30 hN31
    show St.le _ _
    exact le_sparse rfl ⟨lR _, lR _, lR _, lR _, lR _, lR _, lR _, lR _, lR _, lR _, trivial⟩ ⟨oS, rfl, rfl, rfl, rfl, trivial⟩ rfl
   ·clear hr30 hN31
    intro x z35 h K33 hK34 hY32
    obtain ⟨x0_, x1_, x2_⟩ := x
    replace h := of_let h
    obtain ⟨v25, hv25, h⟩ := h
    have hv25 : v25 = x0_ := hv25
    subst hv25
    replace h := of_let h
    obtain ⟨v26, hv26, h⟩ := h
    have hv26 : v26 = x1_ := hv26
    subst hv26
    replace h := of_let h
    obtain ⟨v27, hv27, h⟩ := h
    have hv27 : v27 = x2_ := hv27
    subst hv27
    cbv
    replace h := of_req h
    obtain ⟨c40, h⟩ := h
    refine ⟨⟨c40, trivial⟩, ?_⟩
    refine fork (fun b98 => ?_) (fun b98 => ?_)
    ·replace h := of_br_t b98 h
     cbv
     replace h := of_bind h
     obtain ⟨y45, hr46, hN47⟩ := h
     refine loop_cut hr46 (fun x => (sparse 103 [(1, .c (.os 6336 0 (LEN x.2.2))), (4, .c (.ptr 256 0)), (6, .c (.ptr 384 0)), (7, .c (.ptr 448 0)), (9, .c (.v (.int .i64 x.1))), (10, .c (.bs (LEN (GD a0.fCells (A.toN a2.fCell)).fInstances) 8 (row GD (encInstance) (GD a0.fCells (A.toN a2.fCell)).fInstances))), (11, .c (.v (.int .i64 v8))), (12, .c (.ptr 768 0)), (13, .c (.v (.bool y23.2))), (14, .c (.v (.int .i64 v26))), (15, .c (.v (.int .i64 x.2.1)))] [(6336, .arr .rw [] (LEN x.2.2) 5 (row GD (encOccurrence LEN GD) x.2.2)), (256, .var [.bs (LEN a0.fCells) 4 (row GD (encCell LEN GD) a0.fCells)]), (384, .var [.v (.int .i64 a2.fCell), .v (.int .i64 a2.fPlace.fOrientation), .v (.int .i64 a2.fPlace.fX), .v (.int .i64 a2.fPlace.fY), .bs (LEN a2.fPath) 1 (row GD (encI .i64) a2.fPath)]), (448, .var [.v (.int .i64 a3.fX0), .v (.int .i64 a3.fY0), .v (.int .i64 a3.fX1), .v (.int .i64 a3.fY1)]), (768, .var [.v (.int .i64 y23.1.fX0), .v (.int .i64 y23.1.fY0), .v (.int .i64 y23.1.fX1), .v (.int .i64 y23.1.fY1)])])) ?_ (fun y e s => (fun (w : Int × (List TOccurrence)) => e = .exit 4 ∧ s.le (sparse 103 [(1, .c (.os 6336 0 (LEN w.2))), (4, .c (.ptr 256 0)), (6, .c (.ptr 384 0)), (7, .c (.ptr 448 0)), (9, .c (.v (.int .i64 w.1))), (10, .c (.bs (LEN (GD a0.fCells (A.toN a2.fCell)).fInstances) 8 (row GD (encInstance) (GD a0.fCells (A.toN a2.fCell)).fInstances))), (11, .c (.v (.int .i64 v8))), (12, .c (.ptr 768 0)), (13, .c (.v (.bool y23.2))), (14, .c (.v (.int .i64 v26)))] [(6336, .arr .rw [] (LEN w.2) 5 (row GD (encOccurrence LEN GD) w.2)), (256, .var [.bs (LEN a0.fCells) 4 (row GD (encCell LEN GD) a0.fCells)]), (384, .var [.v (.int .i64 a2.fCell), .v (.int .i64 a2.fPlace.fOrientation), .v (.int .i64 a2.fPlace.fX), .v (.int .i64 a2.fPlace.fY), .bs (LEN a2.fPath) 1 (row GD (encI .i64) a2.fPath)]), (448, .var [.v (.int .i64 a3.fX0), .v (.int .i64 a3.fY0), .v (.int .i64 a3.fX1), .v (.int .i64 a3.fY1)]), (768, .var [.v (.int .i64 y23.1.fX0), .v (.int .i64 y23.1.fY0), .v (.int .i64 y23.1.fX1), .v (.int .i64 y23.1.fY1)])])) y) ?_ ?_
     ·clear hr46 hN47
      show St.le _ _
      exact le_sparse rfl ⟨lR _, lR _, lR _, lR _, lR _, lR _, lR _, lR _, lR _, lR _, lR _, trivial⟩ ⟨oS, rfl, rfl, rfl, rfl, trivial⟩ rfl
     ·clear hr46 hN47
      intro x z51 h K49 hK50 hY48
      obtain ⟨x0_, x1_, x2_⟩ := x
      replace h := of_let h
      obtain ⟨v41, hv41, h⟩ := h
      have hv41 : v41 = x0_ := hv41
      subst hv41
      replace h := of_let h
      obtain ⟨v42, hv42, h⟩ := h
      have hv42 : v42 = x1_ := hv42
      subst hv42
      replace h := of_let h
      obtain ⟨v43, hv43, h⟩ := h
      have hv43 : v43 = x2_ := hv43
      subst hv43
      cbv
      replace h := of_req h
      obtain ⟨c56, h⟩ := h
      refine ⟨⟨c56, trivial⟩, ?_⟩
      refine fork (fun b95 => ?_) (fun b95 => ?_)
      ·replace h := of_br_t b95 h
       cbv
       replace h := of_req h
       obtain ⟨c57, h⟩ := h
       refine ⟨⟨c57, trivial⟩, ?_⟩
       replace h := of_bind h
       obtain ⟨y58, hy59, h⟩ := h
       refine ⟨{ args := [.agg [.v (.int .i64 (GD (GD a0.fCells (A.toN a2.fCell)).fInstances (A.toN v8)).fCell), .v (.int .i64 (GD (GD a0.fCells (A.toN a2.fCell)).fInstances (A.toN v8)).fPlace.fOrientation), .v (.int .i64 (GD (GD a0.fCells (A.toN a2.fCell)).fInstances (A.toN v8)).fPlace.fX), .v (.int .i64 (GD (GD a0.fCells (A.toN a2.fCell)).fInstances (A.toN v8)).fPlace.fY), .v (.int .i64 (GD (GD a0.fCells (A.toN a2.fCell)).fInstances (A.toN v8)).fColumns), .v (.int .i64 (GD (GD a0.fCells (A.toN a2.fCell)).fInstances (A.toN v8)).fRows), .v (.int .i64 (GD (GD a0.fCells (A.toN a2.fCell)).fInstances (A.toN v8)).fStepX), .v (.int .i64 (GD (GD a0.fCells (A.toN a2.fCell)).fInstances (A.toN v8)).fStepY)], .c (.v (.int .i64 v42)), .c (.v (.int .i64 v26))], o0 := [], r := .agg [.v (.int .i64 y58.fOrientation), .v (.int .i64 y58.fX), .v (.int .i64 y58.fY)], o1 := [], fl := true, σ := [], τ := [] }, hf_spec_l10Element _ _ _ _ hy59, ⟨les_cons (lR _) (les_cons (lR _) (les_cons (lR _) (les_nil))), trivial, rfl, rfl, rfl, rfl, trivial, rfl⟩, ?_⟩
       cbv
       replace h := of_bind h
       obtain ⟨y60, hy61, h⟩ := h
       refine ⟨{ args := [.agg [.v (.int .i64 a2.fPlace.fOrientation), .v (.int .i64 a2.fPlace.fX), .v (.int .i64 a2.fPlace.fY)], .agg [.v (.int .i64 y58.fOrientation), .v (.int .i64 y58.fX), .v (.int .i64 y58.fY)]], o0 := [], r := .agg [.v (.int .i64 y60.fOrientation), .v (.int .i64 y60.fX), .v (.int .i64 y60.fY)], o1 := [], fl := true, σ := [], τ := [] }, hf_spec_l10After _ _ _ hy61, ⟨les_cons (lR _) (les_cons (lR _) (les_nil)), trivial, rfl, rfl, rfl, rfl, trivial, rfl⟩, ?_⟩
       cbv
       replace h := of_bind h
       obtain ⟨y62, hy63, h⟩ := h
       obtain ⟨S66, hS67⟩ : ∃ S, S = (sparse 103 [(1, .c (.os 6336 0 (LEN v43))), (4, .c (.ptr 256 0)), (6, .c (.ptr 384 0)), (7, .c (.ptr 448 0)), (9, .c (.v (.int .i64 v41))), (10, .c (.bs (LEN (GD a0.fCells (A.toN a2.fCell)).fInstances) 8 (row GD (encInstance) (GD a0.fCells (A.toN a2.fCell)).fInstances))), (11, .c (.v (.int .i64 v8))), (12, .c (.ptr 768 0)), (13, .c (.v (.bool y23.2))), (14, .c (.v (.int .i64 v26))), (15, .c (.v (.int .i64 v42))), (16, .c (.ptr 1024 0)), (80, .c (.v (.bool y62)))] [(6336, .arr .rw [] (LEN v43) 5 (row GD (encOccurrence LEN GD) v43)), (256, .var [.bs (LEN a0.fCells) 4 (row GD (encCell LEN GD) a0.fCells)]), (384, .var [.v (.int .i64 a2.fCell), .v (.int .i64 a2.fPlace.fOrientation), .v (.int .i64 a2.fPlace.fX), .v (.int .i64 a2.fPlace.fY), .bs (LEN a2.fPath) 1 (row GD (encI .i64) a2.fPath)]), (448, .var [.v (.int .i64 a3.fX0), .v (.int .i64 a3.fY0), .v (.int .i64 a3.fX1), .v (.int .i64 a3.fY1)]), (768, .var [.v (.int .i64 y23.1.fX0), .v (.int .i64 y23.1.fY0), .v (.int .i64 y23.1.fX1), .v (.int .i64 y23.1.fY1)]), (1024, .var [.v (.int .i64 y60.fOrientation), .v (.int .i64 y60.fX), .v (.int .i64 y60.fY)])]) := ⟨_, rfl⟩
       refine ⟨S66, ?_, ?_⟩
       ·clear h
        have h := hy63
        clear hy63
        cbv
        refine fork (fun b73 => ?_) (fun b73 => ?_)
        ·replace h := of_br_t b73 h
         cbv
         replace h := of_bind h
         obtain ⟨y69, hy70, h⟩ := h
         refine ⟨{ args := [.agg [.v (.int .i64 y60.fOrientation), .v (.int .i64 y60.fX), .v (.int .i64 y60.fY)], .agg [.v (.int .i64 y23.1.fX0), .v (.int .i64 y23.1.fY0), .v (.int .i64 y23.1.fX1), .v (.int .i64 y23.1.fY1)]], o0 := [], r := .agg [.v (.int .i64 y69.fX0), .v (.int .i64 y69.fY0), .v (.int .i64 y69.fX1), .v (.int .i64 y69.fY1)], o1 := [], fl := true, σ := [], τ := [] }, hf_spec_l10Rect _ _ _ hy70, ⟨les_cons (lR _) (les_cons (lR _) (les_nil)), trivial, rfl, rfl, rfl, rfl, trivial, rfl⟩, ?_⟩
         cbv
         replace h := of_bind h
         obtain ⟨y71, hy72, h⟩ := h
         refine ⟨{ args := [.agg [.v (.int .i64 y69.fX0), .v (.int .i64 y69.fY0), .v (.int .i64 y69.fX1), .v (.int .i64 y69.fY1)], .agg [.v (.int .i64 a3.fX0), .v (.int .i64 a3.fY0), .v (.int .i64 a3.fX1), .v (.int .i64 a3.fY1)]], o0 := [], r := .c (.v (.bool y71)), o1 := [], fl := true, σ := [], τ := [] }, hf_spec_l11Overlap _ _ _ hy72, ⟨les_cons (lR _) (les_cons (lR _) (les_nil)), trivial, rfl, rfl, rfl, rfl, trivial, rfl⟩, ?_⟩
         cbv
         injection h with h
         subst h
         subst hS67
         show St.le _ _
         exact le_sparse rfl ⟨lR _, lR _, lR _, lR _, lR _, lR _, lR _, lR _, lR _, lR _, lR _, lR _, lR _, trivial⟩ ⟨oS, rfl, rfl, rfl, rfl, rfl, trivial⟩ rfl
        ·replace h := of_br_f b73 h
         cbv
         injection h with h
         subst h
         subst hS67
         show St.le _ _
         exact le_sparse rfl ⟨lR _, lR _, lR _, lR _, lR _, lR _, lR _, lR _, lR _, lR _, lR _, lR _, lR _, trivial⟩ ⟨oS, rfl, rfl, rfl, rfl, rfl, trivial⟩ rfl
       ·clear hy63
        subst hS67
        replace h := of_let h
        obtain ⟨w68, hw68, h⟩ := h
        have hw68 : w68 = y62 := hw68
        subst hw68
        cbv
        replace h := of_bind h
        obtain ⟨y74, hy75, h⟩ := h
        obtain ⟨S78, hS79⟩ : ∃ S, S = some (sparse 103 [(1, .c (.os 6336 0 (LEN y74))), (4, .c (.ptr 256 0)), (6, .c (.ptr 384 0)), (7, .c (.ptr 448 0)), (9, .c (.v (.int .i64 v41))), (10, .c (.bs (LEN (GD a0.fCells (A.toN a2.fCell)).fInstances) 8 (row GD (encInstance) (GD a0.fCells (A.toN a2.fCell)).fInstances))), (11, .c (.v (.int .i64 v8))), (12, .c (.ptr 768 0)), (13, .c (.v (.bool y23.2))), (14, .c (.v (.int .i64 v26))), (15, .c (.v (.int .i64 v42)))] [(6336, .arr .rw [] (LEN y74) 5 (row GD (encOccurrence LEN GD) y74)), (256, .var [.bs (LEN a0.fCells) 4 (row GD (encCell LEN GD) a0.fCells)]), (384, .var [.v (.int .i64 a2.fCell), .v (.int .i64 a2.fPlace.fOrientation), .v (.int .i64 a2.fPlace.fX), .v (.int .i64 a2.fPlace.fY), .bs (LEN a2.fPath) 1 (row GD (encI .i64) a2.fPath)]), (448, .var [.v (.int .i64 a3.fX0), .v (.int .i64 a3.fY0), .v (.int .i64 a3.fX1), .v (.int .i64 a3.fY1)]), (768, .var [.v (.int .i64 y23.1.fX0), .v (.int .i64 y23.1.fY0), .v (.int .i64 y23.1.fX1), .v (.int .i64 y23.1.fY1)])]) := ⟨_, rfl⟩
        refine ⟨S78, ?_, ?_⟩
        ·clear h
         have h := hy75
         clear hy75
         cbv
         refine fork (fun b94 => ?_) (fun b94 => ?_)
         ·replace h := of_br_t b94 h
          cbv
          replace h := of_let h
          obtain ⟨l81, hl81, h⟩ := h
          have e82 : 0 = LEN l81 := by subst hl81 hLEN; rfl
          refine ⟨_, congrArg (fun n => AV.c (AC.os 5184 0 n)) e82, _, row GD (encI .i64) l81, e82, ?_, ?_⟩
          ·intro i hi j hj
           rw [← e82] at hi
           subst hl81
           subst hGD
           omega
          cbv
          replace h := of_req h
          obtain ⟨c85, h⟩ := h
          replace h := of_let h
          obtain ⟨l83, hl83, h⟩ := h
          have e84 : A.nadd (LEN l81) (LEN a2.fPath) = LEN l83 := by subst hl83 hLEN hA; simp [std, len]
          refine ⟨c85, _, congrArg (fun n => AV.c (AC.os 5184 0 n)) e84, _, row GD (encI .i64) l83, e84, ?_, ?_⟩
          ·subst hGD hLEN hA
           exact app_bs (fun _ _ => rfl) hl83 (Nat.le_refl _)
          cbv
          replace h := of_let h
          obtain ⟨l86, hl86, h⟩ := h
          have e87 : 1 = LEN l86 := by subst hl86 hLEN; rfl
          refine ⟨_, congrArg (fun n => AV.c (AC.os 5504 0 n)) e87, _, row GD (encI .i64) l86, e87, ?_, ?_⟩
          ·intro i hi j hj
           rw [← e87] at hi
           subst hl86
           subst hGD
           obtain rfl : i = 0 := (by omega)
           all_goals obtain rfl : j = 0 := by omega
           all_goals rfl
          cbv
          replace h := of_req h
          obtain ⟨c90, h⟩ := h
          replace h := of_let h
          obtain ⟨l88, hl88, h⟩ := h
          have e89 : A.nadd (LEN l83) (LEN l86) = LEN l88 := by subst hl88 hLEN hA; simp [std, len]
          refine ⟨c90, _, congrArg (fun n => AV.c (AC.os 5184 0 n)) e89, _, row GD (encI .i64) l88, e89, ?_, ?_⟩
          ·subst hGD hLEN hA
           exact app_os (off := 0) (fun _ _ => rfl) hl88 (Nat.le_refl _)
          cbv
          replace h := of_req h
          obtain ⟨c91, h⟩ := h
          refine ⟨⟨c91, trivial⟩, ?_⟩
          replace h := of_bind h
          obtain ⟨y92, hy93, h⟩ := h
          refine ⟨{ args := [.agg [.bs (LEN a0.fCells) 4 (row GD (encCell LEN GD) a0.fCells)], .c (.os 5 0 (LEN v43)), .agg [.v (.int .i64 (GD (GD a0.fCells (A.toN a2.fCell)).fInstances (A.toN v8)).fCell), .v (.int .i64 y60.fOrientation), .v (.int .i64 y60.fX), .v (.int .i64 y60.fY), .bs (LEN l88) 1 (row GD (encI .i64) l88)], .agg [.v (.int .i64 a3.fX0), .v (.int .i64 a3.fY0), .v (.int .i64 a3.fX1), .v (.int .i64 a3.fY1)]], o0 := [(5, .arr .rw [] (LEN v43) 5 (row GD (encOccurrence LEN GD) v43))], r := .c (.os 64000 0 (LEN y92)), o1 := [(64000, .arr .rw [] (LEN y92) 5 (row GD (encOccurrence LEN GD) y92))], fl := false, σ := [(5, 6336)], τ := [(64000, 6336)] }, hf_REC_spec_l12Visit_mbxbb _ _ _ _ _ hy93, ⟨les_cons (lR _) (les_cons (lR _) (les_cons (le_agg ⟨lR _, lR _, lR _, lR _, give_os (fun _ _ => rfl) rfl rfl rfl, trivial⟩) (les_cons (lR _) (les_nil)))), ⟨oS, trivial⟩, rfl, rfl, rfl, rfl, ⟨fun h => absurd (show (64000 : Nat) % 2 = 1 from h) (by decide), trivial⟩, rfl⟩, _, rfl, _, _, rfl, fun _ _ _ _ => rfl, _, _, rfl, fun _ _ _ _ => rfl, ?_⟩
          cbv
          injection h with h
          subst h
          subst hS79
          show St.le _ _
          exact le_sparse rfl ⟨lR _, lR _, lR _, lR _, lR _, lR _, lR _, lR _, lR _, lR _, lR _, trivial⟩ ⟨oS, rfl, rfl, rfl, rfl, trivial⟩ rfl
         ·replace h := of_br_f b94 h
          cbv
          injection h with h
          subst h
          subst hS79
          show St.le _ _
          exact le_sparse rfl ⟨lR _, lR _, lR _, lR _, lR _, lR _, lR _, lR _, lR _, lR _, lR _, trivial⟩ ⟨oS, rfl, rfl, rfl, rfl, trivial⟩ rfl
        ·clear hy75
         subst hS79
         replace h := of_let h
         obtain ⟨w80, hw80, h⟩ := h
         have hw80 : w80 = y74 := hw80
         subst hw80
         cbv
         injection h with h
         refine hK50 _ h.symm _ ?_
         exact le_sparse rfl ⟨lR _, lR _, lR _, lR _, lR _, lR _, lR _, lR _, lR _, lR _, lR _, trivial⟩ ⟨oS, rfl, rfl, rfl, rfl, trivial⟩ rfl
      ·replace h := of_br_f b95 h
       cbv
       injection h with h
       refine hY48 _ h.symm _ _ (And.intro rfl ?_) (by intro hh; cases hh)
       exact le_sparse rfl ⟨lR _, lR _, lR _, lR _, lR _, lR _, lR _, lR _, lR _, lR _, trivial⟩ ⟨oS, rfl, rfl, rfl, rfl, trivial⟩ rfl
     ·clear hr46
      have h := hN47
      clear hN47
      intro e54 s55 q53 hne
      replace h := of_let h
      obtain ⟨y45k0, hyk, h⟩ := h
      have hyk : y45k0 = y45 := hyk
      subst hyk
      obtain ⟨rfl, q53⟩ := q53
      obtain ⟨y45k0_0, y45k0_1⟩ := y45k0
      replace h := of_let h
      obtain ⟨w96, hw96, h⟩ := h
      have hw96 : w96 = y45k0_0 := hw96
      subst hw96
      replace h := of_let h
      obtain ⟨w97, hw97, h⟩ := h
      have hw97 : w97 = y45k0_1 := hw97
      subst hw97
      cbv
      refine ⟨_, q53, ?_⟩
      cbv
      injection h with h
      refine hK34 _ h.symm _ ?_
      exact le_sparse rfl ⟨lR _, lR _, lR _, lR _, lR _, lR _, lR _, lR _, lR _, lR _, trivial⟩ ⟨oS, rfl, rfl, rfl, rfl, trivial⟩ rfl
    ·replace h := of_br_f b98 h
     cbv
     injection h with h
     refine hY32 _ h.symm _ _ (And.intro rfl ?_) (by intro hh; cases hh)
     exact le_sparse rfl ⟨lR _, lR _, lR _, lR _, lR _, lR _, lR _, trivial⟩ ⟨oS, rfl, rfl, rfl, trivial⟩ rfl
   ·clear hr30
    have h := hN31
    clear hN31
    intro e38 s39 q37 hne
    replace h := of_let h
    obtain ⟨y29k0, hyk, h⟩ := h
    have hyk : y29k0 = y29 := hyk
    subst hyk
    obtain ⟨rfl, q37⟩ := q37
    obtain ⟨y29k0_0, y29k0_1⟩ := y29k0
    replace h := of_let h
    obtain ⟨w99, hw99, h⟩ := h
    have hw99 : w99 = y29k0_0 := hw99
    subst hw99
    replace h := of_let h
    obtain ⟨w100, hw100, h⟩ := h
    have hw100 : w100 = y29k0_1 := hw100
    subst hw100
    cbv
    refine ⟨_, q37, ?_⟩
    cbv
    injection h with h
    refine hK16 _ h.symm _ ?_
    exact le_sparse rfl ⟨lR _, lR _, lR _, lR _, lR _, lR _, lR _, trivial⟩ ⟨oS, rfl, rfl, rfl, trivial⟩ rfl
  ·replace h := of_br_f b101 h
   cbv
   injection h with h
   refine hY14 _ h.symm _ _ (And.intro rfl ?_) (by intro hh; cases hh)
   exact le_sparse rfl ⟨lR _, trivial⟩ ⟨oS, trivial⟩ rfl
 ·clear hr12
  have h := hN13
  clear hN13
  intro e20 s21 q19 hne
  replace h := of_let h
  obtain ⟨y11k0, hyk, h⟩ := h
  have hyk : y11k0 = y11 := hyk
  subst hyk
  obtain ⟨rfl, q19⟩ := q19
  replace h := of_let h
  obtain ⟨w102, hw102, h⟩ := h
  have hw102 : w102 = y11k0 := hw102
  subst hw102
  cbv
  refine ⟨_, q19, ?_⟩
  cbv
  injection h with h
  subst h
  refine ⟨(sparse 103 [(8, .c (.os 64000 0 (LEN w102)))] [(64000, .arr .rw [] (LEN w102) 5 (row GD (encOccurrence LEN GD) w102))]), ?_, ?_⟩
  ·refine St.le_trans (le_ren 6336 64000 (by decide) rfl) ?_
   exact le_sparse rfl ⟨lR _, trivial⟩ ⟨oS, trivial⟩ rfl
  ·exact ⟨lR _, ⟨oS, trivial⟩, rfl⟩
/-- as deep as this -/
noncomputable def FR_spec_l12Visit_mbxbb : Nat → TLibrary → (List TOccurrence) → TOccurrence → TRect → Option (List TOccurrence)
 | 0 => fun _ _ _ _ => none
 | k + 1 => FS_spec_l12Visit_mbxbb (FR_spec_l12Visit_mbxbb k)
theorem runR_spec_l12Visit_mbxbb : ∀ (k : Nat) (a0 : TLibrary) (a1 : List TOccurrence) (a2 : TOccurrence) (a3 : TRect) (r : List TOccurrence), FR_spec_l12Visit_mbxbb k a0 a1 a2 a3 = some r → Fun Tryz.prog 53 [.agg [.bs (len a0.fCells) 4 (row gd (encCell len gd) a0.fCells)], .c (.os 5 0 (len a1)), .agg [.v (.int .i64 a2.fCell), .v (.int .i64 a2.fPlace.fOrientation), .v (.int .i64 a2.fPlace.fX), .v (.int .i64 a2.fPlace.fY), .bs (len a2.fPath) 1 (row gd (encI .i64) a2.fPath)], .agg [.v (.int .i64 a3.fX0), .v (.int .i64 a3.fY0), .v (.int .i64 a3.fX1), .v (.int .i64 a3.fY1)]] [(5, .arr .rw [] (len a1) 5 (row gd (encOccurrence len gd) a1))] (.c (.os 64000 0 (len r))) [(64000, .arr .rw [] (len r) 5 (row gd (encOccurrence len gd) r))] false := by
 intro k
 induction k with
 | zero => intro a0 a1 a2 a3 r h; cases h
 | succ k ih => exact fun a0 a1 a2 a3 r h => runS_spec_l12Visit_mbxbb (FR_spec_l12Visit_mbxbb k) ih a0 a1 a2 a3 r h
/-- spec.l12Visit -/
noncomputable def F_spec_l12Visit_mbxbb (a0 : TLibrary) (a1 : List TOccurrence) (a2 : TOccurrence) (a3 : TRect) : Option (List TOccurrence) := FR_spec_l12Visit_mbxbb 64 a0 a1 a2 a3
theorem run_spec_l12Visit_mbxbb (a0 : TLibrary) (a1 : List TOccurrence) (a2 : TOccurrence) (a3 : TRect) (r : List TOccurrence) (h : F_spec_l12Visit_mbxbb a0 a1 a2 a3 = some r) : Fun Tryz.prog 53 [.agg [.bs (len a0.fCells) 4 (row gd (encCell len gd) a0.fCells)], .c (.os 5 0 (len a1)), .agg [.v (.int .i64 a2.fCell), .v (.int .i64 a2.fPlace.fOrientation), .v (.int .i64 a2.fPlace.fX), .v (.int .i64 a2.fPlace.fY), .bs (len a2.fPath) 1 (row gd (encI .i64) a2.fPath)], .agg [.v (.int .i64 a3.fX0), .v (.int .i64 a3.fY0), .v (.int .i64 a3.fX1), .v (.int .i64 a3.fY1)]] [(5, .arr .rw [] (len a1) 5 (row gd (encOccurrence len gd) a1))] (.c (.os 64000 0 (len r))) [(64000, .arr .rw [] (len r) 5 (row gd (encOccurrence len gd) r))] false := runR_spec_l12Visit_mbxbb 64 a0 a1 a2 a3 r h
end Go.Proofs.YtmdlnjeppemipaaGreat.AM
