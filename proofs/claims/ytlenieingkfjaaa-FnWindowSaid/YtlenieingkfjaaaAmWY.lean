/-
  What the functions that the law reaches compute, and that they do. No condition.
-/
import Derived.Test.YtlenieingkfjaaaAmWX
import Derived.Test.YtlenieingkfjaaaAmE
namespace Go.Proofs.Ytlenieingkfjaaa.AM
open Go Go.Proofs Go.RowKit
set_option linter.unusedVariables false
set_option linter.unusedSimpArgs false
set_option maxRecDepth 100000

/-- impl.WindowShapes -/
noncomputable def F_impl_WindowShapes (a0 : TLibrary) (a1 : Int) (a2 : Int) (a3 : TRect) : Option ((List TWindowHit) × Int) :=
 (F_impl_windowCode a0 a1 a2 a3).bind fun y1 =>
 br (std.not (std.eq y1 0))
 (some (([] : List TWindowHit), y1))
 ((F_impl_visited a0 a1 a3).bind fun y3 =>
 (F_impl_hits a0 y3 a2 a3).bind fun y5 =>
 br (std.lt 100 (std.ofN (len y5)))
 (some (([] : List TWindowHit), (3 : Int)))
 (some (y5, (0 : Int))))
theorem run_impl_WindowShapes (a0 : TLibrary) (a1 : Int) (a2 : Int) (a3 : TRect) (r : (List TWindowHit) × Int) (h : F_impl_WindowShapes a0 a1 a2 a3 = some r) : Fun Try.prog 23 [.agg [.bs (len a0.fCells) 4 (row gd (encCell len gd) a0.fCells)], .c (.v (.int .i64 a1)), .c (.v (.int .i64 a2)), .agg [.v (.int .i64 a3.fX0), .v (.int .i64 a3.fY0), .v (.int .i64 a3.fX1), .v (.int .i64 a3.fY1)]] [] (.tup [.c (.os 64000 0 (len r.1)), .c (.v (.int .i64 r.2))]) [(64000, .arr .rw [] (len r.1) 8 (row gd (oncWindowHit len gd) r.1))] true := by
 refine Fun.of_wp (oneOf []) tok mixed Try.func23 (by kernel_rfl) rfl Try.ntmps23 rfl trivial (fun _ => ⟨(by simp [AV.flat, AV.flat1, AC.flat]), ⟨fun i _ j _ => fl_oncWindowHit _ _, trivial⟩⟩) ?_
 unfold F_impl_WindowShapes at h
 have hf_impl_hits := @run_impl_hits
 have hf_impl_visited := @run_impl_visited
 have hf_impl_windowCode := @run_impl_windowCode
 generalize hLEN : @len = LEN at *
 generalize hGD : @gd = GD at *
 generalize hA : std = A at *
 generalize hP : Try.prog = P at *
 cbv
 replace h := of_bind h
 obtain ⟨y1, hy2, h⟩ := h
 refine ⟨{ args := [.agg [.bs (LEN a0.fCells) 4 (row GD (encCell LEN GD) a0.fCells)], .c (.v (.int .i64 a1)), .c (.v (.int .i64 a2)), .agg [.v (.int .i64 a3.fX0), .v (.int .i64 a3.fY0), .v (.int .i64 a3.fX1), .v (.int .i64 a3.fY1)]], o0 := [], r := .c (.v (.int .i64 y1)), o1 := [], fl := true, σ := [], τ := [] }, hf_impl_windowCode _ _ _ _ _ hy2, ⟨les_cons (lR _) (les_cons (lR _) (les_cons (lR _) (les_cons (lR _) (les_nil)))), trivial, rfl, rfl, rfl, rfl, trivial, rfl⟩, ?_⟩
 cbv
 refine fork (fun b8 => ?_) (fun b8 => ?_)
 ·replace h := of_br_t b8 h
  cbv
  injection h with h
  subst h
  refine ⟨(sparse 32 [(8, .c (.os 64000 0 (LEN ([] : List TWindowHit)))), (9, .c (.v (.int .i64 y1)))] [(64000, .arr .rw [] (LEN ([] : List TWindowHit)) 8 (row GD (oncWindowHit LEN GD) ([] : List TWindowHit)))]), ?_, ?_⟩
  ·refine St.le_trans (le_nilT 8 64000 8 (row GD (oncWindowHit LEN GD) ([] : List TWindowHit)) (by decide) rfl) ?_
   subst hLEN
   exact le_sparse rfl ⟨lR _, lR _, trivial⟩ ⟨oS, trivial⟩ rfl
  ·subst hLEN
   exact ⟨lR _, ⟨oS, trivial⟩, rfl⟩
 ·replace h := of_br_f b8 h
  cbv
  replace h := of_bind h
  obtain ⟨y3, hy4, h⟩ := h
  refine ⟨{ args := [.agg [.bs (LEN a0.fCells) 4 (row GD (encCell LEN GD) a0.fCells)], .c (.v (.int .i64 a1)), .agg [.v (.int .i64 a3.fX0), .v (.int .i64 a3.fY0), .v (.int .i64 a3.fX1), .v (.int .i64 a3.fY1)]], o0 := [], r := .c (.os 64000 0 (LEN y3)), o1 := [(64000, .arr .rw [] (LEN y3) 5 (row GD (encOccurrence LEN GD) y3))], fl := false, σ := [], τ := [(64000, 1536)] }, hf_impl_visited _ _ _ _ hy4, ⟨les_cons (lR _) (les_cons (lR _) (les_cons (lR _) (les_nil))), trivial, rfl, rfl, rfl, rfl, ⟨fun h => absurd (show (64000 : Nat) % 2 = 1 from h) (by decide), trivial⟩, rfl⟩, _, rfl, _, _, rfl, fun _ _ _ _ => .refl _, ?_⟩
  cbv
  replace h := of_bind h
  obtain ⟨y5, hy6, h⟩ := h
  refine ⟨{ args := [.agg [.bs (LEN a0.fCells) 4 (row GD (encCell LEN GD) a0.fCells)], .c (.bs (LEN y3) 5 (row GD (encOccurrence LEN GD) y3)), .c (.v (.int .i64 a2)), .agg [.v (.int .i64 a3.fX0), .v (.int .i64 a3.fY0), .v (.int .i64 a3.fX1), .v (.int .i64 a3.fY1)]], o0 := [], r := .c (.os 64000 0 (LEN y5)), o1 := [(64000, .arr .rw [] (LEN y5) 8 (row GD (oncWindowHit LEN GD) y5))], fl := true, σ := [], τ := [(64000, 1728)] }, hf_impl_hits _ _ _ _ _ hy6, ⟨les_cons (lR _) (les_cons (give_os (pl_encOccurrence) rfl rfl rfl) (les_cons (lR _) (les_cons (lR _) (les_nil)))), trivial, rfl, rfl, rfl, rfl, ⟨fun h => absurd (show (64000 : Nat) % 2 = 1 from h) (by decide), trivial⟩, rfl⟩, _, rfl, _, _, rfl, fun _ _ _ _ => .refl _, ?_⟩
  cbv
  refine fork (fun b7 => ?_) (fun b7 => ?_)
  ·replace h := of_br_t b7 h
   cbv
   injection h with h
   subst h
   refine ⟨(sparse 32 [(8, .c (.os 64000 0 (LEN ([] : List TWindowHit)))), (9, .c (.v (.int .i64 3)))] [(64000, .arr .rw [] (LEN ([] : List TWindowHit)) 8 (row GD (oncWindowHit LEN GD) ([] : List TWindowHit)))]), ?_, ?_⟩
   ·refine St.le_trans (le_nilT 8 64000 8 (row GD (oncWindowHit LEN GD) ([] : List TWindowHit)) (by decide) rfl) ?_
    subst hLEN
    exact le_sparse rfl ⟨lR _, lR _, trivial⟩ ⟨oS, trivial⟩ rfl
   ·subst hLEN
    exact ⟨lR _, ⟨oS, trivial⟩, rfl⟩
  ·replace h := of_br_f b7 h
   cbv
   injection h with h
   subst h
   refine ⟨(sparse 32 [(8, .c (.os 64000 0 (LEN y5))), (9, .c (.v (.int .i64 0)))] [(64000, .arr .rw [] (LEN y5) 8 (row GD (oncWindowHit LEN GD) y5))]), ?_, ?_⟩
   ·refine St.le_trans (le_ren 1728 64000 (by decide) rfl) ?_
    exact le_sparse rfl ⟨lR _, lR _, trivial⟩ ⟨oS, trivial⟩ rfl
   ·exact ⟨lR _, ⟨oS, trivial⟩, rfl⟩

/-- spec.IsValidRect -/
noncomputable def F_spec_IsValidRect (a0 : TRect) : Option (Bool) :=
 ((
    br (std.le (-40) a0.fX0)
    (br (std.lt a0.fX0 a0.fX1)
    (br (std.le a0.fX1 40)
    (br (std.le (-40) a0.fY0)
    (br (std.lt a0.fY0 a0.fY1)
    (some (std.le a0.fY1 40))
    (some false))
    (some false))
    (some false))
    (some false))
    (some false)
  ) : Option (Bool)).bind fun y1 =>
 letO y1 fun w7 =>
 some w7
theorem run_spec_IsValidRect (a0 : TRect) (r : Bool) (h : F_spec_IsValidRect a0 = some r) : Fun Try.prog 30 [.agg [.v (.int .i64 a0.fX0), .v (.int .i64 a0.fY0), .v (.int .i64 a0.fX1), .v (.int .i64 a0.fY1)]] [] (.c (.v (.bool r))) [] true := by
 refine Fun.of_wp (oneOf [1]) tok mixed Try.func30 (by kernel_rfl) rfl Try.ntmps30 rfl trivial (fun _ => ⟨trivial, trivial⟩) ?_
 unfold F_spec_IsValidRect at h
 generalize hLEN : @len = LEN at *
 generalize hGD : @gd = GD at *
 generalize hA : std = A at *
 generalize hP : Try.prog = P at *
 cbv
 replace h := of_bind h
 obtain ⟨y1, hy2, h⟩ := h
 obtain ⟨S5, hS6⟩ : ∃ S, S = (sparse 35 [(2, .c (.v (.bool y1)))] []) := ⟨_, rfl⟩
 refine ⟨S5, ?_, ?_⟩
 ·clear h
  have h := hy2
  clear hy2
  cbv
  refine fork (fun b12 => ?_) (fun b12 => ?_)
  ·replace h := of_br_t b12 h
   cbv
   refine fork (fun b11 => ?_) (fun b11 => ?_)
   ·replace h := of_br_t b11 h
    cbv
    refine fork (fun b10 => ?_) (fun b10 => ?_)
    ·replace h := of_br_t b10 h
     cbv
     refine fork (fun b9 => ?_) (fun b9 => ?_)
     ·replace h := of_br_t b9 h
      cbv
      refine fork (fun b8 => ?_) (fun b8 => ?_)
      ·replace h := of_br_t b8 h
       cbv
       injection h with h
       subst h
       subst hS6
       show St.le _ _
       exact le_sparse rfl ⟨lR _, trivial⟩ trivial rfl
      ·replace h := of_br_f b8 h
       cbv
       injection h with h
       subst h
       subst hS6
       show St.le _ _
       exact le_sparse rfl ⟨lR _, trivial⟩ trivial rfl
     ·replace h := of_br_f b9 h
      cbv
      injection h with h
      subst h
      subst hS6
      show St.le _ _
      exact le_sparse rfl ⟨lR _, trivial⟩ trivial rfl
    ·replace h := of_br_f b10 h
     cbv
     injection h with h
     subst h
     subst hS6
     show St.le _ _
     exact le_sparse rfl ⟨lR _, trivial⟩ trivial rfl
   ·replace h := of_br_f b11 h
    cbv
    injection h with h
    subst h
    subst hS6
    show St.le _ _
    exact le_sparse rfl ⟨lR _, trivial⟩ trivial rfl
  ·replace h := of_br_f b12 h
   cbv
   injection h with h
   subst h
   subst hS6
   show St.le _ _
   exact le_sparse rfl ⟨lR _, trivial⟩ trivial rfl
 ·clear hy2
  subst hS6
  replace h := of_let h
  obtain ⟨w7, hw7, h⟩ := h
  have hw7 : w7 = y1 := hw7
  subst hw7
  cbv
  injection h with h
  subst h
  refine ⟨(sparse 35 [(2, .c (.v (.bool w7)))] []), ?_, ?_⟩
  ·exact le_sparse rfl ⟨lR _, trivial⟩ trivial rfl
  ·exact ⟨lR _, trivial, rfl⟩

/-- spec.l02Span -/
noncomputable def F_spec_l02Span (a0 : Int) (a1 : Int) (a2 : Int) (a3 : Int) : Option (Int) :=
 some (std.sub .i64 (std.imin a1 a3) (std.imax a0 a2))
theorem run_spec_l02Span (a0 : Int) (a1 : Int) (a2 : Int) (a3 : Int) (r : Int) (h : F_spec_l02Span a0 a1 a2 a3 = some r) : Fun Try.prog 80 [.c (.v (.int .i64 a0)), .c (.v (.int .i64 a1)), .c (.v (.int .i64 a2)), .c (.v (.int .i64 a3))] [] (.c (.v (.int .i64 r))) [] true := by
 refine Fun.of_wp (oneOf []) tok mixed Try.func80 (by kernel_rfl) rfl Try.ntmps80 rfl trivial (fun _ => ⟨trivial, trivial⟩) ?_
 unfold F_spec_l02Span at h
 generalize hLEN : @len = LEN at *
 generalize hGD : @gd = GD at *
 generalize hA : std = A at *
 generalize hP : Try.prog = P at *
 cbv
 injection h with h
 subst h
 refine ⟨(sparse 16 [(8, .c (.v (.int .i64 (A.sub .i64 (A.imin a1 a3) (A.imax a0 a2)))))] []), ?_, ?_⟩
 ·exact le_sparse rfl ⟨lR _, trivial⟩ trivial rfl
 ·exact ⟨lR _, trivial, rfl⟩

/-- spec.RectsOverlap -/
noncomputable def F_spec_RectsOverlap (a0 : TRect) (a1 : TRect) : Option (Bool) :=
 ((
    (F_spec_IsValidRect a0).bind fun y8 =>
    br y8
    ((F_spec_IsValidRect a1).bind fun y10 =>
    br y10
    ((F_spec_l02Span a0.fX0 a0.fX1 a1.fX0 a1.fX1).bind fun y12 =>
    br (std.lt 0 y12)
    ((F_spec_l02Span a0.fY0 a0.fY1 a1.fY0 a1.fY1).bind fun y14 =>
    some (std.lt 0 y14))
    (some false))
    (some false))
    (some false)
  ) : Option (Bool)).bind fun y1 =>
 letO y1 fun w7 =>
 some w7
theorem run_spec_RectsOverlap (a0 : TRect) (a1 : TRect) (r : Bool) (h : F_spec_RectsOverlap a0 a1 = some r) : Fun Try.prog 24 [.agg [.v (.int .i64 a0.fX0), .v (.int .i64 a0.fY0), .v (.int .i64 a0.fX1), .v (.int .i64 a0.fY1)], .agg [.v (.int .i64 a1.fX0), .v (.int .i64 a1.fY0), .v (.int .i64 a1.fX1), .v (.int .i64 a1.fY1)]] [] (.c (.v (.bool r))) [] true := by
 refine Fun.of_wp (oneOf [1]) tok mixed Try.func24 (by kernel_rfl) rfl Try.ntmps24 rfl trivial (fun _ => ⟨trivial, trivial⟩) ?_
 unfold F_spec_RectsOverlap at h
 have hf_spec_IsValidRect := @run_spec_IsValidRect
 have hf_spec_l02Span := @run_spec_l02Span
 generalize hLEN : @len = LEN at *
 generalize hGD : @gd = GD at *
 generalize hA : std = A at *
 generalize hP : Try.prog = P at *
 cbv
 replace h := of_bind h
 obtain ⟨y1, hy2, h⟩ := h
 obtain ⟨S5, hS6⟩ : ∃ S, S = (sparse 35 [(4, .c (.v (.bool y1)))] []) := ⟨_, rfl⟩
 refine ⟨S5, ?_, ?_⟩
 ·clear h
  have h := hy2
  clear hy2
  cbv
  replace h := of_bind h
  obtain ⟨y8, hy9, h⟩ := h
  refine ⟨{ args := [.agg [.v (.int .i64 a0.fX0), .v (.int .i64 a0.fY0), .v (.int .i64 a0.fX1), .v (.int .i64 a0.fY1)]], o0 := [], r := .c (.v (.bool y8)), o1 := [], fl := true, σ := [], τ := [] }, hf_spec_IsValidRect _ _ hy9, ⟨les_cons (lR _) (les_nil), trivial, rfl, rfl, rfl, rfl, trivial, rfl⟩, ?_⟩
  cbv
  refine fork (fun b18 => ?_) (fun b18 => ?_)
  ·replace h := of_br_t b18 h
   cbv
   replace h := of_bind h
   obtain ⟨y10, hy11, h⟩ := h
   refine ⟨{ args := [.agg [.v (.int .i64 a1.fX0), .v (.int .i64 a1.fY0), .v (.int .i64 a1.fX1), .v (.int .i64 a1.fY1)]], o0 := [], r := .c (.v (.bool y10)), o1 := [], fl := true, σ := [], τ := [] }, hf_spec_IsValidRect _ _ hy11, ⟨les_cons (lR _) (les_nil), trivial, rfl, rfl, rfl, rfl, trivial, rfl⟩, ?_⟩
   cbv
   refine fork (fun b17 => ?_) (fun b17 => ?_)
   ·replace h := of_br_t b17 h
    cbv
    replace h := of_bind h
    obtain ⟨y12, hy13, h⟩ := h
    refine ⟨{ args := [.c (.v (.int .i64 a0.fX0)), .c (.v (.int .i64 a0.fX1)), .c (.v (.int .i64 a1.fX0)), .c (.v (.int .i64 a1.fX1))], o0 := [], r := .c (.v (.int .i64 y12)), o1 := [], fl := true, σ := [], τ := [] }, hf_spec_l02Span _ _ _ _ _ hy13, ⟨les_cons (lR _) (les_cons (lR _) (les_cons (lR _) (les_cons (lR _) (les_nil)))), trivial, rfl, rfl, rfl, rfl, trivial, rfl⟩, ?_⟩
    cbv
    refine fork (fun b16 => ?_) (fun b16 => ?_)
    ·replace h := of_br_t b16 h
     cbv
     replace h := of_bind h
     obtain ⟨y14, hy15, h⟩ := h
     refine ⟨{ args := [.c (.v (.int .i64 a0.fY0)), .c (.v (.int .i64 a0.fY1)), .c (.v (.int .i64 a1.fY0)), .c (.v (.int .i64 a1.fY1))], o0 := [], r := .c (.v (.int .i64 y14)), o1 := [], fl := true, σ := [], τ := [] }, hf_spec_l02Span _ _ _ _ _ hy15, ⟨les_cons (lR _) (les_cons (lR _) (les_cons (lR _) (les_cons (lR _) (les_nil)))), trivial, rfl, rfl, rfl, rfl, trivial, rfl⟩, ?_⟩
     cbv
     injection h with h
     subst h
     subst hS6
     show St.le _ _
     exact le_sparse rfl ⟨lR _, trivial⟩ trivial rfl
    ·replace h := of_br_f b16 h
     cbv
     injection h with h
     subst h
     subst hS6
     show St.le _ _
     exact le_sparse rfl ⟨lR _, trivial⟩ trivial rfl
   ·replace h := of_br_f b17 h
    cbv
    injection h with h
    subst h
    subst hS6
    show St.le _ _
    exact le_sparse rfl ⟨lR _, trivial⟩ trivial rfl
  ·replace h := of_br_f b18 h
   cbv
   injection h with h
   subst h
   subst hS6
   show St.le _ _
   exact le_sparse rfl ⟨lR _, trivial⟩ trivial rfl
 ·clear hy2
  subst hS6
  replace h := of_let h
  obtain ⟨w7, hw7, h⟩ := h
  have hw7 : w7 = y1 := hw7
  subst hw7
  cbv
  injection h with h
  subst h
  refine ⟨(sparse 35 [(4, .c (.v (.bool w7)))] []), ?_, ?_⟩
  ·exact le_sparse rfl ⟨lR _, trivial⟩ trivial rfl
  ·exact ⟨lR _, trivial, rfl⟩

noncomputable def L_laws_sameRects_x2 (a0 : List TRect) (a1 : List TRect) : (Int) → Option ((Int) ⊕ ((Unit) ⊕ (Unit))) := fun x2 =>
 letO x2 fun v1 =>
 br (std.lt v1 (std.ofN (len a0)))
 (req (std.inR v1 (len a0)) <|
 req (std.inR v1 (len a1)) <|
 br (std.not (std.band (std.eq (gd a0 (std.toN v1)).fX0 (gd a1 (std.toN v1)).fX0) (std.band (std.eq (gd a0 (std.toN v1)).fY0 (gd a1 (std.toN v1)).fY0) (std.band (std.eq (gd a0 (std.toN v1)).fX1 (gd a1 (std.toN v1)).fX1) (std.band (std.eq (gd a0 (std.toN v1)).fY1 (gd a1 (std.toN v1)).fY1) (true))))))
 (some (.inr (.inl ())))
 (some (.inl (std.add .i64 v1 1))))
 (some (.inr (.inr ())))
/-- laws.sameRects -/
noncomputable def F_laws_sameRects (a0 : List TRect) (a1 : List TRect) : Option (Bool) :=
 br (std.not (std.eq (std.ofN (len a0)) (std.ofN (len a1))))
 (some false)
 ((whileP (σ := Int) (ρ := (Unit) ⊕ (Unit)) (L_laws_sameRects_x2 a0 a1) 0).bind fun y3 =>
 (match y3 with
  | .inl y3k0 => (
    some false)
  | .inr y3m0 =>
    some true))
theorem run_laws_sameRects (a0 : List TRect) (a1 : List TRect) (r : Bool) (h : F_laws_sameRects a0 a1 = some r) : Fun Try.prog 25 [.c (.bs (len a0) 4 (row gd (encRect) a0)), .c (.bs (len a1) 4 (row gd (encRect) a1))] [] (.c (.v (.bool r))) [] true := by
 refine Fun.of_wp (oneOf []) tok mixed Try.func25 (by kernel_rfl) rfl Try.ntmps25 rfl trivial (fun _ => ⟨trivial, trivial⟩) ?_
 unfold F_laws_sameRects at h
 unfold L_laws_sameRects_x2 at h
 generalize hLEN : @len = LEN at *
 generalize hGD : @gd = GD at *
 generalize hA : std = A at *
 generalize hP : Try.prog = P at *
 cbv
 refine fork (fun b18 => ?_) (fun b18 => ?_)
 ·replace h := of_br_t b18 h
  cbv
  injection h with h
  subst h
  refine ⟨(sparse 26 [(4, .c (.v (.bool false)))] []), ?_, ?_⟩
  ·exact le_sparse rfl ⟨lR _, trivial⟩ trivial rfl
  ·exact ⟨lR _, trivial, rfl⟩
 ·replace h := of_br_f b18 h
  cbv
  replace h := of_bind h
  obtain ⟨y3, hr4, hN5⟩ := h
  refine loop_cut hr4 (fun x => (sparse 26 [(0, .c (.bs (LEN a0) 4 (row GD (encRect) a0))), (1, .c (.bs (LEN a1) 4 (row GD (encRect) a1))), (5, .c (.v (.int .i64 x)))] [])) ?_ (fun y e s => (match y with | .inl w => e = .ret ∧ s.le (sparse 26 [(4, .c (.v (.bool false)))] []) | .inr w0 => (fun (w : Unit) => e = .exit 0 ∧ s.le (sparse 26 [] [])) w0)) ?_ ?_
  ·clear hr4 hN5
   show St.le _ _
   exact le_sparse rfl ⟨lR _, lR _, lR _, trivial⟩ trivial rfl
  ·clear hr4 hN5
   intro x z9 h K7 hK8 hY6
   replace h := of_let h
   obtain ⟨v1, hv1, h⟩ := h
   have hv1 : v1 = x := hv1
   subst hv1
   cbv
   refine fork (fun b17 => ?_) (fun b17 => ?_)
   ·replace h := of_br_t b17 h
    cbv
    replace h := of_req h
    obtain ⟨c14, h⟩ := h
    refine ⟨⟨c14, trivial⟩, ?_⟩
    replace h := of_req h
    obtain ⟨c15, h⟩ := h
    refine ⟨⟨c15, trivial⟩, ?_⟩
    refine fork (fun b16 => ?_) (fun b16 => ?_)
    ·replace h := of_br_t b16 h
     cbv
     injection h with h
     refine hY6 _ h.symm _ _ (And.intro rfl ?_) (by intro hh; cases hh)
     exact le_sparse rfl ⟨lR _, trivial⟩ trivial rfl
    ·replace h := of_br_f b16 h
     cbv
     injection h with h
     refine hK8 _ h.symm _ ?_
     exact le_sparse rfl ⟨lR _, lR _, lR _, trivial⟩ trivial rfl
   ·replace h := of_br_f b17 h
    cbv
    injection h with h
    refine hY6 _ h.symm _ _ (And.intro rfl ?_) (by intro hh; cases hh)
    exact le_sparse rfl trivial trivial rfl
  ·clear hr4
   have h := hN5
   clear hN5
   intro e12 s13 q11 hne
   rcases y3 with y3k0 | y3m0
   ·replace h := h
    obtain ⟨rfl, q11⟩ := q11
    cbv
    injection h with h
    subst h
    refine ⟨(sparse 26 [(4, .c (.v (.bool false)))] []), ?_, ?_⟩
    ·refine St.le_trans q11 ?_
     exact le_sparse rfl ⟨lR _, trivial⟩ trivial rfl
    ·exact ⟨lR _, trivial, rfl⟩
   ·obtain ⟨rfl, q11⟩ := q11
    cbv
    refine ⟨_, q11, ?_⟩
    cbv
    injection h with h
    subst h
    refine ⟨(sparse 26 [(4, .c (.v (.bool true)))] []), ?_, ?_⟩
    ·exact le_sparse rfl ⟨lR _, trivial⟩ trivial rfl
    ·exact ⟨lR _, trivial, rfl⟩

/-- impl.VisitedCount -/
noncomputable def F_impl_VisitedCount (a0 : TLibrary) (a1 : Int) (a2 : TRect) : Option (Int) :=
 ((
    (F_impl_hasCell a0 a1).bind fun y8 =>
    br (!(y8))
    (some true)
    ((F_impl_IsValidRect a2).bind fun y10 =>
    br (!(y10))
    (some true)
    ((F_impl_elementCount a0 a1).bind fun y12 =>
    some (std.lt 200 y12)))
  ) : Option (Bool)).bind fun y1 =>
 letO y1 fun w7 =>
 br w7
 (some (-1))
 ((F_impl_visited a0 a1 a2).bind fun y16 =>
 some (std.ofN (len y16)))
theorem run_impl_VisitedCount (a0 : TLibrary) (a1 : Int) (a2 : TRect) (r : Int) (h : F_impl_VisitedCount a0 a1 a2 = some r) : Fun Try.prog 19 [.agg [.bs (len a0.fCells) 4 (row gd (encCell len gd) a0.fCells)], .c (.v (.int .i64 a1)), .agg [.v (.int .i64 a2.fX0), .v (.int .i64 a2.fY0), .v (.int .i64 a2.fX1), .v (.int .i64 a2.fY1)]] [] (.c (.v (.int .i64 r))) [] true := by
 refine Fun.of_wp (oneOf [1]) tok mixed Try.func19 (by kernel_rfl) rfl Try.ntmps19 rfl trivial (fun _ => ⟨trivial, trivial⟩) ?_
 unfold F_impl_VisitedCount at h
 have hf_impl_IsValidRect := @run_impl_IsValidRect
 have hf_impl_elementCount := @run_impl_elementCount
 have hf_impl_hasCell := @run_impl_hasCell
 have hf_impl_visited := @run_impl_visited
 generalize hLEN : @len = LEN at *
 generalize hGD : @gd = GD at *
 generalize hA : std = A at *
 generalize hP : Try.prog = P at *
 cbv
 replace h := of_bind h
 obtain ⟨y1, hy2, h⟩ := h
 obtain ⟨S5, hS6⟩ : ∃ S, S = (sparse 27 [(1, .c (.v (.int .i64 a1))), (3, .c (.ptr 192 0)), (5, .c (.ptr 320 0)), (21, .c (.v (.bool y1)))] [(192, .var [.bs (LEN a0.fCells) 4 (row GD (encCell LEN GD) a0.fCells)]), (320, .var [.v (.int .i64 a2.fX0), .v (.int .i64 a2.fY0), .v (.int .i64 a2.fX1), .v (.int .i64 a2.fY1)])]) := ⟨_, rfl⟩
 refine ⟨S5, ?_, ?_⟩
 ·clear h
  have h := hy2
  clear hy2
  cbv
  replace h := of_bind h
  obtain ⟨y8, hy9, h⟩ := h
  refine ⟨{ args := [.agg [.bs (LEN a0.fCells) 4 (row GD (encCell LEN GD) a0.fCells)], .c (.v (.int .i64 a1))], o0 := [], r := .c (.v (.bool y8)), o1 := [], fl := true, σ := [], τ := [] }, hf_impl_hasCell _ _ _ hy9, ⟨les_cons (lR _) (les_cons (lR _) (les_nil)), trivial, rfl, rfl, rfl, rfl, trivial, rfl⟩, ?_⟩
  cbv
  refine fork (fun b15 => ?_) (fun b15 => ?_)
  ·replace h := of_br_t b15 h
   cbv
   injection h with h
   subst h
   subst hS6
   show St.le _ _
   exact le_sparse rfl ⟨lR _, lR _, lR _, lR _, trivial⟩ ⟨rfl, rfl, trivial⟩ rfl
  ·replace h := of_br_f b15 h
   cbv
   replace h := of_bind h
   obtain ⟨y10, hy11, h⟩ := h
   refine ⟨{ args := [.agg [.v (.int .i64 a2.fX0), .v (.int .i64 a2.fY0), .v (.int .i64 a2.fX1), .v (.int .i64 a2.fY1)]], o0 := [], r := .c (.v (.bool y10)), o1 := [], fl := true, σ := [], τ := [] }, hf_impl_IsValidRect _ _ hy11, ⟨les_cons (lR _) (les_nil), trivial, rfl, rfl, rfl, rfl, trivial, rfl⟩, ?_⟩
   cbv
   refine fork (fun b14 => ?_) (fun b14 => ?_)
   ·replace h := of_br_t b14 h
    cbv
    injection h with h
    subst h
    subst hS6
    show St.le _ _
    exact le_sparse rfl ⟨lR _, lR _, lR _, lR _, trivial⟩ ⟨rfl, rfl, trivial⟩ rfl
   ·replace h := of_br_f b14 h
    cbv
    replace h := of_bind h
    obtain ⟨y12, hy13, h⟩ := h
    refine ⟨{ args := [.agg [.bs (LEN a0.fCells) 4 (row GD (encCell LEN GD) a0.fCells)], .c (.v (.int .i64 a1))], o0 := [], r := .c (.v (.int .i64 y12)), o1 := [], fl := true, σ := [], τ := [] }, hf_impl_elementCount _ _ _ hy13, ⟨les_cons (lR _) (les_cons (lR _) (les_nil)), trivial, rfl, rfl, rfl, rfl, trivial, rfl⟩, ?_⟩
    cbv
    injection h with h
    subst h
    subst hS6
    show St.le _ _
    exact le_sparse rfl ⟨lR _, lR _, lR _, lR _, trivial⟩ ⟨rfl, rfl, trivial⟩ rfl
 ·clear hy2
  subst hS6
  replace h := of_let h
  obtain ⟨w7, hw7, h⟩ := h
  have hw7 : w7 = y1 := hw7
  subst hw7
  cbv
  refine fork (fun b18 => ?_) (fun b18 => ?_)
  ·replace h := of_br_t b18 h
   cbv
   injection h with h
   subst h
   refine ⟨(sparse 27 [(6, .c (.v (.int .i64 (-1))))] []), ?_, ?_⟩
   ·exact le_sparse rfl ⟨lR _, trivial⟩ trivial rfl
   ·exact ⟨lR _, trivial, rfl⟩
  ·replace h := of_br_f b18 h
   cbv
   replace h := of_bind h
   obtain ⟨y16, hy17, h⟩ := h
   refine ⟨{ args := [.agg [.bs (LEN a0.fCells) 4 (row GD (encCell LEN GD) a0.fCells)], .c (.v (.int .i64 a1)), .agg [.v (.int .i64 a2.fX0), .v (.int .i64 a2.fY0), .v (.int .i64 a2.fX1), .v (.int .i64 a2.fY1)]], o0 := [], r := .c (.os 64000 0 (LEN y16)), o1 := [(64000, .arr .rw [] (LEN y16) 5 (row GD (encOccurrence LEN GD) y16))], fl := false, σ := [], τ := [(64000, 1600)] }, hf_impl_visited _ _ _ _ hy17, ⟨les_cons (lR _) (les_cons (lR _) (les_cons (lR _) (les_nil))), trivial, rfl, rfl, rfl, rfl, ⟨fun h => absurd (show (64000 : Nat) % 2 = 1 from h) (by decide), trivial⟩, rfl⟩, _, rfl, _, _, rfl, fun _ _ _ _ => .refl _, ?_⟩
   cbv
   injection h with h
   subst h
   refine ⟨(sparse 27 [(6, .c (.v (.int .i64 (A.ofN (LEN y16)))))] []), ?_, ?_⟩
   ·exact le_sparse rfl ⟨lR _, trivial⟩ trivial rfl
   ·exact ⟨lR _, trivial, rfl⟩
noncomputable def L_laws_FnWindow_x74 (y7 : (List TWindowHit) × Int) : (Int × (List TRect)) → Option ((Int × (List TRect)) ⊕ (((List TRect)))) := fun x74 =>
 letO x74.1 fun v72 =>
 letO x74.2 fun v73 =>
 br (std.lt v72 (std.ofN (len y7.1)))
 (req (std.inR v72 (len y7.1)) <|
 letO ([(gd y7.1 (std.nadd 0 (std.toN v72))).fBox] : List TRect) fun l87 =>
 req (std.room (std.nadd (len v73) (len l87)) 32) <|
 letO (v73 ++ l87) fun l89 =>
 some (.inl (std.add .i64 v72 1, l89)))
 (some (.inr v73))
noncomputable def L_laws_FnWindow_x30 (y3 : TLibrary × Int × Int × TRect) (y5 : (List TShape) × Int) : (Int × (List TRect)) → Option ((Int × (List TRect)) ⊕ (((List TRect)))) := fun x30 =>
 letO x30.1 fun v28 =>
 letO x30.2 fun v29 =>
 br (std.lt v28 (std.ofN (len y5.1)))
 (((
    req (std.inR v28 (len y5.1)) <|
    br (std.eq (gd y5.1 (std.nadd 0 (std.toN v28))).fLayer y3.2.2.1)
    (req (std.inR v28 (len y5.1)) <|
    (F_spec_RectsOverlap (gd y5.1 (std.nadd 0 (std.toN v28))).fBox y3.2.2.2).bind fun y51 =>
    some y51)
    (some false)
  ) : Option (Bool)).bind fun y42 =>
 letO y42 fun w48 =>
 ((
    br w48
    (req (std.inR v28 (len y5.1)) <|
    letO ([(gd y5.1 (std.nadd 0 (std.toN v28))).fBox] : List TRect) fun l62 =>
    req (std.room (std.nadd (len v29) (len l62)) 32) <|
    letO (v29 ++ l62) fun l64 =>
    some l64)
    (some v29)
  ) : Option ((List TRect))).bind fun y54 =>
 letO y54 fun w60 =>
 some (.inl (std.add .i64 v28 1, w60)))
 (some (.inr v29))
/-- laws.FnWindow -/
noncomputable def F_laws_FnWindow (a0 : List Int) : Option (Bool) :=
 (F_laws_big a0).bind fun y1 =>
 br y1
 (some true)
 ((F_spec_DrawWindowShapes a0).bind fun y3 =>
 (F_impl_FlattenShapes y3.1 y3.2.1).bind fun y5 =>
 (F_impl_WindowShapes y3.1 y3.2.1 y3.2.2.1 y3.2.2.2).bind fun y7 =>
 ((
    br (std.not (std.eq y5.2 0))
    (some true)
    (br (std.eq y7.2 1)
    (some true)
    (some (std.eq y7.2 2)))
  ) : Option (Bool)).bind fun y9 =>
 letO y9 fun w15 =>
 br w15
 (((
    br (std.eq (std.ofN (len y5.1)) 0)
    (some true)
    (some (std.eq (std.ofN (len y7.1)) 0))
  ) : Option (Bool)).bind fun y18 =>
 letO y18 fun w24 =>
 some w24)
 (letO ([] : List TRect) fun l26 =>
 (whileP (σ := Int × (List TRect)) (ρ := ((List TRect))) (L_laws_FnWindow_x30 y3 y5) (0, l26)).bind fun y31 =>
 letO y31 fun y31k0 =>
 letO y31k0 fun w69 =>
 br (std.eq y7.2 3)
 (some (std.lt 100 (std.ofN (len w69))))
 (letO ([] : List TRect) fun l70 =>
 (whileP (σ := Int × (List TRect)) (ρ := ((List TRect))) (L_laws_FnWindow_x74 y7) (0, l70)).bind fun y75 =>
 letO y75 fun y75k0 =>
 letO y75k0 fun w93 =>
 ((
    (F_laws_sameRects w93 w69).bind fun y101 =>
    br y101
    ((F_impl_VisitedCount y3.1 y3.2.1 y3.2.2.2).bind fun y103 =>
    some (std.lt 0 y103))
    (some false)
  ) : Option (Bool)).bind fun y94 =>
 letO y94 fun w100 =>
 some w100)))
theorem run_laws_FnWindow (a0 : List Int) (r : Bool) (h : F_laws_FnWindow a0 = some r) : Fun Try.prog 4 [.c (.bs (len a0) 1 (row gd (encI .u8) a0))] [] (.c (.v (.bool r))) [] true := by
 refine Fun.of_wp (oneOf [6, 7, 12, 21, 100078]) tok mixed Try.func4 (by kernel_rfl) rfl Try.ntmps4 rfl trivial (fun _ => ⟨trivial, trivial⟩) ?_
 unfold F_laws_FnWindow at h
 unfold L_laws_FnWindow_x30 at h
 unfold L_laws_FnWindow_x74 at h
 have hf_impl_FlattenShapes := @run_impl_FlattenShapes
 have hf_impl_VisitedCount := @run_impl_VisitedCount
 have hf_impl_WindowShapes := @run_impl_WindowShapes
 have hf_laws_big := @run_laws_big
 have hf_laws_sameRects := @run_laws_sameRects
 have hf_spec_DrawWindowShapes := @run_spec_DrawWindowShapes
 have hf_spec_RectsOverlap := @run_spec_RectsOverlap
 generalize hLEN : @len = LEN at *
 generalize hGD : @gd = GD at *
 generalize hA : std = A at *
 generalize hP : Try.prog = P at *
 cbv
 replace h := of_bind h
 obtain ⟨y1, hy2, h⟩ := h
 refine ⟨{ args := [.c (.bs (LEN a0) 1 (row GD (encI .u8) a0))], o0 := [], r := .c (.v (.bool y1)), o1 := [], fl := true, σ := [], τ := [] }, hf_laws_big _ _ hy2, ⟨les_cons (lR _) (les_nil), trivial, rfl, rfl, rfl, rfl, trivial, rfl⟩, ?_⟩
 cbv
 refine fork (fun b108 => ?_) (fun b108 => ?_)
 ·replace h := of_br_t b108 h
  cbv
  injection h with h
  subst h
  refine ⟨(sparse 117 [(2, .c (.v (.bool true)))] []), ?_, ?_⟩
  ·exact le_sparse rfl ⟨lR _, trivial⟩ trivial rfl
  ·exact ⟨lR _, trivial, rfl⟩
 ·replace h := of_br_f b108 h
  cbv
  replace h := of_bind h
  obtain ⟨y3, hy4, h⟩ := h
  refine ⟨{ args := [.c (.bs (LEN a0) 1 (row GD (encI .u8) a0))], o0 := [], r := .tup [.agg [.os 64000 0 (LEN y3.1.fCells)], .c (.v (.int .i64 y3.2.1)), .c (.v (.int .i64 y3.2.2.1)), .agg [.v (.int .i64 y3.2.2.2.fX0), .v (.int .i64 y3.2.2.2.fY0), .v (.int .i64 y3.2.2.2.fX1), .v (.int .i64 y3.2.2.2.fY1)]], o1 := [(64000, .arr .rw [] (LEN y3.1.fCells) 4 (row GD (oncCell LEN GD) y3.1.fCells))], fl := true, σ := [], τ := [(64000, 1216)] }, hf_spec_DrawWindowShapes _ _ hy4, ⟨les_cons (lR _) (les_nil), trivial, rfl, rfl, rfl, rfl, ⟨fun h => absurd (show (64000 : Nat) % 2 = 1 from h) (by decide), trivial⟩, rfl⟩, _, rfl, _, _, rfl, fun _ _ _ _ => .refl _, ?_⟩
  cbv
  replace h := of_bind h
  obtain ⟨y5, hy6, h⟩ := h
  refine ⟨{ args := [.agg [.bs (LEN y3.1.fCells) 4 (row GD (encCell LEN GD) y3.1.fCells)], .c (.v (.int .i64 y3.2.1))], o0 := [], r := .tup [.c (.os 64000 0 (LEN y5.1)), .c (.v (.int .i64 y5.2))], o1 := [(64000, .arr .rw [] (LEN y5.1) 5 (row GD (encShape) y5.1))], fl := true, σ := [], τ := [(64000, 1728)] }, hf_impl_FlattenShapes _ _ _ hy6, ⟨les_cons (le_agg ⟨give_osD (rf_oncCell) (ln_oncCell) rfl rfl rfl, trivial⟩) (les_cons (lR _) (les_nil)), trivial, rfl, rfl, rfl, rfl, ⟨fun h => absurd (show (64000 : Nat) % 2 = 1 from h) (by decide), trivial⟩, rfl⟩, _, rfl, _, _, rfl, fun _ _ _ _ => .refl _, ?_⟩
  cbv
  replace h := of_bind h
  obtain ⟨y7, hy8, h⟩ := h
  refine ⟨{ args := [.agg [.bs (LEN y3.1.fCells) 4 (row GD (encCell LEN GD) y3.1.fCells)], .c (.v (.int .i64 y3.2.1)), .c (.v (.int .i64 y3.2.2.1)), .agg [.v (.int .i64 y3.2.2.2.fX0), .v (.int .i64 y3.2.2.2.fY0), .v (.int .i64 y3.2.2.2.fX1), .v (.int .i64 y3.2.2.2.fY1)]], o0 := [], r := .tup [.c (.os 64000 0 (LEN y7.1)), .c (.v (.int .i64 y7.2))], o1 := [(64000, .arr .rw [] (LEN y7.1) 8 (row GD (oncWindowHit LEN GD) y7.1))], fl := true, σ := [], τ := [(64000, 2240)] }, hf_impl_WindowShapes _ _ _ _ _ hy8, ⟨les_cons (le_agg ⟨give_osD (rf_oncCell) (ln_oncCell) rfl rfl rfl, trivial⟩) (les_cons (lR _) (les_cons (lR _) (les_cons (lR _) (les_nil)))), trivial, rfl, rfl, rfl, rfl, ⟨fun h => absurd (show (64000 : Nat) % 2 = 1 from h) (by decide), trivial⟩, rfl⟩, _, rfl, _, _, rfl, fun _ _ _ _ => .refl _, ?_⟩
  cbv
  replace h := of_bind h
  obtain ⟨y9, hy10, h⟩ := h
  obtain ⟨S13, hS14⟩ : ∃ S, S = (sparse 117 [(3, .c (.ptr 192 0)), (4, .c (.v (.int .i64 y3.2.1))), (5, .c (.v (.int .i64 y3.2.2.1))), (6, .c (.ptr 384 0)), (7, .c (.os 1728 0 (LEN y5.1))), (9, .c (.os 2240 0 (LEN y7.1))), (10, .c (.v (.int .i64 y7.2))), (47, .c (.v (.bool y9)))] [(192, .var [.os 1216 0 (LEN y3.1.fCells)]), (384, .var [.v (.int .i64 y3.2.2.2.fX0), .v (.int .i64 y3.2.2.2.fY0), .v (.int .i64 y3.2.2.2.fX1), .v (.int .i64 y3.2.2.2.fY1)]), (1728, .arr .rw [] (LEN y5.1) 5 (row GD (encShape) y5.1)), (2240, .arr .rw [] (LEN y7.1) 8 (row GD (oncWindowHit LEN GD) y7.1)), (1216, .arr .rw [] (LEN y3.1.fCells) 4 (row GD (oncCell LEN GD) y3.1.fCells))]) := ⟨_, rfl⟩
  refine ⟨S13, ?_, ?_⟩
  ·clear h
   have h := hy10
   clear hy10
   cbv
   refine fork (fun b17 => ?_) (fun b17 => ?_)
   ·replace h := of_br_t b17 h
    cbv
    injection h with h
    subst h
    subst hS14
    show St.le _ _
    exact le_sparse rfl ⟨lR _, lR _, lR _, lR _, lR _, lR _, lR _, lR _, trivial⟩ ⟨rfl, rfl, oS, oS, oS, trivial⟩ rfl
   ·replace h := of_br_f b17 h
    cbv
    refine fork (fun b16 => ?_) (fun b16 => ?_)
    ·replace h := of_br_t b16 h
     cbv
     injection h with h
     subst h
     subst hS14
     show St.le _ _
     exact le_sparse rfl ⟨lR _, lR _, lR _, lR _, lR _, lR _, lR _, lR _, trivial⟩ ⟨rfl, rfl, oS, oS, oS, trivial⟩ rfl
    ·replace h := of_br_f b16 h
     cbv
     injection h with h
     subst h
     subst hS14
     show St.le _ _
     exact le_sparse rfl ⟨lR _, lR _, lR _, lR _, lR _, lR _, lR _, lR _, trivial⟩ ⟨rfl, rfl, oS, oS, oS, trivial⟩ rfl
  ·clear hy10
   subst hS14
   replace h := of_let h
   obtain ⟨w15, hw15, h⟩ := h
   have hw15 : w15 = y9 := hw15
   subst hw15
   cbv
   refine fork (fun b107 => ?_) (fun b107 => ?_)
   ·replace h := of_br_t b107 h
    cbv
    replace h := of_bind h
    obtain ⟨y18, hy19, h⟩ := h
    obtain ⟨S22, hS23⟩ : ∃ S, S = (sparse 117 [(2, .c (.v (.bool y18)))] []) := ⟨_, rfl⟩
    refine ⟨S22, ?_, ?_⟩
    ·clear h
     have h := hy19
     clear hy19
     cbv
     refine fork (fun b25 => ?_) (fun b25 => ?_)
     ·replace h := of_br_t b25 h
      cbv
      injection h with h
      subst h
      subst hS23
      show St.le _ _
      exact le_sparse rfl ⟨lR _, trivial⟩ trivial rfl
     ·replace h := of_br_f b25 h
      cbv
      injection h with h
      subst h
      subst hS23
      show St.le _ _
      exact le_sparse rfl ⟨lR _, trivial⟩ trivial rfl
    ·clear hy19
     subst hS23
     replace h := of_let h
     obtain ⟨w24, hw24, h⟩ := h
     have hw24 : w24 = y18 := hw24
     subst hw24
     cbv
     injection h with h
     subst h
     refine ⟨(sparse 117 [(2, .c (.v (.bool w24)))] []), ?_, ?_⟩
     ·exact le_sparse rfl ⟨lR _, trivial⟩ trivial rfl
     ·exact ⟨lR _, trivial, rfl⟩
   ·replace h := of_br_f b107 h
    cbv
    replace h := of_let h
    obtain ⟨l26, hl26, h⟩ := h
    have e27 : 0 = LEN l26 := by subst hl26 hLEN; rfl
    refine ⟨_, congrArg (fun n => AV.c (AC.os 3584 0 n)) e27, _, row GD (encRect) l26, e27, wkOf ?_, ?_⟩
    ·intro i hi j hj
     rw [← e27] at hi
     subst hl26
     subst hGD
     omega
    cbv
    replace h := of_bind h
    obtain ⟨y31, hr32, hN33⟩ := h
    refine loop_cut hr32 (fun x => (sparse 117 [(3, .c (.ptr 192 0)), (4, .c (.v (.int .i64 y3.2.1))), (5, .c (.v (.int .i64 y3.2.2.1))), (6, .c (.ptr 384 0)), (7, .c (.os 1728 0 (LEN y5.1))), (9, .c (.os 2240 0 (LEN y7.1))), (10, .c (.v (.int .i64 y7.2))), (11, .c (.os 3584 0 (LEN x.2))), (12, .c (.v (.int .i64 x.1)))] [(192, .var [.os 1216 0 (LEN y3.1.fCells)]), (384, .var [.v (.int .i64 y3.2.2.2.fX0), .v (.int .i64 y3.2.2.2.fY0), .v (.int .i64 y3.2.2.2.fX1), .v (.int .i64 y3.2.2.2.fY1)]), (1728, .arr .rw [] (LEN y5.1) 5 (row GD (encShape) y5.1)), (2240, .arr .rw [] (LEN y7.1) 8 (row GD (oncWindowHit LEN GD) y7.1)), (3584, .arr .rw [] (LEN x.2) 4 (row GD (encRect) x.2)), (1216, .arr .rw [] (LEN y3.1.fCells) 4 (row GD (oncCell LEN GD) y3.1.fCells))])) ?_ (fun y e s => (fun (w : (List TRect)) => e = .exit 0 ∧ s.le (sparse 117 [(3, .c (.ptr 192 0)), (4, .c (.v (.int .i64 y3.2.1))), (6, .c (.ptr 384 0)), (9, .c (.os 2240 0 (LEN y7.1))), (10, .c (.v (.int .i64 y7.2))), (11, .c (.os 3584 0 (LEN w)))] [(192, .var [.os 1216 0 (LEN y3.1.fCells)]), (384, .var [.v (.int .i64 y3.2.2.2.fX0), .v (.int .i64 y3.2.2.2.fY0), .v (.int .i64 y3.2.2.2.fX1), .v (.int .i64 y3.2.2.2.fY1)]), (2240, .arr .rw [] (LEN y7.1) 8 (row GD (oncWindowHit LEN GD) y7.1)), (3584, .arr .rw [] (LEN w) 4 (row GD (encRect) w)), (1216, .arr .rw [] (LEN y3.1.fCells) 4 (row GD (oncCell LEN GD) y3.1.fCells))])) y) ?_ ?_
    ·clear hr32 hN33
     show St.le _ _
     exact le_sparse rfl ⟨lR _, lR _, lR _, lR _, lR _, lR _, lR _, lR _, lR _, trivial⟩ ⟨rfl, rfl, oS, oS, oS, oS, trivial⟩ rfl
    ·clear hr32 hN33
     intro x z37 h K35 hK36 hY34
     obtain ⟨x0_, x1_⟩ := x
     replace h := of_let h
     obtain ⟨v28, hv28, h⟩ := h
     have hv28 : v28 = x0_ := hv28
     subst hv28
     replace h := of_let h
     obtain ⟨v29, hv29, h⟩ := h
     have hv29 : v29 = x1_ := hv29
     subst hv29
     cbv
     refine fork (fun b68 => ?_) (fun b68 => ?_)
     ·replace h := of_br_t b68 h
      cbv
      replace h := of_bind h
      obtain ⟨y42, hy43, h⟩ := h
      obtain ⟨S46, hS47⟩ : ∃ S, S = (sparse 117 [(3, .c (.ptr 192 0)), (4, .c (.v (.int .i64 y3.2.1))), (5, .c (.v (.int .i64 y3.2.2.1))), (6, .c (.ptr 384 0)), (7, .c (.os 1728 0 (LEN y5.1))), (9, .c (.os 2240 0 (LEN y7.1))), (10, .c (.v (.int .i64 y7.2))), (11, .c (.os 3584 0 (LEN v29))), (12, .c (.v (.int .i64 v28))), (78, .c (.v (.bool y42)))] [(192, .var [.os 1216 0 (LEN y3.1.fCells)]), (384, .var [.v (.int .i64 y3.2.2.2.fX0), .v (.int .i64 y3.2.2.2.fY0), .v (.int .i64 y3.2.2.2.fX1), .v (.int .i64 y3.2.2.2.fY1)]), (1728, .arr .rw [] (LEN y5.1) 5 (row GD (encShape) y5.1)), (2240, .arr .rw [] (LEN y7.1) 8 (row GD (oncWindowHit LEN GD) y7.1)), (3584, .arr .rw [] (LEN v29) 4 (row GD (encRect) v29)), (1216, .arr .rw [] (LEN y3.1.fCells) 4 (row GD (oncCell LEN GD) y3.1.fCells))]) := ⟨_, rfl⟩
      refine ⟨S46, ?_, ?_⟩
      ·clear h
       have h := hy43
       clear hy43
       cbv
       replace h := of_req h
       obtain ⟨c49, h⟩ := h
       refine ⟨⟨c49, trivial⟩, ?_⟩
       refine And.intro (by first | exact (by subst hA; exact idx_lt c49) | (refine And.intro (by subst hA; exact idx_lt c49) ?_; first | trivial | exact ⟨trivial, trivial⟩)) ?_
       refine fork (fun b53 => ?_) (fun b53 => ?_)
       ·replace h := of_br_t b53 h
        cbv
        replace h := of_req h
        obtain ⟨c50, h⟩ := h
        refine ⟨⟨c50, trivial⟩, ?_⟩
        refine And.intro (by first | exact (by subst hA; exact idx_lt c50) | (refine And.intro (by subst hA; exact idx_lt c50) ?_; first | trivial | exact ⟨trivial, trivial⟩)) ?_
        replace h := of_bind h
        obtain ⟨y51, hy52, h⟩ := h
        refine ⟨{ args := [.agg [.v (.int .i64 (GD y5.1 (A.nadd 0 (A.toN v28))).fBox.fX0), .v (.int .i64 (GD y5.1 (A.nadd 0 (A.toN v28))).fBox.fY0), .v (.int .i64 (GD y5.1 (A.nadd 0 (A.toN v28))).fBox.fX1), .v (.int .i64 (GD y5.1 (A.nadd 0 (A.toN v28))).fBox.fY1)], .agg [.v (.int .i64 y3.2.2.2.fX0), .v (.int .i64 y3.2.2.2.fY0), .v (.int .i64 y3.2.2.2.fX1), .v (.int .i64 y3.2.2.2.fY1)]], o0 := [], r := .c (.v (.bool y51)), o1 := [], fl := true, σ := [], τ := [] }, hf_spec_RectsOverlap _ _ _ hy52, ⟨les_cons (lR _) (les_cons (lR _) (les_nil)), trivial, rfl, rfl, rfl, rfl, trivial, rfl⟩, ?_⟩
        cbv
        injection h with h
        subst h
        subst hS47
        show St.le _ _
        exact le_sparse rfl ⟨lR _, lR _, lR _, lR _, lR _, lR _, lR _, lR _, lR _, lR _, trivial⟩ ⟨rfl, rfl, oS, oS, oS, oS, trivial⟩ rfl
       ·replace h := of_br_f b53 h
        cbv
        injection h with h
        subst h
        subst hS47
        show St.le _ _
        exact le_sparse rfl ⟨lR _, lR _, lR _, lR _, lR _, lR _, lR _, lR _, lR _, lR _, trivial⟩ ⟨rfl, rfl, oS, oS, oS, oS, trivial⟩ rfl
      ·clear hy43
       subst hS47
       replace h := of_let h
       obtain ⟨w48, hw48, h⟩ := h
       have hw48 : w48 = y42 := hw48
       subst hw48
       cbv
       replace h := of_bind h
       obtain ⟨y54, hy55, h⟩ := h
       obtain ⟨S58, hS59⟩ : ∃ S, S = some (sparse 117 [(3, .c (.ptr 192 0)), (4, .c (.v (.int .i64 y3.2.1))), (5, .c (.v (.int .i64 y3.2.2.1))), (6, .c (.ptr 384 0)), (7, .c (.os 1728 0 (LEN y5.1))), (9, .c (.os 2240 0 (LEN y7.1))), (10, .c (.v (.int .i64 y7.2))), (11, .c (.os 3584 0 (LEN y54))), (12, .c (.v (.int .i64 v28)))] [(192, .var [.os 1216 0 (LEN y3.1.fCells)]), (384, .var [.v (.int .i64 y3.2.2.2.fX0), .v (.int .i64 y3.2.2.2.fY0), .v (.int .i64 y3.2.2.2.fX1), .v (.int .i64 y3.2.2.2.fY1)]), (1728, .arr .rw [] (LEN y5.1) 5 (row GD (encShape) y5.1)), (2240, .arr .rw [] (LEN y7.1) 8 (row GD (oncWindowHit LEN GD) y7.1)), (3584, .arr .rw [] (LEN y54) 4 (row GD (encRect) y54)), (1216, .arr .rw [] (LEN y3.1.fCells) 4 (row GD (oncCell LEN GD) y3.1.fCells))]) := ⟨_, rfl⟩
       refine ⟨S58, ?_, ?_⟩
       ·clear h
        have h := hy55
        clear hy55
        cbv
        refine fork (fun b67 => ?_) (fun b67 => ?_)
        ·replace h := of_br_t b67 h
         cbv
         replace h := of_req h
         obtain ⟨c61, h⟩ := h
         refine ⟨⟨c61, trivial⟩, ?_⟩
         refine And.intro (by first | exact (by subst hA; exact idx_lt c61) | (refine And.intro (by subst hA; exact idx_lt c61) ?_; first | trivial | exact ⟨trivial, trivial⟩)) ?_
         replace h := of_let h
         obtain ⟨l62, hl62, h⟩ := h
         have e63 : 1 = LEN l62 := by subst hl62 hLEN; rfl
         refine ⟨_, congrArg (fun n => AV.c (AC.os 5440 0 n)) e63, _, row GD (encRect) l62, e63, wkOf ?_, ?_⟩
         ·intro i hi j hj
          rw [← e63] at hi
          subst hl62
          subst hGD
          obtain rfl : i = 0 := (by omega) <;> obtain rfl | rfl | rfl | rfl : j = 0 ∨ j = 1 ∨ j = 2 ∨ j = 3 := (by omega)
          all_goals rfl
         cbv
         replace h := of_req h
         obtain ⟨c66, h⟩ := h
         replace h := of_let h
         obtain ⟨l64, hl64, h⟩ := h
         have e65 : A.nadd (LEN v29) (LEN l62) = LEN l64 := by subst hl64 hLEN hA; simp [std, len]
         refine ⟨c66, _, congrArg (fun n => AV.c (AC.os 3584 0 n)) e65, _, row GD (encRect) l64, e65, wkOf ?_, ?_⟩
         ·subst hGD hLEN hA
          exact app_os (off := 0) (pl_encRect) hl64 (Nat.le_refl _)
         cbv
         injection h with h
         subst h
         subst hS59
         show St.le _ _
         exact le_sparse rfl ⟨lR _, lR _, lR _, lR _, lR _, lR _, lR _, lR _, lR _, trivial⟩ ⟨rfl, rfl, oS, oS, oS, oS, trivial⟩ rfl
        ·replace h := of_br_f b67 h
         cbv
         injection h with h
         subst h
         subst hS59
         show St.le _ _
         exact le_sparse rfl ⟨lR _, lR _, lR _, lR _, lR _, lR _, lR _, lR _, lR _, trivial⟩ ⟨rfl, rfl, oS, oS, oS, oS, trivial⟩ rfl
       ·clear hy55
        subst hS59
        replace h := of_let h
        obtain ⟨w60, hw60, h⟩ := h
        have hw60 : w60 = y54 := hw60
        subst hw60
        cbv
        injection h with h
        refine hK36 _ h.symm _ ?_
        exact le_sparse rfl ⟨lR _, lR _, lR _, lR _, lR _, lR _, lR _, lR _, lR _, trivial⟩ ⟨rfl, rfl, oS, oS, oS, oS, trivial⟩ rfl
     ·replace h := of_br_f b68 h
      cbv
      injection h with h
      refine hY34 _ h.symm _ _ (And.intro rfl ?_) (by intro hh; cases hh)
      exact le_sparse rfl ⟨lR _, lR _, lR _, lR _, lR _, lR _, trivial⟩ ⟨rfl, rfl, oS, oS, oS, trivial⟩ rfl
    ·clear hr32
     have h := hN33
     clear hN33
     intro e40 s41 q39 hne
     replace h := of_let h
     obtain ⟨y31k0, hyk, h⟩ := h
     have hyk : y31k0 = y31 := hyk
     subst hyk
     obtain ⟨rfl, q39⟩ := q39
     replace h := of_let h
     obtain ⟨w69, hw69, h⟩ := h
     have hw69 : w69 = y31k0 := hw69
     subst hw69
     cbv
     refine ⟨_, q39, ?_⟩
     cbv
     refine fork (fun b106 => ?_) (fun b106 => ?_)
     ·replace h := of_br_t b106 h
      cbv
      injection h with h
      subst h
      refine ⟨(sparse 117 [(2, .c (.v (.bool (A.lt 100 (A.ofN (LEN w69))))))] []), ?_, ?_⟩
      ·exact le_sparse rfl ⟨lR _, trivial⟩ trivial rfl
      ·exact ⟨lR _, trivial, rfl⟩
     ·replace h := of_br_f b106 h
      cbv
      replace h := of_let h
      obtain ⟨l70, hl70, h⟩ := h
      have e71 : 0 = LEN l70 := by subst hl70 hLEN; rfl
      refine ⟨_, congrArg (fun n => AV.c (AC.os 5888 0 n)) e71, _, row GD (encRect) l70, e71, wkOf ?_, ?_⟩
      ·intro i hi j hj
       rw [← e71] at hi
       subst hl70
       subst hGD
       omega
      cbv
      replace h := of_bind h
      obtain ⟨y75, hr76, hN77⟩ := h
      refine loop_cut hr76 (fun x => (sparse 117 [(3, .c (.ptr 192 0)), (4, .c (.v (.int .i64 y3.2.1))), (6, .c (.ptr 384 0)), (9, .c (.os 2240 0 (LEN y7.1))), (11, .c (.os 3584 0 (LEN w69))), (13, .c (.os 5888 0 (LEN x.2))), (14, .c (.v (.int .i64 x.1)))] [(192, .var [.os 1216 0 (LEN y3.1.fCells)]), (384, .var [.v (.int .i64 y3.2.2.2.fX0), .v (.int .i64 y3.2.2.2.fY0), .v (.int .i64 y3.2.2.2.fX1), .v (.int .i64 y3.2.2.2.fY1)]), (2240, .arr .rw [] (LEN y7.1) 8 (row GD (oncWindowHit LEN GD) y7.1)), (3584, .arr .rw [] (LEN w69) 4 (row GD (encRect) w69)), (5888, .arr .rw [] (LEN x.2) 4 (row GD (encRect) x.2)), (1216, .arr .rw [] (LEN y3.1.fCells) 4 (row GD (oncCell LEN GD) y3.1.fCells))])) ?_ (fun y e s => (fun (w : (List TRect)) => e = .exit 2 ∧ s.le (sparse 117 [(3, .c (.ptr 192 0)), (4, .c (.v (.int .i64 y3.2.1))), (6, .c (.ptr 384 0)), (11, .c (.os 3584 0 (LEN w69))), (13, .c (.os 5888 0 (LEN w)))] [(192, .var [.os 1216 0 (LEN y3.1.fCells)]), (384, .var [.v (.int .i64 y3.2.2.2.fX0), .v (.int .i64 y3.2.2.2.fY0), .v (.int .i64 y3.2.2.2.fX1), .v (.int .i64 y3.2.2.2.fY1)]), (3584, .arr .rw [] (LEN w69) 4 (row GD (encRect) w69)), (5888, .arr .rw [] (LEN w) 4 (row GD (encRect) w)), (1216, .arr .rw [] (LEN y3.1.fCells) 4 (row GD (oncCell LEN GD) y3.1.fCells))])) y) ?_ ?_
      ·clear hr76 hN77
       show St.le _ _
       exact le_sparse rfl ⟨lR _, lR _, lR _, lR _, lR _, lR _, lR _, trivial⟩ ⟨rfl, rfl, oS, oS, oS, oS, trivial⟩ rfl
      ·clear hr76 hN77
       intro x z81 h K79 hK80 hY78
       obtain ⟨x0_, x1_⟩ := x
       replace h := of_let h
       obtain ⟨v72, hv72, h⟩ := h
       have hv72 : v72 = x0_ := hv72
       subst hv72
       replace h := of_let h
       obtain ⟨v73, hv73, h⟩ := h
       have hv73 : v73 = x1_ := hv73
       subst hv73
       cbv
       refine fork (fun b92 => ?_) (fun b92 => ?_)
       ·replace h := of_br_t b92 h
        cbv
        replace h := of_req h
        obtain ⟨c86, h⟩ := h
        refine ⟨⟨c86, trivial⟩, ?_⟩
        refine And.intro (by first | exact (by subst hA; exact idx_lt c86) | (refine And.intro (by subst hA; exact idx_lt c86) ?_; first | trivial | exact ⟨trivial, trivial⟩)) ?_
        replace h := of_let h
        obtain ⟨l87, hl87, h⟩ := h
        have e88 : 1 = LEN l87 := by subst hl87 hLEN; rfl
        refine ⟨_, congrArg (fun n => AV.c (AC.os 6720 0 n)) e88, _, row GD (encRect) l87, e88, wkOf ?_, ?_⟩
        ·intro i hi j hj
         rw [← e88] at hi
         subst hl87
         subst hGD
         obtain rfl : i = 0 := (by omega) <;> obtain rfl | rfl | rfl | rfl : j = 0 ∨ j = 1 ∨ j = 2 ∨ j = 3 := (by omega)
         all_goals rfl
        cbv
        replace h := of_req h
        obtain ⟨c91, h⟩ := h
        replace h := of_let h
        obtain ⟨l89, hl89, h⟩ := h
        have e90 : A.nadd (LEN v73) (LEN l87) = LEN l89 := by subst hl89 hLEN hA; simp [std, len]
        refine ⟨c91, _, congrArg (fun n => AV.c (AC.os 5888 0 n)) e90, _, row GD (encRect) l89, e90, wkOf ?_, ?_⟩
        ·subst hGD hLEN hA
         exact app_os (off := 0) (pl_encRect) hl89 (Nat.le_refl _)
        cbv
        injection h with h
        refine hK80 _ h.symm _ ?_
        exact le_sparse rfl ⟨lR _, lR _, lR _, lR _, lR _, lR _, lR _, trivial⟩ ⟨rfl, rfl, oS, oS, oS, oS, trivial⟩ rfl
       ·replace h := of_br_f b92 h
        cbv
        injection h with h
        refine hY78 _ h.symm _ _ (And.intro rfl ?_) (by intro hh; cases hh)
        exact le_sparse rfl ⟨lR _, lR _, lR _, lR _, lR _, trivial⟩ ⟨rfl, rfl, oS, oS, oS, trivial⟩ rfl
      ·clear hr76
       have h := hN77
       clear hN77
       intro e84 s85 q83 hne
       replace h := of_let h
       obtain ⟨y75k0, hyk, h⟩ := h
       have hyk : y75k0 = y75 := hyk
       subst hyk
       obtain ⟨rfl, q83⟩ := q83
       replace h := of_let h
       obtain ⟨w93, hw93, h⟩ := h
       have hw93 : w93 = y75k0 := hw93
       subst hw93
       cbv
       refine ⟨_, q83, ?_⟩
       cbv
       replace h := of_bind h
       obtain ⟨y94, hy95, h⟩ := h
       obtain ⟨S98, hS99⟩ : ∃ S, S = (sparse 117 [(2, .c (.v (.bool y94)))] []) := ⟨_, rfl⟩
       refine ⟨S98, ?_, ?_⟩
       ·clear h
        have h := hy95
        clear hy95
        cbv
        replace h := of_bind h
        obtain ⟨y101, hy102, h⟩ := h
        refine ⟨{ args := [.c (.bs (LEN w93) 4 (row GD (encRect) w93)), .c (.bs (LEN w69) 4 (row GD (encRect) w69))], o0 := [], r := .c (.v (.bool y101)), o1 := [], fl := true, σ := [], τ := [] }, hf_laws_sameRects _ _ _ hy102, ⟨les_cons (give_os (pl_encRect) rfl rfl rfl) (les_cons (give_os (pl_encRect) rfl rfl rfl) (les_nil)), trivial, rfl, rfl, rfl, rfl, trivial, rfl⟩, ?_⟩
        cbv
        refine fork (fun b105 => ?_) (fun b105 => ?_)
        ·replace h := of_br_t b105 h
         cbv
         replace h := of_bind h
         obtain ⟨y103, hy104, h⟩ := h
         refine ⟨{ args := [.agg [.bs (LEN y3.1.fCells) 4 (row GD (encCell LEN GD) y3.1.fCells)], .c (.v (.int .i64 y3.2.1)), .agg [.v (.int .i64 y3.2.2.2.fX0), .v (.int .i64 y3.2.2.2.fY0), .v (.int .i64 y3.2.2.2.fX1), .v (.int .i64 y3.2.2.2.fY1)]], o0 := [], r := .c (.v (.int .i64 y103)), o1 := [], fl := true, σ := [], τ := [] }, hf_impl_VisitedCount _ _ _ _ hy104, ⟨les_cons (le_agg ⟨give_osD (rf_oncCell) (ln_oncCell) rfl rfl rfl, trivial⟩) (les_cons (lR _) (les_cons (lR _) (les_nil))), trivial, rfl, rfl, rfl, rfl, trivial, rfl⟩, ?_⟩
         cbv
         injection h with h
         subst h
         subst hS99
         show St.le _ _
         exact le_sparse rfl ⟨lR _, trivial⟩ trivial rfl
        ·replace h := of_br_f b105 h
         cbv
         injection h with h
         subst h
         subst hS99
         show St.le _ _
         exact le_sparse rfl ⟨lR _, trivial⟩ trivial rfl
       ·clear hy95
        subst hS99
        replace h := of_let h
        obtain ⟨w100, hw100, h⟩ := h
        have hw100 : w100 = y94 := hw100
        subst hw100
        cbv
        injection h with h
        subst h
        refine ⟨(sparse 117 [(2, .c (.v (.bool w100)))] []), ?_, ?_⟩
        ·exact le_sparse rfl ⟨lR _, trivial⟩ trivial rfl
        ·exact ⟨lR _, trivial, rfl⟩
theorem op_5 (d : Nat) : Opens T (d + 1) 5 (clI .u8) (wfI .u8) := op_int .u8 (show T 5 = some d5 from rfl) rfl
theorem op_22 (d : Nat) : Opens T (d + 2) 22 (clL 1 (encI .u8)) (wfL (wfI .u8)) := op_slice (e := 5) (sz := 1) (show T 22 = some d22 from rfl) rfl (show T 5 = some d5 from rfl) rfl (fun x j hj => by match j, hj with | 0, _ => rfl | (j_ + 1), h_ => exact absurd h_ (by omega)) (op_5 d)
theorem open_22 {H : Type} {enc : TypeId × Value → H} {W : World} {spare : Nat → Bool} {held : Bool} {r : Reach} {base : Nat} {v : Value} {x : DataW H} {ps : List MemPlace}
    (hv : Value.okWide Try.prog W r base 22 v) (h : DataW.Trod enc Try.prog W 0 spare held 22 v x ps) : ∃ e : List Int, (wfL (wfI .u8)) e ∧ RelV (RelI (fun b => b < W.heap.size) W) (.c (.bs (len e) 1 (row gd (encI .u8) e))) v := by
  refine opened_one tok (op_22 0) (fun _ => rfl) (by kernel_rfl) ?_ h
  have ht : Try.prog.underlying 22 = some (.slice 5) := (tok 22 d22 rfl).1
  unfold Value.okWide at hv
  rw [ht] at hv
  cases v <;> first | rfl | exact False.elim hv
end Go.Proofs.Ytlenieingkfjaaa.AM
