/-
  What the functions that the law reaches compute, and that they do. No condition.
-/
import Derived.Test.YtmdlnjeppemipaaAmVW
namespace Go.Proofs.Ytmdlnjeppemipaa.AM
open Go Go.Proofs Go.RowKit
set_option linter.unusedVariables false
set_option linter.unusedSimpArgs false
set_option maxRecDepth 100000

/-- spec.l09DrawIndex -/
noncomputable def F_spec_l09DrawIndex_mPbo (a0 : Tl01Source) (a1 : TLibrary) : Option (Int × Tl01Source × (List TCell)) :=
 (F_spec_l01Next_mPbb a0 12).bind fun y1 =>
 br (std.eq y1.1 0)
 (letO ([(-1), std.ofN (len a1.fCells), 7] : List Int) fun l3 =>
 (F_spec_l01Next_mPbb y1.2 3).bind fun y5 =>
 req (std.inR y5.1 (len l3)) <|
 some (gd l3 (std.nadd 0 (std.toN y5.1)), y5.2, a1.fCells))
 ((F_spec_l01Next_mPbb y1.2 (std.ofN (len a1.fCells))).bind fun y8 =>
 some (y8.1, y8.2, a1.fCells))
theorem run_spec_l09DrawIndex_mPbo (a0 : Tl01Source) (a1 : TLibrary) (r : Int × Tl01Source × (List TCell)) (h : F_spec_l09DrawIndex_mPbo a0 a1 = some r) : Fun Try.prog 203 [.c (.ptr 5 0), .agg [.os 7 0 (len a1.fCells)]] [(5, .var [.bs (len a0.gcode) 1 (row gd (encI .u8) a0.gcode), .v (.int .i64 a0.gat), .v (.int .i64 a0.gseed)]), (7, .arr .rw [] (len a1.fCells) 4 (row gd (oncCell len gd) a1.fCells))] (.c (.v (.int .i64 r.1))) [(5, .var [.bs (len r.2.1.gcode) 1 (row gd (encI .u8) r.2.1.gcode), .v (.int .i64 r.2.1.gat), .v (.int .i64 r.2.1.gseed)]), (7, .arr .rw [] (len r.2.2) 4 (row gd (oncCell len gd) r.2.2))] false := by
 refine Fun.of_wp (oneOf []) tok mixed Try.func203 (by kernel_rfl) rfl Try.ntmps203 rfl ⟨fun i _ j _ k hk => (noref (rf_oncCell _ _) hk).elim, trivial⟩ (fun h => by cases h) ?_
 unfold F_spec_l09DrawIndex_mPbo at h
 have hf_spec_l01Next_mPbb := @run_spec_l01Next_mPbb
 generalize hLEN : @len = LEN at *
 generalize hGD : @gd = GD at *
 generalize hA : std = A at *
 generalize hP : Try.prog = P at *
 cbv
 replace h := of_bind h
 obtain ⟨y1, hy2, h⟩ := h
 refine ⟨{ args := [.c (.ptr 5 0), .c (.v (.int .i64 12))], o0 := [(5, .var [.bs (LEN a0.gcode) 1 (row GD (encI .u8) a0.gcode), .v (.int .i64 a0.gat), .v (.int .i64 a0.gseed)])], r := .c (.v (.int .i64 y1.1)), o1 := [(5, .var [.bs (LEN y1.2.gcode) 1 (row GD (encI .u8) y1.2.gcode), .v (.int .i64 y1.2.gat), .v (.int .i64 y1.2.gseed)])], fl := false, σ := [(5, 5)], τ := [(5, 5)] }, hf_spec_l01Next_mPbb _ _ _ hy2, ⟨les_cons (lR _) (les_cons (lR _) (les_nil)), ⟨rfl, trivial⟩, rfl, rfl, rfl, rfl, ⟨fun _ => rfl, trivial⟩, rfl⟩, ?_⟩
 cbv
 refine fork (fun b10 => ?_) (fun b10 => ?_)
 ·replace h := of_br_t b10 h
  cbv
  replace h := of_let h
  obtain ⟨l3, hl3, h⟩ := h
  have e4 : 3 = LEN l3 := by subst hl3 hLEN; rfl
  refine ⟨_, congrArg (fun n => AV.c (AC.os 704 0 n)) e4, _, row GD (encI .i64) l3, e4, ?_, ?_⟩
  ·intro i hi j hj
   rw [← e4] at hi
   subst hl3
   subst hGD
   obtain rfl | rfl | rfl : i = 0 ∨ i = 1 ∨ i = 2 := (by omega)
   all_goals obtain rfl : j = 0 := by omega
   all_goals rfl
  cbv
  replace h := of_bind h
  obtain ⟨y5, hy6, h⟩ := h
  refine ⟨{ args := [.c (.ptr 5 0), .c (.v (.int .i64 3))], o0 := [(5, .var [.bs (LEN y1.2.gcode) 1 (row GD (encI .u8) y1.2.gcode), .v (.int .i64 y1.2.gat), .v (.int .i64 y1.2.gseed)])], r := .c (.v (.int .i64 y5.1)), o1 := [(5, .var [.bs (LEN y5.2.gcode) 1 (row GD (encI .u8) y5.2.gcode), .v (.int .i64 y5.2.gat), .v (.int .i64 y5.2.gseed)])], fl := false, σ := [(5, 5)], τ := [(5, 5)] }, hf_spec_l01Next_mPbb _ _ _ hy6, ⟨les_cons (lR _) (les_cons (lR _) (les_nil)), ⟨rfl, trivial⟩, rfl, rfl, rfl, rfl, ⟨fun _ => rfl, trivial⟩, rfl⟩, ?_⟩
  cbv
  replace h := of_req h
  obtain ⟨c7, h⟩ := h
  refine ⟨⟨c7, trivial⟩, ?_⟩
  refine And.intro (by first | exact (by subst hA; exact idx_lt c7) | (refine And.intro (by subst hA; exact idx_lt c7) ?_; first | trivial | exact ⟨trivial, trivial⟩)) ?_
  injection h with h
  subst h
  refine ⟨(sparse 21 [(4, .c (.v (.int .i64 (GD l3 (A.nadd 0 (A.toN y5.1))))))] [(5, .var [.bs (LEN y5.2.gcode) 1 (row GD (encI .u8) y5.2.gcode), .v (.int .i64 y5.2.gat), .v (.int .i64 y5.2.gseed)]), (7, .arr .rw [] (LEN a1.fCells) 4 (row GD (oncCell LEN GD) a1.fCells))]), ?_, ?_⟩
  ·exact le_sparse rfl ⟨lR _, trivial⟩ ⟨rfl, oS, trivial⟩ rfl
  ·exact ⟨lR _, ⟨rfl, oS, trivial⟩, rfl⟩
 ·replace h := of_br_f b10 h
  cbv
  replace h := of_bind h
  obtain ⟨y8, hy9, h⟩ := h
  refine ⟨{ args := [.c (.ptr 5 0), .c (.v (.int .i64 (A.ofN (LEN a1.fCells))))], o0 := [(5, .var [.bs (LEN y1.2.gcode) 1 (row GD (encI .u8) y1.2.gcode), .v (.int .i64 y1.2.gat), .v (.int .i64 y1.2.gseed)])], r := .c (.v (.int .i64 y8.1)), o1 := [(5, .var [.bs (LEN y8.2.gcode) 1 (row GD (encI .u8) y8.2.gcode), .v (.int .i64 y8.2.gat), .v (.int .i64 y8.2.gseed)])], fl := false, σ := [(5, 5)], τ := [(5, 5)] }, hf_spec_l01Next_mPbb _ _ _ hy9, ⟨les_cons (lR _) (les_cons (lR _) (les_nil)), ⟨rfl, trivial⟩, rfl, rfl, rfl, rfl, ⟨fun _ => rfl, trivial⟩, rfl⟩, ?_⟩
  cbv
  injection h with h
  subst h
  refine ⟨(sparse 21 [(4, .c (.v (.int .i64 y8.1)))] [(5, .var [.bs (LEN y8.2.gcode) 1 (row GD (encI .u8) y8.2.gcode), .v (.int .i64 y8.2.gat), .v (.int .i64 y8.2.gseed)]), (7, .arr .rw [] (LEN a1.fCells) 4 (row GD (oncCell LEN GD) a1.fCells))]), ?_, ?_⟩
  ·exact le_sparse rfl ⟨lR _, trivial⟩ ⟨rfl, oS, trivial⟩ rfl
  ·exact ⟨lR _, ⟨rfl, oS, trivial⟩, rfl⟩

/-- spec.l10DrawLibrary -/
noncomputable def F_spec_l10DrawLibrary_mPb (a0 : Tl01Source) : Option (TLibrary × Tl01Source) :=
 (F_spec_l09DrawLibrary_mPb a0).bind fun y1 =>
 some (y1.1, y1.2)
theorem run_spec_l10DrawLibrary_mPb (a0 : Tl01Source) (r : TLibrary × Tl01Source) (h : F_spec_l10DrawLibrary_mPb a0 = some r) : Fun Try.prog 204 [.c (.ptr 5 0)] [(5, .var [.bs (len a0.gcode) 1 (row gd (encI .u8) a0.gcode), .v (.int .i64 a0.gat), .v (.int .i64 a0.gseed)])] (.agg [.os 64000 0 (len r.1.fCells)]) [(64000, .arr .rw [] (len r.1.fCells) 4 (row gd (oncCell len gd) r.1.fCells)), (5, .var [.bs (len r.2.gcode) 1 (row gd (encI .u8) r.2.gcode), .v (.int .i64 r.2.gat), .v (.int .i64 r.2.gseed)])] false := by
 refine Fun.of_wp (oneOf []) tok mixed Try.func204 (by kernel_rfl) rfl Try.ntmps204 rfl trivial (fun h => by cases h) ?_
 unfold F_spec_l10DrawLibrary_mPb at h
 have hf_spec_l09DrawLibrary_mPb := @run_spec_l09DrawLibrary_mPb
 generalize hLEN : @len = LEN at *
 generalize hGD : @gd = GD at *
 generalize hA : std = A at *
 generalize hP : Try.prog = P at *
 cbv
 replace h := of_bind h
 obtain ⟨y1, hy2, h⟩ := h
 refine ⟨{ args := [.c (.ptr 5 0)], o0 := [(5, .var [.bs (LEN a0.gcode) 1 (row GD (encI .u8) a0.gcode), .v (.int .i64 a0.gat), .v (.int .i64 a0.gseed)])], r := .agg [.os 64000 0 (LEN y1.1.fCells)], o1 := [(64000, .arr .rw [] (LEN y1.1.fCells) 4 (row GD (oncCell LEN GD) y1.1.fCells)), (5, .var [.bs (LEN y1.2.gcode) 1 (row GD (encI .u8) y1.2.gcode), .v (.int .i64 y1.2.gat), .v (.int .i64 y1.2.gseed)])], fl := false, σ := [(5, 5)], τ := [(64000, 256), (5, 5)] }, hf_spec_l09DrawLibrary_mPb _ _ hy2, ⟨les_cons (lR _) (les_nil), ⟨rfl, trivial⟩, rfl, rfl, rfl, rfl, ⟨fun h => absurd (show (64000 : Nat) % 2 = 1 from h) (by decide), fun _ => rfl, trivial⟩, rfl⟩, _, rfl, _, _, rfl, fun _ _ _ _ => rfl, ?_⟩
 cbv
 injection h with h
 subst h
 refine ⟨(sparse 5 [(2, .c (.ptr 128 0))] [(128, .var [.os 64000 0 (LEN y1.1.fCells)]), (5, .var [.bs (LEN y1.2.gcode) 1 (row GD (encI .u8) y1.2.gcode), .v (.int .i64 y1.2.gat), .v (.int .i64 y1.2.gseed)]), (64000, .arr .rw [] (LEN y1.1.fCells) 4 (row GD (oncCell LEN GD) y1.1.fCells))]), ?_, ?_⟩
 ·refine St.le_trans (le_ren 256 64000 (by decide) rfl) ?_
  exact le_sparse rfl ⟨lR _, trivial⟩ ⟨rfl, rfl, oS, trivial⟩ rfl
 ·exact ⟨lR _, ⟨oS, rfl, trivial⟩, rfl⟩

/-- spec.l10DrawTop -/
noncomputable def F_spec_l10DrawTop_mPb (a0 : Tl01Source) : Option (TLibrary × Int × Tl01Source) :=
 (F_spec_l01Next_mPbb a0 16).bind fun y1 =>
 br (std.eq y1.1 0)
 ((F_spec_l09DrawAny_mPb y1.2).bind fun y3 =>
 (F_spec_l09DrawIndex_mPbo y3.2 y3.1).bind fun y5 =>
 req (len y5.2.2 = len y3.1.fCells) <|
 req (len y3.1.fCells = len y5.2.2) <|
 some ((TLibrary.mk y5.2.2), y5.1, y5.2.1))
 ((F_spec_l10DrawLibrary_mPb y1.2).bind fun y9 =>
 (F_spec_l01Next_mPbb y9.2 6).bind fun y11 =>
 br (std.eq y11.1 0)
 ((F_spec_l09DrawIndex_mPbo y11.2 y9.1).bind fun y13 =>
 req (len y13.2.2 = len y9.1.fCells) <|
 req (len y9.1.fCells = len y13.2.2) <|
 some ((TLibrary.mk y13.2.2), y13.1, y13.2.1))
 (some (y9.1, std.sub .i64 (std.ofN (len y9.1.fCells)) 1, y11.2)))
theorem run_spec_l10DrawTop_mPb (a0 : Tl01Source) (r : TLibrary × Int × Tl01Source) (h : F_spec_l10DrawTop_mPb a0 = some r) : Fun Try.prog 140 [.c (.ptr 5 0)] [(5, .var [.bs (len a0.gcode) 1 (row gd (encI .u8) a0.gcode), .v (.int .i64 a0.gat), .v (.int .i64 a0.gseed)])] (.tup [.agg [.os 64000 0 (len r.1.fCells)], .c (.v (.int .i64 r.2.1))]) [(64000, .arr .rw [] (len r.1.fCells) 4 (row gd (oncCell len gd) r.1.fCells)), (5, .var [.bs (len r.2.2.gcode) 1 (row gd (encI .u8) r.2.2.gcode), .v (.int .i64 r.2.2.gat), .v (.int .i64 r.2.2.gseed)])] false := by
 refine Fun.of_wp (oneOf []) tok mixed Try.func140 (by kernel_rfl) rfl Try.ntmps140 rfl trivial (fun h => by cases h) ?_
 unfold F_spec_l10DrawTop_mPb at h
 have hf_spec_l01Next_mPbb := @run_spec_l01Next_mPbb
 have hf_spec_l09DrawAny_mPb := @run_spec_l09DrawAny_mPb
 have hf_spec_l09DrawIndex_mPbo := @run_spec_l09DrawIndex_mPbo
 have hf_spec_l10DrawLibrary_mPb := @run_spec_l10DrawLibrary_mPb
 generalize hLEN : @len = LEN at *
 generalize hGD : @gd = GD at *
 generalize hA : std = A at *
 generalize hP : Try.prog = P at *
 cbv
 replace h := of_bind h
 obtain ⟨y1, hy2, h⟩ := h
 refine ⟨{ args := [.c (.ptr 5 0), .c (.v (.int .i64 16))], o0 := [(5, .var [.bs (LEN a0.gcode) 1 (row GD (encI .u8) a0.gcode), .v (.int .i64 a0.gat), .v (.int .i64 a0.gseed)])], r := .c (.v (.int .i64 y1.1)), o1 := [(5, .var [.bs (LEN y1.2.gcode) 1 (row GD (encI .u8) y1.2.gcode), .v (.int .i64 y1.2.gat), .v (.int .i64 y1.2.gseed)])], fl := false, σ := [(5, 5)], τ := [(5, 5)] }, hf_spec_l01Next_mPbb _ _ _ hy2, ⟨les_cons (lR _) (les_cons (lR _) (les_nil)), ⟨rfl, trivial⟩, rfl, rfl, rfl, rfl, ⟨fun _ => rfl, trivial⟩, rfl⟩, ?_⟩
 cbv
 refine fork (fun b18 => ?_) (fun b18 => ?_)
 ·replace h := of_br_t b18 h
  cbv
  replace h := of_bind h
  obtain ⟨y3, hy4, h⟩ := h
  refine ⟨{ args := [.c (.ptr 5 0)], o0 := [(5, .var [.bs (LEN y1.2.gcode) 1 (row GD (encI .u8) y1.2.gcode), .v (.int .i64 y1.2.gat), .v (.int .i64 y1.2.gseed)])], r := .agg [.os 64000 0 (LEN y3.1.fCells)], o1 := [(64000, .arr .rw [] (LEN y3.1.fCells) 4 (row GD (oncCell LEN GD) y3.1.fCells)), (5, .var [.bs (LEN y3.2.gcode) 1 (row GD (encI .u8) y3.2.gcode), .v (.int .i64 y3.2.gat), .v (.int .i64 y3.2.gseed)])], fl := false, σ := [(5, 5)], τ := [(64000, 640), (5, 5)] }, hf_spec_l09DrawAny_mPb _ _ hy4, ⟨les_cons (lR _) (les_nil), ⟨rfl, trivial⟩, rfl, rfl, rfl, rfl, ⟨fun h => absurd (show (64000 : Nat) % 2 = 1 from h) (by decide), fun _ => rfl, trivial⟩, rfl⟩, _, rfl, _, _, rfl, fun _ _ _ _ => rfl, ?_⟩
  cbv
  replace h := of_bind h
  obtain ⟨y5, hy6, h⟩ := h
  replace h := of_req h
  obtain ⟨c8, h⟩ := h
  refine ⟨{ args := [.c (.ptr 5 0), .agg [.os 7 0 (LEN y3.1.fCells)]], o0 := [(5, .var [.bs (LEN y3.2.gcode) 1 (row GD (encI .u8) y3.2.gcode), .v (.int .i64 y3.2.gat), .v (.int .i64 y3.2.gseed)]), (7, .arr .rw [] (LEN y3.1.fCells) 4 (row GD (oncCell LEN GD) y3.1.fCells))], r := .c (.v (.int .i64 y5.1)), o1 := [(5, .var [.bs (LEN y5.2.1.gcode) 1 (row GD (encI .u8) y5.2.1.gcode), .v (.int .i64 y5.2.1.gat), .v (.int .i64 y5.2.1.gseed)]), (7, .arr .rw [] (LEN y5.2.2) 4 (row GD (oncCell LEN GD) y5.2.2))], fl := false, σ := [(5, 5), (7, 640)], τ := [(5, 5), (7, 640)] }, hf_spec_l09DrawIndex_mPbo _ _ _ hy6, ⟨les_cons (lR _) (les_cons (lR _) (les_nil)), ⟨rfl, oS, trivial⟩, rfl, rfl, rfl, rfl, ⟨fun _ => rfl, fun _ => ⟨c8.symm, rfl, fun c h => h⟩, trivial⟩, rfl⟩, _, rfl, LEN y3.1.fCells, _, c8, fun _ _ _ _ => rfl, ?_⟩
  cbv
  replace h := of_req h
  obtain ⟨c7, h⟩ := h
  injection h with h
  subst h
  refine ⟨(sparse 29 [(2, .c (.ptr 128 0)), (3, .c (.v (.int .i64 y5.1)))] [(128, .var [.os 64000 0 (LEN y5.2.2)]), (5, .var [.bs (LEN y5.2.1.gcode) 1 (row GD (encI .u8) y5.2.1.gcode), .v (.int .i64 y5.2.1.gat), .v (.int .i64 y5.2.1.gseed)]), (64000, .arr .rw [] (LEN y5.2.2) 4 (row GD (oncCell LEN GD) y5.2.2))]), ?_, ?_⟩
  ·refine St.le_trans (le_ren 640 64000 (by decide) rfl) ?_
   rw [c7]
   exact le_sparse rfl ⟨lR _, lR _, trivial⟩ ⟨rfl, rfl, oS, trivial⟩ rfl
  ·exact ⟨lR _, ⟨oS, rfl, trivial⟩, rfl⟩
 ·replace h := of_br_f b18 h
  cbv
  replace h := of_bind h
  obtain ⟨y9, hy10, h⟩ := h
  refine ⟨{ args := [.c (.ptr 5 0)], o0 := [(5, .var [.bs (LEN y1.2.gcode) 1 (row GD (encI .u8) y1.2.gcode), .v (.int .i64 y1.2.gat), .v (.int .i64 y1.2.gseed)])], r := .agg [.os 64000 0 (LEN y9.1.fCells)], o1 := [(64000, .arr .rw [] (LEN y9.1.fCells) 4 (row GD (oncCell LEN GD) y9.1.fCells)), (5, .var [.bs (LEN y9.2.gcode) 1 (row GD (encI .u8) y9.2.gcode), .v (.int .i64 y9.2.gat), .v (.int .i64 y9.2.gseed)])], fl := false, σ := [(5, 5)], τ := [(64000, 1024), (5, 5)] }, hf_spec_l10DrawLibrary_mPb _ _ hy10, ⟨les_cons (lR _) (les_nil), ⟨rfl, trivial⟩, rfl, rfl, rfl, rfl, ⟨fun h => absurd (show (64000 : Nat) % 2 = 1 from h) (by decide), fun _ => rfl, trivial⟩, rfl⟩, _, rfl, _, _, rfl, fun _ _ _ _ => rfl, ?_⟩
  cbv
  replace h := of_bind h
  obtain ⟨y11, hy12, h⟩ := h
  refine ⟨{ args := [.c (.ptr 5 0), .c (.v (.int .i64 6))], o0 := [(5, .var [.bs (LEN y9.2.gcode) 1 (row GD (encI .u8) y9.2.gcode), .v (.int .i64 y9.2.gat), .v (.int .i64 y9.2.gseed)])], r := .c (.v (.int .i64 y11.1)), o1 := [(5, .var [.bs (LEN y11.2.gcode) 1 (row GD (encI .u8) y11.2.gcode), .v (.int .i64 y11.2.gat), .v (.int .i64 y11.2.gseed)])], fl := false, σ := [(5, 5)], τ := [(5, 5)] }, hf_spec_l01Next_mPbb _ _ _ hy12, ⟨les_cons (lR _) (les_cons (lR _) (les_nil)), ⟨rfl, trivial⟩, rfl, rfl, rfl, rfl, ⟨fun _ => rfl, trivial⟩, rfl⟩, ?_⟩
  cbv
  refine fork (fun b17 => ?_) (fun b17 => ?_)
  ·replace h := of_br_t b17 h
   cbv
   replace h := of_bind h
   obtain ⟨y13, hy14, h⟩ := h
   replace h := of_req h
   obtain ⟨c16, h⟩ := h
   refine ⟨{ args := [.c (.ptr 5 0), .agg [.os 7 0 (LEN y9.1.fCells)]], o0 := [(5, .var [.bs (LEN y11.2.gcode) 1 (row GD (encI .u8) y11.2.gcode), .v (.int .i64 y11.2.gat), .v (.int .i64 y11.2.gseed)]), (7, .arr .rw [] (LEN y9.1.fCells) 4 (row GD (oncCell LEN GD) y9.1.fCells))], r := .c (.v (.int .i64 y13.1)), o1 := [(5, .var [.bs (LEN y13.2.1.gcode) 1 (row GD (encI .u8) y13.2.1.gcode), .v (.int .i64 y13.2.1.gat), .v (.int .i64 y13.2.1.gseed)]), (7, .arr .rw [] (LEN y13.2.2) 4 (row GD (oncCell LEN GD) y13.2.2))], fl := false, σ := [(5, 5), (7, 1024)], τ := [(5, 5), (7, 1024)] }, hf_spec_l09DrawIndex_mPbo _ _ _ hy14, ⟨les_cons (lR _) (les_cons (lR _) (les_nil)), ⟨rfl, oS, trivial⟩, rfl, rfl, rfl, rfl, ⟨fun _ => rfl, fun _ => ⟨c16.symm, rfl, fun c h => h⟩, trivial⟩, rfl⟩, _, rfl, LEN y9.1.fCells, _, c16, fun _ _ _ _ => rfl, ?_⟩
   cbv
   replace h := of_req h
   obtain ⟨c15, h⟩ := h
   injection h with h
   subst h
   refine ⟨(sparse 29 [(2, .c (.ptr 128 0)), (3, .c (.v (.int .i64 y13.1)))] [(128, .var [.os 64000 0 (LEN y13.2.2)]), (5, .var [.bs (LEN y13.2.1.gcode) 1 (row GD (encI .u8) y13.2.1.gcode), .v (.int .i64 y13.2.1.gat), .v (.int .i64 y13.2.1.gseed)]), (64000, .arr .rw [] (LEN y13.2.2) 4 (row GD (oncCell LEN GD) y13.2.2))]), ?_, ?_⟩
   ·refine St.le_trans (le_ren 1024 64000 (by decide) rfl) ?_
    rw [c15]
    exact le_sparse rfl ⟨lR _, lR _, trivial⟩ ⟨rfl, rfl, oS, trivial⟩ rfl
   ·exact ⟨lR _, ⟨oS, rfl, trivial⟩, rfl⟩
  ·replace h := of_br_f b17 h
   cbv
   injection h with h
   subst h
   refine ⟨(sparse 29 [(2, .c (.ptr 128 0)), (3, .c (.v (.int .i64 (A.sub .i64 (A.ofN (LEN y9.1.fCells)) 1))))] [(128, .var [.os 64000 0 (LEN y9.1.fCells)]), (5, .var [.bs (LEN y11.2.gcode) 1 (row GD (encI .u8) y11.2.gcode), .v (.int .i64 y11.2.gat), .v (.int .i64 y11.2.gseed)]), (64000, .arr .rw [] (LEN y9.1.fCells) 4 (row GD (oncCell LEN GD) y9.1.fCells))]), ?_, ?_⟩
   ·refine St.le_trans (le_ren 1024 64000 (by decide) rfl) ?_
    exact le_sparse rfl ⟨lR _, lR _, trivial⟩ ⟨rfl, rfl, oS, trivial⟩ rfl
   ·exact ⟨lR _, ⟨oS, rfl, trivial⟩, rfl⟩

/-- spec.l12DrawTop -/
noncomputable def F_spec_l12DrawTop_mPb (a0 : Tl01Source) : Option (TLibrary × Int × Tl01Source) :=
 (F_spec_l01Next_mPbb a0 3).bind fun y1 =>
 br (std.eq y1.1 0)
 ((F_spec_l10DrawDeep_mPb y1.2).bind fun y3 =>
 some (y3.1, (3 : Int), y3.2))
 ((F_spec_l10DrawTop_mPb y1.2).bind fun y5 =>
 some (y5.1, y5.2.1, y5.2.2))
theorem run_spec_l12DrawTop_mPb (a0 : Tl01Source) (r : TLibrary × Int × Tl01Source) (h : F_spec_l12DrawTop_mPb a0 = some r) : Fun Try.prog 91 [.c (.ptr 5 0)] [(5, .var [.bs (len a0.gcode) 1 (row gd (encI .u8) a0.gcode), .v (.int .i64 a0.gat), .v (.int .i64 a0.gseed)])] (.tup [.agg [.os 64000 0 (len r.1.fCells)], .c (.v (.int .i64 r.2.1))]) [(64000, .arr .rw [] (len r.1.fCells) 4 (row gd (oncCell len gd) r.1.fCells)), (5, .var [.bs (len r.2.2.gcode) 1 (row gd (encI .u8) r.2.2.gcode), .v (.int .i64 r.2.2.gat), .v (.int .i64 r.2.2.gseed)])] false := by
 refine Fun.of_wp (oneOf []) tok mixed Try.func91 (by kernel_rfl) rfl Try.ntmps91 rfl trivial (fun h => by cases h) ?_
 unfold F_spec_l12DrawTop_mPb at h
 have hf_spec_l01Next_mPbb := @run_spec_l01Next_mPbb
 have hf_spec_l10DrawDeep_mPb := @run_spec_l10DrawDeep_mPb
 have hf_spec_l10DrawTop_mPb := @run_spec_l10DrawTop_mPb
 generalize hLEN : @len = LEN at *
 generalize hGD : @gd = GD at *
 generalize hA : std = A at *
 generalize hP : Try.prog = P at *
 cbv
 replace h := of_bind h
 obtain ⟨y1, hy2, h⟩ := h
 refine ⟨{ args := [.c (.ptr 5 0), .c (.v (.int .i64 3))], o0 := [(5, .var [.bs (LEN a0.gcode) 1 (row GD (encI .u8) a0.gcode), .v (.int .i64 a0.gat), .v (.int .i64 a0.gseed)])], r := .c (.v (.int .i64 y1.1)), o1 := [(5, .var [.bs (LEN y1.2.gcode) 1 (row GD (encI .u8) y1.2.gcode), .v (.int .i64 y1.2.gat), .v (.int .i64 y1.2.gseed)])], fl := false, σ := [(5, 5)], τ := [(5, 5)] }, hf_spec_l01Next_mPbb _ _ _ hy2, ⟨les_cons (lR _) (les_cons (lR _) (les_nil)), ⟨rfl, trivial⟩, rfl, rfl, rfl, rfl, ⟨fun _ => rfl, trivial⟩, rfl⟩, ?_⟩
 cbv
 refine fork (fun b7 => ?_) (fun b7 => ?_)
 ·replace h := of_br_t b7 h
  cbv
  replace h := of_bind h
  obtain ⟨y3, hy4, h⟩ := h
  refine ⟨{ args := [.c (.ptr 5 0)], o0 := [(5, .var [.bs (LEN y1.2.gcode) 1 (row GD (encI .u8) y1.2.gcode), .v (.int .i64 y1.2.gat), .v (.int .i64 y1.2.gseed)])], r := .agg [.os 64000 0 (LEN y3.1.fCells)], o1 := [(64000, .arr .rw [] (LEN y3.1.fCells) 4 (row GD (oncCell LEN GD) y3.1.fCells)), (5, .var [.bs (LEN y3.2.gcode) 1 (row GD (encI .u8) y3.2.gcode), .v (.int .i64 y3.2.gat), .v (.int .i64 y3.2.gseed)])], fl := false, σ := [(5, 5)], τ := [(64000, 512), (5, 5)] }, hf_spec_l10DrawDeep_mPb _ _ hy4, ⟨les_cons (lR _) (les_nil), ⟨rfl, trivial⟩, rfl, rfl, rfl, rfl, ⟨fun h => absurd (show (64000 : Nat) % 2 = 1 from h) (by decide), fun _ => rfl, trivial⟩, rfl⟩, _, rfl, _, _, rfl, fun _ _ _ _ => rfl, ?_⟩
  cbv
  injection h with h
  subst h
  refine ⟨(sparse 13 [(2, .c (.ptr 128 0)), (3, .c (.v (.int .i64 3)))] [(128, .var [.os 64000 0 (LEN y3.1.fCells)]), (5, .var [.bs (LEN y3.2.gcode) 1 (row GD (encI .u8) y3.2.gcode), .v (.int .i64 y3.2.gat), .v (.int .i64 y3.2.gseed)]), (64000, .arr .rw [] (LEN y3.1.fCells) 4 (row GD (oncCell LEN GD) y3.1.fCells))]), ?_, ?_⟩
  ·refine St.le_trans (le_ren 512 64000 (by decide) rfl) ?_
   exact le_sparse rfl ⟨lR _, lR _, trivial⟩ ⟨rfl, rfl, oS, trivial⟩ rfl
  ·exact ⟨lR _, ⟨oS, rfl, trivial⟩, rfl⟩
 ·replace h := of_br_f b7 h
  cbv
  replace h := of_bind h
  obtain ⟨y5, hy6, h⟩ := h
  refine ⟨{ args := [.c (.ptr 5 0)], o0 := [(5, .var [.bs (LEN y1.2.gcode) 1 (row GD (encI .u8) y1.2.gcode), .v (.int .i64 y1.2.gat), .v (.int .i64 y1.2.gseed)])], r := .tup [.agg [.os 64000 0 (LEN y5.1.fCells)], .c (.v (.int .i64 y5.2.1))], o1 := [(64000, .arr .rw [] (LEN y5.1.fCells) 4 (row GD (oncCell LEN GD) y5.1.fCells)), (5, .var [.bs (LEN y5.2.2.gcode) 1 (row GD (encI .u8) y5.2.2.gcode), .v (.int .i64 y5.2.2.gat), .v (.int .i64 y5.2.2.gseed)])], fl := false, σ := [(5, 5)], τ := [(64000, 640), (5, 5)] }, hf_spec_l10DrawTop_mPb _ _ hy6, ⟨les_cons (lR _) (les_nil), ⟨rfl, trivial⟩, rfl, rfl, rfl, rfl, ⟨fun h => absurd (show (64000 : Nat) % 2 = 1 from h) (by decide), fun _ => rfl, trivial⟩, rfl⟩, _, rfl, _, _, rfl, fun _ _ _ _ => rfl, ?_⟩
  cbv
  injection h with h
  subst h
  refine ⟨(sparse 13 [(2, .c (.ptr 128 0)), (3, .c (.v (.int .i64 y5.2.1)))] [(128, .var [.os 64000 0 (LEN y5.1.fCells)]), (5, .var [.bs (LEN y5.2.2.gcode) 1 (row GD (encI .u8) y5.2.2.gcode), .v (.int .i64 y5.2.2.gat), .v (.int .i64 y5.2.2.gseed)]), (64000, .arr .rw [] (LEN y5.1.fCells) 4 (row GD (oncCell LEN GD) y5.1.fCells))]), ?_, ?_⟩
  ·refine St.le_trans (le_ren 640 64000 (by decide) rfl) ?_
   exact le_sparse rfl ⟨lR _, lR _, trivial⟩ ⟨rfl, rfl, oS, trivial⟩ rfl
  ·exact ⟨lR _, ⟨oS, rfl, trivial⟩, rfl⟩

/-- spec.l11DrawBox -/
noncomputable def F_spec_l11DrawBox_mPb (a0 : Tl01Source) : Option (TRect × Tl01Source) :=
 (F_spec_l01Next_mPbb a0 80).bind fun y1 =>
 (F_spec_l01Next_mPbb y1.2 80).bind fun y3 =>
 (F_spec_l01Next_mPbb y3.2 20).bind fun y5 =>
 (F_spec_l01Next_mPbb y5.2 20).bind fun y7 =>
 some ((TRect.mk (std.sub .i64 y1.1 40) (std.sub .i64 y3.1 40) (std.imin 40 (std.add .i64 (std.add .i64 (std.sub .i64 y1.1 40) 1) y5.1)) (std.imin 40 (std.add .i64 (std.add .i64 (std.sub .i64 y3.1 40) 1) y7.1))), y7.2)
theorem run_spec_l11DrawBox_mPb (a0 : Tl01Source) (r : TRect × Tl01Source) (h : F_spec_l11DrawBox_mPb a0 = some r) : Fun Try.prog 205 [.c (.ptr 5 0)] [(5, .var [.bs (len a0.gcode) 1 (row gd (encI .u8) a0.gcode), .v (.int .i64 a0.gat), .v (.int .i64 a0.gseed)])] (.agg [.v (.int .i64 r.1.fX0), .v (.int .i64 r.1.fY0), .v (.int .i64 r.1.fX1), .v (.int .i64 r.1.fY1)]) [(5, .var [.bs (len r.2.gcode) 1 (row gd (encI .u8) r.2.gcode), .v (.int .i64 r.2.gat), .v (.int .i64 r.2.gseed)])] false := by
 refine Fun.of_wp (oneOf []) tok mixed Try.func205 (by kernel_rfl) rfl Try.ntmps205 rfl trivial (fun h => by cases h) ?_
 unfold F_spec_l11DrawBox_mPb at h
 have hf_spec_l01Next_mPbb := @run_spec_l01Next_mPbb
 generalize hLEN : @len = LEN at *
 generalize hGD : @gd = GD at *
 generalize hA : std = A at *
 generalize hP : Try.prog = P at *
 cbv
 replace h := of_bind h
 obtain ⟨y1, hy2, h⟩ := h
 refine ⟨{ args := [.c (.ptr 5 0), .c (.v (.int .i64 80))], o0 := [(5, .var [.bs (LEN a0.gcode) 1 (row GD (encI .u8) a0.gcode), .v (.int .i64 a0.gat), .v (.int .i64 a0.gseed)])], r := .c (.v (.int .i64 y1.1)), o1 := [(5, .var [.bs (LEN y1.2.gcode) 1 (row GD (encI .u8) y1.2.gcode), .v (.int .i64 y1.2.gat), .v (.int .i64 y1.2.gseed)])], fl := false, σ := [(5, 5)], τ := [(5, 5)] }, hf_spec_l01Next_mPbb _ _ _ hy2, ⟨les_cons (lR _) (les_cons (lR _) (les_nil)), ⟨rfl, trivial⟩, rfl, rfl, rfl, rfl, ⟨fun _ => rfl, trivial⟩, rfl⟩, ?_⟩
 cbv
 replace h := of_bind h
 obtain ⟨y3, hy4, h⟩ := h
 refine ⟨{ args := [.c (.ptr 5 0), .c (.v (.int .i64 80))], o0 := [(5, .var [.bs (LEN y1.2.gcode) 1 (row GD (encI .u8) y1.2.gcode), .v (.int .i64 y1.2.gat), .v (.int .i64 y1.2.gseed)])], r := .c (.v (.int .i64 y3.1)), o1 := [(5, .var [.bs (LEN y3.2.gcode) 1 (row GD (encI .u8) y3.2.gcode), .v (.int .i64 y3.2.gat), .v (.int .i64 y3.2.gseed)])], fl := false, σ := [(5, 5)], τ := [(5, 5)] }, hf_spec_l01Next_mPbb _ _ _ hy4, ⟨les_cons (lR _) (les_cons (lR _) (les_nil)), ⟨rfl, trivial⟩, rfl, rfl, rfl, rfl, ⟨fun _ => rfl, trivial⟩, rfl⟩, ?_⟩
 cbv
 replace h := of_bind h
 obtain ⟨y5, hy6, h⟩ := h
 refine ⟨{ args := [.c (.ptr 5 0), .c (.v (.int .i64 20))], o0 := [(5, .var [.bs (LEN y3.2.gcode) 1 (row GD (encI .u8) y3.2.gcode), .v (.int .i64 y3.2.gat), .v (.int .i64 y3.2.gseed)])], r := .c (.v (.int .i64 y5.1)), o1 := [(5, .var [.bs (LEN y5.2.gcode) 1 (row GD (encI .u8) y5.2.gcode), .v (.int .i64 y5.2.gat), .v (.int .i64 y5.2.gseed)])], fl := false, σ := [(5, 5)], τ := [(5, 5)] }, hf_spec_l01Next_mPbb _ _ _ hy6, ⟨les_cons (lR _) (les_cons (lR _) (les_nil)), ⟨rfl, trivial⟩, rfl, rfl, rfl, rfl, ⟨fun _ => rfl, trivial⟩, rfl⟩, ?_⟩
 cbv
 replace h := of_bind h
 obtain ⟨y7, hy8, h⟩ := h
 refine ⟨{ args := [.c (.ptr 5 0), .c (.v (.int .i64 20))], o0 := [(5, .var [.bs (LEN y5.2.gcode) 1 (row GD (encI .u8) y5.2.gcode), .v (.int .i64 y5.2.gat), .v (.int .i64 y5.2.gseed)])], r := .c (.v (.int .i64 y7.1)), o1 := [(5, .var [.bs (LEN y7.2.gcode) 1 (row GD (encI .u8) y7.2.gcode), .v (.int .i64 y7.2.gat), .v (.int .i64 y7.2.gseed)])], fl := false, σ := [(5, 5)], τ := [(5, 5)] }, hf_spec_l01Next_mPbb _ _ _ hy8, ⟨les_cons (lR _) (les_cons (lR _) (les_nil)), ⟨rfl, trivial⟩, rfl, rfl, rfl, rfl, ⟨fun _ => rfl, trivial⟩, rfl⟩, ?_⟩
 cbv
 injection h with h
 subst h
 refine ⟨(sparse 26 [(2, .c (.ptr 128 0))] [(128, .var [.v (.int .i64 (A.sub .i64 y1.1 40)), .v (.int .i64 (A.sub .i64 y3.1 40)), .v (.int .i64 (A.imin 40 (A.add .i64 (A.add .i64 (A.sub .i64 y1.1 40) 1) y5.1))), .v (.int .i64 (A.imin 40 (A.add .i64 (A.add .i64 (A.sub .i64 y3.1 40) 1) y7.1)))]), (5, .var [.bs (LEN y7.2.gcode) 1 (row GD (encI .u8) y7.2.gcode), .v (.int .i64 y7.2.gat), .v (.int .i64 y7.2.gseed)])]), ?_, ?_⟩
 ·exact le_sparse rfl ⟨lR _, trivial⟩ ⟨rfl, rfl, trivial⟩ rfl
 ·exact ⟨lR _, ⟨rfl, trivial⟩, rfl⟩

/-- spec.l11DrawWindow -/
noncomputable def F_spec_l11DrawWindow_mPb (a0 : Tl01Source) : Option (TRect × Tl01Source) :=
 (F_spec_l01Next_mPbb a0 16).bind fun y1 =>
 br (std.eq y1.1 0)
 ((F_spec_l01Next_mPbb y1.2 90).bind fun y3 =>
 (F_spec_l01Next_mPbb y3.2 90).bind fun y5 =>
 some ((TRect.mk (std.sub .i64 y3.1 45) 0 (std.sub .i64 y5.1 45) 3), y5.2))
 ((F_spec_l11DrawBox_mPb y1.2).bind fun y7 =>
 some (y7.1, y7.2))
theorem run_spec_l11DrawWindow_mPb (a0 : Tl01Source) (r : TRect × Tl01Source) (h : F_spec_l11DrawWindow_mPb a0 = some r) : Fun Try.prog 141 [.c (.ptr 5 0)] [(5, .var [.bs (len a0.gcode) 1 (row gd (encI .u8) a0.gcode), .v (.int .i64 a0.gat), .v (.int .i64 a0.gseed)])] (.agg [.v (.int .i64 r.1.fX0), .v (.int .i64 r.1.fY0), .v (.int .i64 r.1.fX1), .v (.int .i64 r.1.fY1)]) [(5, .var [.bs (len r.2.gcode) 1 (row gd (encI .u8) r.2.gcode), .v (.int .i64 r.2.gat), .v (.int .i64 r.2.gseed)])] false := by
 refine Fun.of_wp (oneOf []) tok mixed Try.func141 (by kernel_rfl) rfl Try.ntmps141 rfl trivial (fun h => by cases h) ?_
 unfold F_spec_l11DrawWindow_mPb at h
 have hf_spec_l01Next_mPbb := @run_spec_l01Next_mPbb
 have hf_spec_l11DrawBox_mPb := @run_spec_l11DrawBox_mPb
 generalize hLEN : @len = LEN at *
 generalize hGD : @gd = GD at *
 generalize hA : std = A at *
 generalize hP : Try.prog = P at *
 cbv
 replace h := of_bind h
 obtain ⟨y1, hy2, h⟩ := h
 refine ⟨{ args := [.c (.ptr 5 0), .c (.v (.int .i64 16))], o0 := [(5, .var [.bs (LEN a0.gcode) 1 (row GD (encI .u8) a0.gcode), .v (.int .i64 a0.gat), .v (.int .i64 a0.gseed)])], r := .c (.v (.int .i64 y1.1)), o1 := [(5, .var [.bs (LEN y1.2.gcode) 1 (row GD (encI .u8) y1.2.gcode), .v (.int .i64 y1.2.gat), .v (.int .i64 y1.2.gseed)])], fl := false, σ := [(5, 5)], τ := [(5, 5)] }, hf_spec_l01Next_mPbb _ _ _ hy2, ⟨les_cons (lR _) (les_cons (lR _) (les_nil)), ⟨rfl, trivial⟩, rfl, rfl, rfl, rfl, ⟨fun _ => rfl, trivial⟩, rfl⟩, ?_⟩
 cbv
 refine fork (fun b9 => ?_) (fun b9 => ?_)
 ·replace h := of_br_t b9 h
  cbv
  replace h := of_bind h
  obtain ⟨y3, hy4, h⟩ := h
  refine ⟨{ args := [.c (.ptr 5 0), .c (.v (.int .i64 90))], o0 := [(5, .var [.bs (LEN y1.2.gcode) 1 (row GD (encI .u8) y1.2.gcode), .v (.int .i64 y1.2.gat), .v (.int .i64 y1.2.gseed)])], r := .c (.v (.int .i64 y3.1)), o1 := [(5, .var [.bs (LEN y3.2.gcode) 1 (row GD (encI .u8) y3.2.gcode), .v (.int .i64 y3.2.gat), .v (.int .i64 y3.2.gseed)])], fl := false, σ := [(5, 5)], τ := [(5, 5)] }, hf_spec_l01Next_mPbb _ _ _ hy4, ⟨les_cons (lR _) (les_cons (lR _) (les_nil)), ⟨rfl, trivial⟩, rfl, rfl, rfl, rfl, ⟨fun _ => rfl, trivial⟩, rfl⟩, ?_⟩
  cbv
  replace h := of_bind h
  obtain ⟨y5, hy6, h⟩ := h
  refine ⟨{ args := [.c (.ptr 5 0), .c (.v (.int .i64 90))], o0 := [(5, .var [.bs (LEN y3.2.gcode) 1 (row GD (encI .u8) y3.2.gcode), .v (.int .i64 y3.2.gat), .v (.int .i64 y3.2.gseed)])], r := .c (.v (.int .i64 y5.1)), o1 := [(5, .var [.bs (LEN y5.2.gcode) 1 (row GD (encI .u8) y5.2.gcode), .v (.int .i64 y5.2.gat), .v (.int .i64 y5.2.gseed)])], fl := false, σ := [(5, 5)], τ := [(5, 5)] }, hf_spec_l01Next_mPbb _ _ _ hy6, ⟨les_cons (lR _) (les_cons (lR _) (les_nil)), ⟨rfl, trivial⟩, rfl, rfl, rfl, rfl, ⟨fun _ => rfl, trivial⟩, rfl⟩, ?_⟩
  cbv
  injection h with h
  subst h
  refine ⟨(sparse 15 [(2, .c (.ptr 128 0))] [(128, .var [.v (.int .i64 (A.sub .i64 y3.1 45)), .v (.int .i64 0), .v (.int .i64 (A.sub .i64 y5.1 45)), .v (.int .i64 3)]), (5, .var [.bs (LEN y5.2.gcode) 1 (row GD (encI .u8) y5.2.gcode), .v (.int .i64 y5.2.gat), .v (.int .i64 y5.2.gseed)])]), ?_, ?_⟩
  ·exact le_sparse rfl ⟨lR _, trivial⟩ ⟨rfl, rfl, trivial⟩ rfl
  ·exact ⟨lR _, ⟨rfl, trivial⟩, rfl⟩
 ·replace h := of_br_f b9 h
  cbv
  replace h := of_bind h
  obtain ⟨y7, hy8, h⟩ := h
  refine ⟨{ args := [.c (.ptr 5 0)], o0 := [(5, .var [.bs (LEN y1.2.gcode) 1 (row GD (encI .u8) y1.2.gcode), .v (.int .i64 y1.2.gat), .v (.int .i64 y1.2.gseed)])], r := .agg [.v (.int .i64 y7.1.fX0), .v (.int .i64 y7.1.fY0), .v (.int .i64 y7.1.fX1), .v (.int .i64 y7.1.fY1)], o1 := [(5, .var [.bs (LEN y7.2.gcode) 1 (row GD (encI .u8) y7.2.gcode), .v (.int .i64 y7.2.gat), .v (.int .i64 y7.2.gseed)])], fl := false, σ := [(5, 5)], τ := [(5, 5)] }, hf_spec_l11DrawBox_mPb _ _ hy8, ⟨les_cons (lR _) (les_nil), ⟨rfl, trivial⟩, rfl, rfl, rfl, rfl, ⟨fun _ => rfl, trivial⟩, rfl⟩, ?_⟩
  cbv
  injection h with h
  subst h
  refine ⟨(sparse 15 [(2, .c (.ptr 128 0))] [(128, .var [.v (.int .i64 y7.1.fX0), .v (.int .i64 y7.1.fY0), .v (.int .i64 y7.1.fX1), .v (.int .i64 y7.1.fY1)]), (5, .var [.bs (LEN y7.2.gcode) 1 (row GD (encI .u8) y7.2.gcode), .v (.int .i64 y7.2.gat), .v (.int .i64 y7.2.gseed)])]), ?_, ?_⟩
  ·exact le_sparse rfl ⟨lR _, trivial⟩ ⟨rfl, rfl, trivial⟩ rfl
  ·exact ⟨lR _, ⟨rfl, trivial⟩, rfl⟩
/-- spec.l12DrawWindow -/
noncomputable def F_spec_l12DrawWindow_mPb (a0 : Tl01Source) : Option (TRect × Tl01Source) :=
 (F_spec_l01Next_mPbb a0 8).bind fun y1 =>
 br (std.eq y1.1 0)
 ((F_spec_l11DrawWindow_mPb y1.2).bind fun y3 =>
 some (y3.1, y3.2))
 (br (std.eq y1.1 1)
 (some ((TRect.mk (-40) (-40) 40 40), y1.2))
 ((F_spec_l01Next_mPbb y1.2 40).bind fun y5 =>
 (F_spec_l01Next_mPbb y5.2 40).bind fun y7 =>
 (F_spec_l01Next_mPbb y7.2 14).bind fun y9 =>
 (F_spec_l01Next_mPbb y9.2 14).bind fun y11 =>
 some ((TRect.mk (std.sub .i64 y5.1 20) (std.sub .i64 y7.1 20) (std.add .i64 (std.add .i64 (std.sub .i64 y5.1 20) 1) y9.1) (std.add .i64 (std.add .i64 (std.sub .i64 y7.1 20) 1) y11.1)), y11.2)))
theorem run_spec_l12DrawWindow_mPb (a0 : Tl01Source) (r : TRect × Tl01Source) (h : F_spec_l12DrawWindow_mPb a0 = some r) : Fun Try.prog 92 [.c (.ptr 5 0)] [(5, .var [.bs (len a0.gcode) 1 (row gd (encI .u8) a0.gcode), .v (.int .i64 a0.gat), .v (.int .i64 a0.gseed)])] (.agg [.v (.int .i64 r.1.fX0), .v (.int .i64 r.1.fY0), .v (.int .i64 r.1.fX1), .v (.int .i64 r.1.fY1)]) [(5, .var [.bs (len r.2.gcode) 1 (row gd (encI .u8) r.2.gcode), .v (.int .i64 r.2.gat), .v (.int .i64 r.2.gseed)])] false := by
 refine Fun.of_wp (oneOf []) tok mixed Try.func92 (by kernel_rfl) rfl Try.ntmps92 rfl trivial (fun h => by cases h) ?_
 unfold F_spec_l12DrawWindow_mPb at h
 have hf_spec_l01Next_mPbb := @run_spec_l01Next_mPbb
 have hf_spec_l11DrawWindow_mPb := @run_spec_l11DrawWindow_mPb
 generalize hLEN : @len = LEN at *
 generalize hGD : @gd = GD at *
 generalize hA : std = A at *
 generalize hP : Try.prog = P at *
 cbv
 replace h := of_bind h
 obtain ⟨y1, hy2, h⟩ := h
 refine ⟨{ args := [.c (.ptr 5 0), .c (.v (.int .i64 8))], o0 := [(5, .var [.bs (LEN a0.gcode) 1 (row GD (encI .u8) a0.gcode), .v (.int .i64 a0.gat), .v (.int .i64 a0.gseed)])], r := .c (.v (.int .i64 y1.1)), o1 := [(5, .var [.bs (LEN y1.2.gcode) 1 (row GD (encI .u8) y1.2.gcode), .v (.int .i64 y1.2.gat), .v (.int .i64 y1.2.gseed)])], fl := false, σ := [(5, 5)], τ := [(5, 5)] }, hf_spec_l01Next_mPbb _ _ _ hy2, ⟨les_cons (lR _) (les_cons (lR _) (les_nil)), ⟨rfl, trivial⟩, rfl, rfl, rfl, rfl, ⟨fun _ => rfl, trivial⟩, rfl⟩, ?_⟩
 cbv
 refine fork (fun b14 => ?_) (fun b14 => ?_)
 ·replace h := of_br_t b14 h
  cbv
  replace h := of_bind h
  obtain ⟨y3, hy4, h⟩ := h
  refine ⟨{ args := [.c (.ptr 5 0)], o0 := [(5, .var [.bs (LEN y1.2.gcode) 1 (row GD (encI .u8) y1.2.gcode), .v (.int .i64 y1.2.gat), .v (.int .i64 y1.2.gseed)])], r := .agg [.v (.int .i64 y3.1.fX0), .v (.int .i64 y3.1.fY0), .v (.int .i64 y3.1.fX1), .v (.int .i64 y3.1.fY1)], o1 := [(5, .var [.bs (LEN y3.2.gcode) 1 (row GD (encI .u8) y3.2.gcode), .v (.int .i64 y3.2.gat), .v (.int .i64 y3.2.gseed)])], fl := false, σ := [(5, 5)], τ := [(5, 5)] }, hf_spec_l11DrawWindow_mPb _ _ hy4, ⟨les_cons (lR _) (les_nil), ⟨rfl, trivial⟩, rfl, rfl, rfl, rfl, ⟨fun _ => rfl, trivial⟩, rfl⟩, ?_⟩
  cbv
  injection h with h
  subst h
  refine ⟨(sparse 33 [(2, .c (.ptr 128 0))] [(128, .var [.v (.int .i64 y3.1.fX0), .v (.int .i64 y3.1.fY0), .v (.int .i64 y3.1.fX1), .v (.int .i64 y3.1.fY1)]), (5, .var [.bs (LEN y3.2.gcode) 1 (row GD (encI .u8) y3.2.gcode), .v (.int .i64 y3.2.gat), .v (.int .i64 y3.2.gseed)])]), ?_, ?_⟩
  ·exact le_sparse rfl ⟨lR _, trivial⟩ ⟨rfl, rfl, trivial⟩ rfl
  ·exact ⟨lR _, ⟨rfl, trivial⟩, rfl⟩
 ·replace h := of_br_f b14 h
  cbv
  refine fork (fun b13 => ?_) (fun b13 => ?_)
  ·replace h := of_br_t b13 h
   cbv
   injection h with h
   subst h
   refine ⟨(sparse 33 [(2, .c (.ptr 128 0))] [(128, .var [.v (.int .i64 (-40)), .v (.int .i64 (-40)), .v (.int .i64 40), .v (.int .i64 40)]), (5, .var [.bs (LEN y1.2.gcode) 1 (row GD (encI .u8) y1.2.gcode), .v (.int .i64 y1.2.gat), .v (.int .i64 y1.2.gseed)])]), ?_, ?_⟩
   ·exact le_sparse rfl ⟨lR _, trivial⟩ ⟨rfl, rfl, trivial⟩ rfl
   ·exact ⟨lR _, ⟨rfl, trivial⟩, rfl⟩
  ·replace h := of_br_f b13 h
   cbv
   replace h := of_bind h
   obtain ⟨y5, hy6, h⟩ := h
   refine ⟨{ args := [.c (.ptr 5 0), .c (.v (.int .i64 40))], o0 := [(5, .var [.bs (LEN y1.2.gcode) 1 (row GD (encI .u8) y1.2.gcode), .v (.int .i64 y1.2.gat), .v (.int .i64 y1.2.gseed)])], r := .c (.v (.int .i64 y5.1)), o1 := [(5, .var [.bs (LEN y5.2.gcode) 1 (row GD (encI .u8) y5.2.gcode), .v (.int .i64 y5.2.gat), .v (.int .i64 y5.2.gseed)])], fl := false, σ := [(5, 5)], τ := [(5, 5)] }, hf_spec_l01Next_mPbb _ _ _ hy6, ⟨les_cons (lR _) (les_cons (lR _) (les_nil)), ⟨rfl, trivial⟩, rfl, rfl, rfl, rfl, ⟨fun _ => rfl, trivial⟩, rfl⟩, ?_⟩
   cbv
   replace h := of_bind h
   obtain ⟨y7, hy8, h⟩ := h
   refine ⟨{ args := [.c (.ptr 5 0), .c (.v (.int .i64 40))], o0 := [(5, .var [.bs (LEN y5.2.gcode) 1 (row GD (encI .u8) y5.2.gcode), .v (.int .i64 y5.2.gat), .v (.int .i64 y5.2.gseed)])], r := .c (.v (.int .i64 y7.1)), o1 := [(5, .var [.bs (LEN y7.2.gcode) 1 (row GD (encI .u8) y7.2.gcode), .v (.int .i64 y7.2.gat), .v (.int .i64 y7.2.gseed)])], fl := false, σ := [(5, 5)], τ := [(5, 5)] }, hf_spec_l01Next_mPbb _ _ _ hy8, ⟨les_cons (lR _) (les_cons (lR _) (les_nil)), ⟨rfl, trivial⟩, rfl, rfl, rfl, rfl, ⟨fun _ => rfl, trivial⟩, rfl⟩, ?_⟩
   cbv
   replace h := of_bind h
   obtain ⟨y9, hy10, h⟩ := h
   refine ⟨{ args := [.c (.ptr 5 0), .c (.v (.int .i64 14))], o0 := [(5, .var [.bs (LEN y7.2.gcode) 1 (row GD (encI .u8) y7.2.gcode), .v (.int .i64 y7.2.gat), .v (.int .i64 y7.2.gseed)])], r := .c (.v (.int .i64 y9.1)), o1 := [(5, .var [.bs (LEN y9.2.gcode) 1 (row GD (encI .u8) y9.2.gcode), .v (.int .i64 y9.2.gat), .v (.int .i64 y9.2.gseed)])], fl := false, σ := [(5, 5)], τ := [(5, 5)] }, hf_spec_l01Next_mPbb _ _ _ hy10, ⟨les_cons (lR _) (les_cons (lR _) (les_nil)), ⟨rfl, trivial⟩, rfl, rfl, rfl, rfl, ⟨fun _ => rfl, trivial⟩, rfl⟩, ?_⟩
   cbv
   replace h := of_bind h
   obtain ⟨y11, hy12, h⟩ := h
   refine ⟨{ args := [.c (.ptr 5 0), .c (.v (.int .i64 14))], o0 := [(5, .var [.bs (LEN y9.2.gcode) 1 (row GD (encI .u8) y9.2.gcode), .v (.int .i64 y9.2.gat), .v (.int .i64 y9.2.gseed)])], r := .c (.v (.int .i64 y11.1)), o1 := [(5, .var [.bs (LEN y11.2.gcode) 1 (row GD (encI .u8) y11.2.gcode), .v (.int .i64 y11.2.gat), .v (.int .i64 y11.2.gseed)])], fl := false, σ := [(5, 5)], τ := [(5, 5)] }, hf_spec_l01Next_mPbb _ _ _ hy12, ⟨les_cons (lR _) (les_cons (lR _) (les_nil)), ⟨rfl, trivial⟩, rfl, rfl, rfl, rfl, ⟨fun _ => rfl, trivial⟩, rfl⟩, ?_⟩
   cbv
   injection h with h
   subst h
   refine ⟨(sparse 33 [(2, .c (.ptr 128 0))] [(128, .var [.v (.int .i64 (A.sub .i64 y5.1 20)), .v (.int .i64 (A.sub .i64 y7.1 20)), .v (.int .i64 (A.add .i64 (A.add .i64 (A.sub .i64 y5.1 20) 1) y9.1)), .v (.int .i64 (A.add .i64 (A.add .i64 (A.sub .i64 y7.1 20) 1) y11.1))]), (5, .var [.bs (LEN y11.2.gcode) 1 (row GD (encI .u8) y11.2.gcode), .v (.int .i64 y11.2.gat), .v (.int .i64 y11.2.gseed)])]), ?_, ?_⟩
   ·exact le_sparse rfl ⟨lR _, trivial⟩ ⟨rfl, rfl, trivial⟩ rfl
   ·exact ⟨lR _, ⟨rfl, trivial⟩, rfl⟩

/-- spec.DrawInstancesTouching -/
noncomputable def F_spec_DrawInstancesTouching (a0 : List Int) : Option (TLibrary × Int × TRect) :=
 (F_spec_l01From a0).bind fun y1 =>
 (F_spec_l12DrawTop_mPb y1).bind fun y3 =>
 (F_spec_l12DrawWindow_mPb y3.2.2).bind fun y5 =>
 some (y3.1, y3.2.1, y5.1)
theorem run_spec_DrawInstancesTouching (a0 : List Int) (r : TLibrary × Int × TRect) (h : F_spec_DrawInstancesTouching a0 = some r) : Fun Try.prog 48 [.c (.bs (len a0) 1 (row gd (encI .u8) a0))] [] (.tup [.agg [.os 64000 0 (len r.1.fCells)], .c (.v (.int .i64 r.2.1)), .agg [.v (.int .i64 r.2.2.fX0), .v (.int .i64 r.2.2.fY0), .v (.int .i64 r.2.2.fX1), .v (.int .i64 r.2.2.fY1)]]) [(64000, .arr .rw [] (len r.1.fCells) 4 (row gd (oncCell len gd) r.1.fCells))] true := by
 refine Fun.of_wp (oneOf []) tok mixed Try.func48 (by kernel_rfl) rfl Try.ntmps48 rfl trivial (fun _ => ⟨(by simp [AV.flat, AV.flat1, AC.flat]), ⟨fun i _ j _ => fl_oncCell _ _, trivial⟩⟩) ?_
 unfold F_spec_DrawInstancesTouching at h
 have hf_spec_l01From := @run_spec_l01From
 have hf_spec_l12DrawTop_mPb := @run_spec_l12DrawTop_mPb
 have hf_spec_l12DrawWindow_mPb := @run_spec_l12DrawWindow_mPb
 generalize hLEN : @len = LEN at *
 generalize hGD : @gd = GD at *
 generalize hA : std = A at *
 generalize hP : Try.prog = P at *
 cbv
 replace h := of_bind h
 obtain ⟨y1, hy2, h⟩ := h
 refine ⟨{ args := [.c (.bs (LEN a0) 1 (row GD (encI .u8) a0))], o0 := [], r := .c (.ptr 64000 0), o1 := [(64000, .var [.bs (LEN y1.gcode) 1 (row GD (encI .u8) y1.gcode), .v (.int .i64 y1.gat), .v (.int .i64 y1.gseed)])], fl := false, σ := [], τ := [(64000, 576)] }, hf_spec_l01From _ _ hy2, ⟨les_cons (lR _) (les_nil), trivial, rfl, rfl, rfl, rfl, ⟨fun h => absurd (show (64000 : Nat) % 2 = 1 from h) (by decide), trivial⟩, rfl⟩, ?_⟩
 cbv
 replace h := of_bind h
 obtain ⟨y3, hy4, h⟩ := h
 refine ⟨{ args := [.c (.ptr 5 0)], o0 := [(5, .var [.bs (LEN y1.gcode) 1 (row GD (encI .u8) y1.gcode), .v (.int .i64 y1.gat), .v (.int .i64 y1.gseed)])], r := .tup [.agg [.os 64000 0 (LEN y3.1.fCells)], .c (.v (.int .i64 y3.2.1))], o1 := [(64000, .arr .rw [] (LEN y3.1.fCells) 4 (row GD (oncCell LEN GD) y3.1.fCells)), (5, .var [.bs (LEN y3.2.2.gcode) 1 (row GD (encI .u8) y3.2.2.gcode), .v (.int .i64 y3.2.2.gat), .v (.int .i64 y3.2.2.gseed)])], fl := false, σ := [(5, 576)], τ := [(64000, 768), (5, 576)] }, hf_spec_l12DrawTop_mPb _ _ hy4, ⟨les_cons (lR _) (les_nil), ⟨rfl, trivial⟩, rfl, rfl, rfl, rfl, ⟨fun h => absurd (show (64000 : Nat) % 2 = 1 from h) (by decide), fun _ => rfl, trivial⟩, rfl⟩, _, rfl, _, _, rfl, fun _ _ _ _ => rfl, ?_⟩
 cbv
 replace h := of_bind h
 obtain ⟨y5, hy6, h⟩ := h
 refine ⟨{ args := [.c (.ptr 5 0)], o0 := [(5, .var [.bs (LEN y3.2.2.gcode) 1 (row GD (encI .u8) y3.2.2.gcode), .v (.int .i64 y3.2.2.gat), .v (.int .i64 y3.2.2.gseed)])], r := .agg [.v (.int .i64 y5.1.fX0), .v (.int .i64 y5.1.fY0), .v (.int .i64 y5.1.fX1), .v (.int .i64 y5.1.fY1)], o1 := [(5, .var [.bs (LEN y5.2.gcode) 1 (row GD (encI .u8) y5.2.gcode), .v (.int .i64 y5.2.gat), .v (.int .i64 y5.2.gseed)])], fl := false, σ := [(5, 576)], τ := [(5, 576)] }, hf_spec_l12DrawWindow_mPb _ _ hy6, ⟨les_cons (lR _) (les_nil), ⟨rfl, trivial⟩, rfl, rfl, rfl, rfl, ⟨fun _ => rfl, trivial⟩, rfl⟩, ?_⟩
 cbv
 injection h with h
 subst h
 refine ⟨(sparse 19 [(2, .c (.ptr 128 0)), (3, .c (.v (.int .i64 y3.2.1))), (4, .c (.ptr 256 0))] [(128, .var [.os 64000 0 (LEN y3.1.fCells)]), (256, .var [.v (.int .i64 y5.1.fX0), .v (.int .i64 y5.1.fY0), .v (.int .i64 y5.1.fX1), .v (.int .i64 y5.1.fY1)]), (64000, .arr .rw [] (LEN y3.1.fCells) 4 (row GD (oncCell LEN GD) y3.1.fCells))]), ?_, ?_⟩
 ·refine St.le_trans (le_ren 768 64000 (by decide) rfl) ?_
  exact le_sparse rfl ⟨lR _, lR _, lR _, trivial⟩ ⟨rfl, rfl, oS, trivial⟩ rfl
 ·exact ⟨lR _, ⟨oS, trivial⟩, rfl⟩

/-- spec.DrawVisitedCount -/
noncomputable def F_spec_DrawVisitedCount (a0 : List Int) : Option (TLibrary × Int × TRect) :=
 (F_spec_DrawInstancesTouching a0).bind fun y1 =>
 some (y1.1, y1.2.1, y1.2.2)
theorem run_spec_DrawVisitedCount (a0 : List Int) (r : TLibrary × Int × TRect) (h : F_spec_DrawVisitedCount a0 = some r) : Fun Try.prog 13 [.c (.bs (len a0) 1 (row gd (encI .u8) a0))] [] (.tup [.agg [.os 64000 0 (len r.1.fCells)], .c (.v (.int .i64 r.2.1)), .agg [.v (.int .i64 r.2.2.fX0), .v (.int .i64 r.2.2.fY0), .v (.int .i64 r.2.2.fX1), .v (.int .i64 r.2.2.fY1)]]) [(64000, .arr .rw [] (len r.1.fCells) 4 (row gd (oncCell len gd) r.1.fCells))] true := by
 refine Fun.of_wp (oneOf []) tok mixed Try.func13 (by kernel_rfl) rfl Try.ntmps13 rfl trivial (fun _ => ⟨(by simp [AV.flat, AV.flat1, AC.flat]), ⟨fun i _ j _ => fl_oncCell _ _, trivial⟩⟩) ?_
 unfold F_spec_DrawVisitedCount at h
 have hf_spec_DrawInstancesTouching := @run_spec_DrawInstancesTouching
 generalize hLEN : @len = LEN at *
 generalize hGD : @gd = GD at *
 generalize hA : std = A at *
 generalize hP : Try.prog = P at *
 cbv
 replace h := of_bind h
 obtain ⟨y1, hy2, h⟩ := h
 refine ⟨{ args := [.c (.bs (LEN a0) 1 (row GD (encI .u8) a0))], o0 := [], r := .tup [.agg [.os 64000 0 (LEN y1.1.fCells)], .c (.v (.int .i64 y1.2.1)), .agg [.v (.int .i64 y1.2.2.fX0), .v (.int .i64 y1.2.2.fY0), .v (.int .i64 y1.2.2.fX1), .v (.int .i64 y1.2.2.fY1)]], o1 := [(64000, .arr .rw [] (LEN y1.1.fCells) 4 (row GD (oncCell LEN GD) y1.1.fCells))], fl := true, σ := [], τ := [(64000, 384)] }, hf_spec_DrawInstancesTouching _ _ hy2, ⟨les_cons (lR _) (les_nil), trivial, rfl, rfl, rfl, rfl, ⟨fun h => absurd (show (64000 : Nat) % 2 = 1 from h) (by decide), trivial⟩, rfl⟩, _, rfl, _, _, rfl, fun _ _ _ _ => rfl, ?_⟩
 cbv
 injection h with h
 subst h
 refine ⟨(sparse 10 [(2, .c (.ptr 128 0)), (3, .c (.v (.int .i64 y1.2.1))), (4, .c (.ptr 256 0))] [(128, .var [.os 64000 0 (LEN y1.1.fCells)]), (256, .var [.v (.int .i64 y1.2.2.fX0), .v (.int .i64 y1.2.2.fY0), .v (.int .i64 y1.2.2.fX1), .v (.int .i64 y1.2.2.fY1)]), (64000, .arr .rw [] (LEN y1.1.fCells) 4 (row GD (oncCell LEN GD) y1.1.fCells))]), ?_, ?_⟩
 ·refine St.le_trans (le_ren 384 64000 (by decide) rfl) ?_
  exact le_sparse rfl ⟨lR _, lR _, lR _, trivial⟩ ⟨rfl, rfl, oS, trivial⟩ rfl
 ·exact ⟨lR _, ⟨oS, trivial⟩, rfl⟩

noncomputable def L_impl_IsName_x2 (a0 : ByteArray) : (Int) → Option ((Int) ⊕ ((Unit) ⊕ (Unit))) := fun x2 =>
 letO x2 fun v1 =>
 br (std.lt v1 (std.ofN (std.slen a0)))
 (((
    req (std.inR v1 (std.slen a0)) <|
    br (std.lt (std.sat a0 (std.toN v1)) 97)
    (req (std.inR v1 (std.slen a0)) <|
    br (std.lt (std.sat a0 (std.toN v1)) 48)
    (some true)
    (req (std.inR v1 (std.slen a0)) <|
    some (std.lt 57 (std.sat a0 (std.toN v1)))))
    (req (std.inR v1 (std.slen a0)) <|
    br (std.lt 122 (std.sat a0 (std.toN v1)))
    (req (std.inR v1 (std.slen a0)) <|
    br (std.lt (std.sat a0 (std.toN v1)) 48)
    (some true)
    (req (std.inR v1 (std.slen a0)) <|
    some (std.lt 57 (std.sat a0 (std.toN v1)))))
    (some false))
  ) : Option (Bool)).bind fun y14 =>
 letO y14 fun w20 =>
 br w20
 (some (.inr (.inl ())))
 (some (.inl (std.add .i64 v1 1))))
 (some (.inr (.inr ())))
/-- impl.IsName -/
noncomputable def F_impl_IsName (a0 : ByteArray) : Option (Bool) :=
 (whileP (σ := Int) (ρ := (Unit) ⊕ (Unit)) (L_impl_IsName_x2 a0) 0).bind fun y3 =>
 (match y3 with
  | .inl y3k0 => (
    some false)
  | .inr y3m0 =>
    ((
       br (std.le 1 (std.ofN (std.slen a0)))
       (some (std.le (std.ofN (std.slen a0)) 8))
       (some false)
     ) : Option (Bool)).bind fun y33 =>
    letO y33 fun w39 =>
    some w39)
theorem run_impl_IsName (a0 : ByteArray) (r : Bool) (h : F_impl_IsName a0 = some r) : Fun Try.prog 168 [.c (.v (.string a0))] [] (.c (.v (.bool r))) [] true := by
 refine Fun.of_wp (oneOf [4, 6]) tok mixed Try.func168 (by kernel_rfl) rfl Try.ntmps168 rfl trivial (fun _ => ⟨trivial, trivial⟩) ?_
 unfold F_impl_IsName at h
 unfold L_impl_IsName_x2 at h
 generalize hLEN : @len = LEN at *
 generalize hGD : @gd = GD at *
 generalize hA : std = A at *
 generalize hP : Try.prog = P at *
 cbv
 replace h := of_bind h
 obtain ⟨y3, hr4, hN5⟩ := h
 refine loop_cut hr4 (fun x => (sparse 40 [(0, .c (.v (.string a0))), (3, .c (.v (.int .i64 x)))] [])) ?_ (fun y e s => (match y with | .inl w => e = .ret ∧ s.le (sparse 40 [(2, .c (.v (.bool false)))] []) | .inr w0 => (fun (w : Unit) => e = .exit 0 ∧ s.le (sparse 40 [(0, .c (.v (.string a0)))] [])) w0)) ?_ ?_
 ·clear hr4 hN5
  show St.le _ _
  exact le_sparse rfl ⟨lR _, lR _, trivial⟩ trivial rfl
 ·clear hr4 hN5
  intro x z9 h K7 hK8 hY6
  replace h := of_let h
  obtain ⟨v1, hv1, h⟩ := h
  have hv1 : v1 = x := hv1
  subst hv1
  cbv
  refine fork (fun b32 => ?_) (fun b32 => ?_)
  ·replace h := of_br_t b32 h
   cbv
   replace h := of_bind h
   obtain ⟨y14, hy15, h⟩ := h
   obtain ⟨S18, hS19⟩ : ∃ S, S = (sparse 40 [(0, .c (.v (.string a0))), (3, .c (.v (.int .i64 v1))), (31, .c (.v (.bool y14)))] []) := ⟨_, rfl⟩
   refine ⟨S18, ?_, ?_⟩
   ·clear h
    have h := hy15
    clear hy15
    cbv
    replace h := of_req h
    obtain ⟨c21, h⟩ := h
    refine ⟨c21, ?_⟩
    refine fork (fun b30 => ?_) (fun b30 => ?_)
    ·replace h := of_br_t b30 h
     cbv
     replace h := of_req h
     obtain ⟨c27, h⟩ := h
     refine ⟨c27, ?_⟩
     refine fork (fun b29 => ?_) (fun b29 => ?_)
     ·replace h := of_br_t b29 h
      cbv
      injection h with h
      subst h
      subst hS19
      show St.le _ _
      exact le_sparse rfl ⟨lR _, lR _, lR _, trivial⟩ trivial rfl
     ·replace h := of_br_f b29 h
      cbv
      replace h := of_req h
      obtain ⟨c28, h⟩ := h
      refine ⟨c28, ?_⟩
      injection h with h
      subst h
      subst hS19
      show St.le _ _
      exact le_sparse rfl ⟨lR _, lR _, lR _, trivial⟩ trivial rfl
    ·replace h := of_br_f b30 h
     cbv
     replace h := of_req h
     obtain ⟨c22, h⟩ := h
     refine ⟨c22, ?_⟩
     refine fork (fun b26 => ?_) (fun b26 => ?_)
     ·replace h := of_br_t b26 h
      cbv
      replace h := of_req h
      obtain ⟨c23, h⟩ := h
      refine ⟨c23, ?_⟩
      refine fork (fun b25 => ?_) (fun b25 => ?_)
      ·replace h := of_br_t b25 h
       cbv
       injection h with h
       subst h
       subst hS19
       show St.le _ _
       exact le_sparse rfl ⟨lR _, lR _, lR _, trivial⟩ trivial rfl
      ·replace h := of_br_f b25 h
       cbv
       replace h := of_req h
       obtain ⟨c24, h⟩ := h
       refine ⟨c24, ?_⟩
       injection h with h
       subst h
       subst hS19
       show St.le _ _
       exact le_sparse rfl ⟨lR _, lR _, lR _, trivial⟩ trivial rfl
     ·replace h := of_br_f b26 h
      cbv
      injection h with h
      subst h
      subst hS19
      show St.le _ _
      exact le_sparse rfl ⟨lR _, lR _, lR _, trivial⟩ trivial rfl
   ·clear hy15
    subst hS19
    replace h := of_let h
    obtain ⟨w20, hw20, h⟩ := h
    have hw20 : w20 = y14 := hw20
    subst hw20
    cbv
    refine fork (fun b31 => ?_) (fun b31 => ?_)
    ·replace h := of_br_t b31 h
     cbv
     injection h with h
     refine hY6 _ h.symm _ _ (And.intro rfl ?_) (by intro hh; cases hh)
     exact le_sparse rfl ⟨lR _, trivial⟩ trivial rfl
    ·replace h := of_br_f b31 h
     cbv
     injection h with h
     refine hK8 _ h.symm _ ?_
     exact le_sparse rfl ⟨lR _, lR _, trivial⟩ trivial rfl
  ·replace h := of_br_f b32 h
   cbv
   injection h with h
   refine hY6 _ h.symm _ _ (And.intro rfl ?_) (by intro hh; cases hh)
   exact le_sparse rfl ⟨lR _, trivial⟩ trivial rfl
 ·clear hr4
  have h := hN5
  clear hN5
  intro e12 s13 q11 hne
  rcases y3 with y3k0 | y3m0
  ·replace h := h
   obtain ⟨rfl, q11⟩ := q11
   cbv
   injection h with h
   subst h
   refine ⟨(sparse 40 [(2, .c (.v (.bool false)))] []), ?_, ?_⟩
   ·refine St.le_trans q11 ?_
    exact le_sparse rfl ⟨lR _, trivial⟩ trivial rfl
   ·exact ⟨lR _, trivial, rfl⟩
  ·obtain ⟨rfl, q11⟩ := q11
   cbv
   refine ⟨_, q11, ?_⟩
   cbv
   replace h := of_bind h
   obtain ⟨y33, hy34, h⟩ := h
   obtain ⟨S37, hS38⟩ : ∃ S, S = (sparse 40 [(2, .c (.v (.bool y33)))] []) := ⟨_, rfl⟩
   refine ⟨S37, ?_, ?_⟩
   ·clear h
    have h := hy34
    clear hy34
    cbv
    refine fork (fun b40 => ?_) (fun b40 => ?_)
    ·replace h := of_br_t b40 h
     cbv
     injection h with h
     subst h
     subst hS38
     show St.le _ _
     exact le_sparse rfl ⟨lR _, trivial⟩ trivial rfl
    ·replace h := of_br_f b40 h
     cbv
     injection h with h
     subst h
     subst hS38
     show St.le _ _
     exact le_sparse rfl ⟨lR _, trivial⟩ trivial rfl
   ·clear hy34
    subst hS38
    replace h := of_let h
    obtain ⟨w39, hw39, h⟩ := h
    have hw39 : w39 = y33 := hw39
    subst hw39
    cbv
    injection h with h
    subst h
    refine ⟨(sparse 40 [(2, .c (.v (.bool w39)))] []), ?_, ?_⟩
    ·exact le_sparse rfl ⟨lR _, trivial⟩ trivial rfl
    ·exact ⟨lR _, trivial, rfl⟩

/-- impl.within -/
noncomputable def F_impl_within (a0 : Int) (a1 : Int) (a2 : Int) : Option (Bool) :=
 ((
    br (std.le a1 a0)
    (some (std.le a0 a2))
    (some false)
  ) : Option (Bool)).bind fun y1 =>
 letO y1 fun w7 =>
 some w7
theorem run_impl_within (a0 : Int) (a1 : Int) (a2 : Int) (r : Bool) (h : F_impl_within a0 a1 a2 = some r) : Fun Try.prog 61 [.c (.v (.int .i64 a0)), .c (.v (.int .i64 a1)), .c (.v (.int .i64 a2))] [] (.c (.v (.bool r))) [] true := by
 refine Fun.of_wp (oneOf [1]) tok mixed Try.func61 (by kernel_rfl) rfl Try.ntmps61 rfl trivial (fun _ => ⟨trivial, trivial⟩) ?_
 unfold F_impl_within at h
 generalize hLEN : @len = LEN at *
 generalize hGD : @gd = GD at *
 generalize hA : std = A at *
 generalize hP : Try.prog = P at *
 cbv
 replace h := of_bind h
 obtain ⟨y1, hy2, h⟩ := h
 obtain ⟨S5, hS6⟩ : ∃ S, S = (sparse 15 [(6, .c (.v (.bool y1)))] []) := ⟨_, rfl⟩
 refine ⟨S5, ?_, ?_⟩
 ·clear h
  have h := hy2
  clear hy2
  cbv
  refine fork (fun b8 => ?_) (fun b8 => ?_)
  ·replace h := of_br_t b8 h
   cbv
   injection h with h
   subst h
   subst hS6
   show St.le _ _
   exact le_sparse rfl ⟨lR _, trivial⟩ trivial rfl
  ·replace h := of_br_f b8 h
   cbv
   injection h with h
   subst h
   subst hS6
   show St.le _ _
   exact le_sparse rfl ⟨lR _, trivial⟩ trivial rfl
 ·clear hy2
  subst hS6
  replace h := of_let h
  obtain ⟨w7, hw7, h⟩ := h
  have hw7 : w7 = y1 := hw7
  subst hw7
  cbv
  injection h with h
  subst h
  refine ⟨(sparse 15 [(6, .c (.v (.bool w7)))] []), ?_, ?_⟩
  ·exact le_sparse rfl ⟨lR _, trivial⟩ trivial rfl
  ·exact ⟨lR _, trivial, rfl⟩

/-- impl.IsValidRect -/
noncomputable def F_impl_IsValidRect (a0 : TRect) : Option (Bool) :=
 ((
    br (std.le (-40) a0.fX0)
    (br (std.lt a0.fX0 a0.fX1)
    (br (std.le a0.fX1 40)
    (br (std.le (-40) a0.fY0)
    (br (std.lt a0.fY0 a0.fY1)
    (some (std.le a0.fY1 40))
    (some false))
    (some false))
    (some false))
    (some false))
    (some false)
  ) : Option (Bool)).bind fun y1 =>
 letO y1 fun w7 =>
 some w7
theorem run_impl_IsValidRect (a0 : TRect) (r : Bool) (h : F_impl_IsValidRect a0 = some r) : Fun Try.prog 50 [.agg [.v (.int .i64 a0.fX0), .v (.int .i64 a0.fY0), .v (.int .i64 a0.fX1), .v (.int .i64 a0.fY1)]] [] (.c (.v (.bool r))) [] true := by
 refine Fun.of_wp (oneOf [1]) tok mixed Try.func50 (by kernel_rfl) rfl Try.ntmps50 rfl trivial (fun _ => ⟨trivial, trivial⟩) ?_
 unfold F_impl_IsValidRect at h
 generalize hLEN : @len = LEN at *
 generalize hGD : @gd = GD at *
 generalize hA : std = A at *
 generalize hP : Try.prog = P at *
 cbv
 replace h := of_bind h
 obtain ⟨y1, hy2, h⟩ := h
 obtain ⟨S5, hS6⟩ : ∃ S, S = (sparse 35 [(2, .c (.v (.bool y1)))] []) := ⟨_, rfl⟩
 refine ⟨S5, ?_, ?_⟩
 ·clear h
  have h := hy2
  clear hy2
  cbv
  refine fork (fun b12 => ?_) (fun b12 => ?_)
  ·replace h := of_br_t b12 h
   cbv
   refine fork (fun b11 => ?_) (fun b11 => ?_)
   ·replace h := of_br_t b11 h
    cbv
    refine fork (fun b10 => ?_) (fun b10 => ?_)
    ·replace h := of_br_t b10 h
     cbv
     refine fork (fun b9 => ?_) (fun b9 => ?_)
     ·replace h := of_br_t b9 h
      cbv
      refine fork (fun b8 => ?_) (fun b8 => ?_)
      ·replace h := of_br_t b8 h
       cbv
       injection h with h
       subst h
       subst hS6
       show St.le _ _
       exact le_sparse rfl ⟨lR _, trivial⟩ trivial rfl
      ·replace h := of_br_f b8 h
       cbv
       injection h with h
       subst h
       subst hS6
       show St.le _ _
       exact le_sparse rfl ⟨lR _, trivial⟩ trivial rfl
     ·replace h := of_br_f b9 h
      cbv
      injection h with h
      subst h
      subst hS6
      show St.le _ _
      exact le_sparse rfl ⟨lR _, trivial⟩ trivial rfl
    ·replace h := of_br_f b10 h
     cbv
     injection h with h
     subst h
     subst hS6
     show St.le _ _
     exact le_sparse rfl ⟨lR _, trivial⟩ trivial rfl
   ·replace h := of_br_f b11 h
    cbv
    injection h with h
    subst h
    subst hS6
    show St.le _ _
    exact le_sparse rfl ⟨lR _, trivial⟩ trivial rfl
  ·replace h := of_br_f b12 h
   cbv
   injection h with h
   subst h
   subst hS6
   show St.le _ _
   exact le_sparse rfl ⟨lR _, trivial⟩ trivial rfl
 ·clear hy2
  subst hS6
  replace h := of_let h
  obtain ⟨w7, hw7, h⟩ := h
  have hw7 : w7 = y1 := hw7
  subst hw7
  cbv
  injection h with h
  subst h
  refine ⟨(sparse 35 [(2, .c (.v (.bool w7)))] []), ?_, ?_⟩
  ·exact le_sparse rfl ⟨lR _, trivial⟩ trivial rfl
  ·exact ⟨lR _, trivial, rfl⟩
/-- impl.validShape -/
noncomputable def F_impl_validShape (a0 : TShape) : Option (Bool) :=
 ((
    (F_impl_within a0.fLayer 0 7).bind fun y8 =>
    br y8
    ((F_impl_IsValidRect a0.fBox).bind fun y10 =>
    some y10)
    (some false)
  ) : Option (Bool)).bind fun y1 =>
 letO y1 fun w7 =>
 some w7
theorem run_impl_validShape (a0 : TShape) (r : Bool) (h : F_impl_validShape a0 = some r) : Fun Try.prog 165 [.agg [.v (.int .i64 a0.fLayer), .v (.int .i64 a0.fBox.fX0), .v (.int .i64 a0.fBox.fY0), .v (.int .i64 a0.fBox.fX1), .v (.int .i64 a0.fBox.fY1)]] [] (.c (.v (.bool r))) [] true := by
 refine Fun.of_wp (oneOf [1]) tok mixed Try.func165 (by kernel_rfl) rfl Try.ntmps165 rfl trivial (fun _ => ⟨trivial, trivial⟩) ?_
 unfold F_impl_validShape at h
 have hf_impl_IsValidRect := @run_impl_IsValidRect
 have hf_impl_within := @run_impl_within
 generalize hLEN : @len = LEN at *
 generalize hGD : @gd = GD at *
 generalize hA : std = A at *
 generalize hP : Try.prog = P at *
 cbv
 replace h := of_bind h
 obtain ⟨y1, hy2, h⟩ := h
 obtain ⟨S5, hS6⟩ : ∃ S, S = (sparse 11 [(2, .c (.v (.bool y1)))] []) := ⟨_, rfl⟩
 refine ⟨S5, ?_, ?_⟩
 ·clear h
  have h := hy2
  clear hy2
  cbv
  replace h := of_bind h
  obtain ⟨y8, hy9, h⟩ := h
  refine ⟨{ args := [.c (.v (.int .i64 a0.fLayer)), .c (.v (.int .i64 0)), .c (.v (.int .i64 7))], o0 := [], r := .c (.v (.bool y8)), o1 := [], fl := true, σ := [], τ := [] }, hf_impl_within _ _ _ _ hy9, ⟨les_cons (lR _) (les_cons (lR _) (les_cons (lR _) (les_nil))), trivial, rfl, rfl, rfl, rfl, trivial, rfl⟩, ?_⟩
  cbv
  refine fork (fun b12 => ?_) (fun b12 => ?_)
  ·replace h := of_br_t b12 h
   cbv
   replace h := of_bind h
   obtain ⟨y10, hy11, h⟩ := h
   refine ⟨{ args := [.agg [.v (.int .i64 a0.fBox.fX0), .v (.int .i64 a0.fBox.fY0), .v (.int .i64 a0.fBox.fX1), .v (.int .i64 a0.fBox.fY1)]], o0 := [], r := .c (.v (.bool y10)), o1 := [], fl := true, σ := [], τ := [] }, hf_impl_IsValidRect _ _ hy11, ⟨les_cons (lR _) (les_nil), trivial, rfl, rfl, rfl, rfl, trivial, rfl⟩, ?_⟩
   cbv
   injection h with h
   subst h
   subst hS6
   show St.le _ _
   exact le_sparse rfl ⟨lR _, trivial⟩ trivial rfl
  ·replace h := of_br_f b12 h
   cbv
   injection h with h
   subst h
   subst hS6
   show St.le _ _
   exact le_sparse rfl ⟨lR _, trivial⟩ trivial rfl
 ·clear hy2
  subst hS6
  replace h := of_let h
  obtain ⟨w7, hw7, h⟩ := h
  have hw7 : w7 = y1 := hw7
  subst hw7
  cbv
  injection h with h
  subst h
  refine ⟨(sparse 11 [(2, .c (.v (.bool w7)))] []), ?_, ?_⟩
  ·exact le_sparse rfl ⟨lR _, trivial⟩ trivial rfl
  ·exact ⟨lR _, trivial, rfl⟩

/-- impl.validCell$1 -/
noncomputable def F_impl_validCell_1 (a0 : TShape) : Option (Bool) :=
 (F_impl_validShape (TShape.mk a0.fLayer a0.fBox)).bind fun y1 =>
 some (!(y1))
theorem run_impl_validCell_1 (a0 : TShape) (r : Bool) (h : F_impl_validCell_1 a0 = some r) : Fun Try.prog 193 [.agg [.v (.int .i64 a0.fLayer), .v (.int .i64 a0.fBox.fX0), .v (.int .i64 a0.fBox.fY0), .v (.int .i64 a0.fBox.fX1), .v (.int .i64 a0.fBox.fY1)]] [] (.c (.v (.bool r))) [] true := by
 refine Fun.of_wp (oneOf []) tok mixed Try.func193 (by kernel_rfl) rfl Try.ntmps193 rfl trivial (fun _ => ⟨trivial, trivial⟩) ?_
 unfold F_impl_validCell_1 at h
 have hf_impl_validShape := @run_impl_validShape
 generalize hLEN : @len = LEN at *
 generalize hGD : @gd = GD at *
 generalize hA : std = A at *
 generalize hP : Try.prog = P at *
 cbv
 replace h := of_bind h
 obtain ⟨y1, hy2, h⟩ := h
 refine ⟨{ args := [.agg [.v (.int .i64 a0.fLayer), .v (.int .i64 a0.fBox.fX0), .v (.int .i64 a0.fBox.fY0), .v (.int .i64 a0.fBox.fX1), .v (.int .i64 a0.fBox.fY1)]], o0 := [], r := .c (.v (.bool y1)), o1 := [], fl := true, σ := [], τ := [] }, hf_impl_validShape _ _ hy2, ⟨les_cons (lR _) (les_nil), trivial, rfl, rfl, rfl, rfl, trivial, rfl⟩, ?_⟩
 cbv
 injection h with h
 subst h
 refine ⟨(sparse 6 [(2, .c (.v (.bool (!(y1)))))] []), ?_, ?_⟩
 ·exact le_sparse rfl ⟨lR _, trivial⟩ trivial rfl
 ·exact ⟨lR _, trivial, rfl⟩

noncomputable def L_slices_IndexFunc_Limpl_Shape_impl_Shape_mbFimpl_validCell_1_x2 (a0 : List TShape) : (Int) → Option ((Int) ⊕ ((Int) ⊕ (Unit))) := fun x2 =>
 letO x2 fun v1 =>
 br (std.lt v1 (std.ofN (len a0)))
 (req (std.inR v1 (len a0)) <|
 (F_impl_validCell_1 (gd a0 (std.toN v1))).bind fun y15 =>
 br y15
 (some (.inr (.inl v1)))
 (some (.inl (std.add .i64 v1 1))))
 (some (.inr (.inr ())))
/-- impl.Shape] -/
noncomputable def F_slices_IndexFunc_Limpl_Shape_impl_Shape_mbFimpl_validCell_1 (a0 : List TShape) : Option (Int) :=
 (whileP (σ := Int) (ρ := (Int) ⊕ (Unit)) (L_slices_IndexFunc_Limpl_Shape_impl_Shape_mbFimpl_validCell_1_x2 a0) 0).bind fun y3 =>
 (match y3 with
  | .inl y3k0 => (
    letO y3k0 fun w19 =>
    some w19)
  | .inr y3m0 =>
    some (-1))
theorem run_slices_IndexFunc_Limpl_Shape_impl_Shape_mbFimpl_validCell_1 (a0 : List TShape) (r : Int) (h : F_slices_IndexFunc_Limpl_Shape_impl_Shape_mbFimpl_validCell_1 a0 = some r) : Fun Try.prog 218 [.c (.bs (len a0) 5 (row gd (encShape) a0)), .c (.fn 193 0 fun _ => .junk)] [] (.c (.v (.int .i64 r))) [] true := by
 refine Fun.of_wp (oneOf []) tok mixed Try.func218 (by kernel_rfl) rfl Try.ntmps218 rfl trivial (fun _ => ⟨trivial, trivial⟩) ?_
 unfold F_slices_IndexFunc_Limpl_Shape_impl_Shape_mbFimpl_validCell_1 at h
 unfold L_slices_IndexFunc_Limpl_Shape_impl_Shape_mbFimpl_validCell_1_x2 at h
 have hf_impl_validCell_1 := @run_impl_validCell_1
 generalize hLEN : @len = LEN at *
 generalize hGD : @gd = GD at *
 generalize hA : std = A at *
 generalize hP : Try.prog = P at *
 cbv
 replace h := of_bind h
 obtain ⟨y3, hr4, hN5⟩ := h
 refine loop_cut hr4 (fun x => (sparse 19 [(0, .c (.bs (LEN a0) 5 (row GD (encShape) a0))), (1, .c (.fn 193 0 fun _ => .junk)), (7, .c (.v (.int .i64 (A.ofN (LEN a0))))), (8, .c (.v (.int .i64 x)))] [])) ?_ (fun y e s => (match y with | .inl w => e = .ret ∧ s.le (sparse 19 [(4, .c (.v (.int .i64 w)))] []) | .inr w0 => (fun (w : Unit) => e = .exit 0 ∧ s.le (sparse 19 [] [])) w0)) ?_ ?_
 ·clear hr4 hN5
  show St.le _ _
  exact le_sparse rfl ⟨lR _, lR _, lR _, lR _, trivial⟩ trivial rfl
 ·clear hr4 hN5
  intro x z9 h K7 hK8 hY6
  replace h := of_let h
  obtain ⟨v1, hv1, h⟩ := h
  have hv1 : v1 = x := hv1
  subst hv1
  cbv
  refine fork (fun b18 => ?_) (fun b18 => ?_)
  ·replace h := of_br_t b18 h
   cbv
   replace h := of_req h
   obtain ⟨c14, h⟩ := h
   refine ⟨⟨c14, trivial⟩, ?_⟩
   replace h := of_bind h
   obtain ⟨y15, hy16, h⟩ := h
   refine ⟨{ args := [.agg [.v (.int .i64 (GD a0 (A.toN v1)).fLayer), .v (.int .i64 (GD a0 (A.toN v1)).fBox.fX0), .v (.int .i64 (GD a0 (A.toN v1)).fBox.fY0), .v (.int .i64 (GD a0 (A.toN v1)).fBox.fX1), .v (.int .i64 (GD a0 (A.toN v1)).fBox.fY1)]], o0 := [], r := .c (.v (.bool y15)), o1 := [], fl := true, σ := [], τ := [] }, hf_impl_validCell_1 _ _ hy16, ⟨les_cons (lR _) (les_nil), trivial, rfl, rfl, rfl, rfl, trivial, rfl⟩, ?_⟩
   cbv
   refine fork (fun b17 => ?_) (fun b17 => ?_)
   ·replace h := of_br_t b17 h
    cbv
    injection h with h
    refine hY6 _ h.symm _ _ (And.intro rfl ?_) (by intro hh; cases hh)
    exact le_sparse rfl ⟨lR _, trivial⟩ trivial rfl
   ·replace h := of_br_f b17 h
    cbv
    injection h with h
    refine hK8 _ h.symm _ ?_
    exact le_sparse rfl ⟨lR _, lR _, lR _, lR _, trivial⟩ trivial rfl
  ·replace h := of_br_f b18 h
   cbv
   injection h with h
   refine hY6 _ h.symm _ _ (And.intro rfl ?_) (by intro hh; cases hh)
   exact le_sparse rfl trivial trivial rfl
 ·clear hr4
  have h := hN5
  clear hN5
  intro e12 s13 q11 hne
  rcases y3 with y3k0 | y3m0
  ·replace h := h
   obtain ⟨rfl, q11⟩ := q11
   replace h := of_let h
   obtain ⟨w19, hw19, h⟩ := h
   have hw19 : w19 = y3k0 := hw19
   subst hw19
   cbv
   injection h with h
   subst h
   refine ⟨(sparse 19 [(4, .c (.v (.int .i64 w19)))] []), ?_, ?_⟩
   ·refine St.le_trans q11 ?_
    exact le_sparse rfl ⟨lR _, trivial⟩ trivial rfl
   ·exact ⟨lR _, trivial, rfl⟩
  ·obtain ⟨rfl, q11⟩ := q11
   cbv
   refine ⟨_, q11, ?_⟩
   cbv
   injection h with h
   subst h
   refine ⟨(sparse 19 [(4, .c (.v (.int .i64 (-1))))] []), ?_, ?_⟩
   ·exact le_sparse rfl ⟨lR _, trivial⟩ trivial rfl
   ·exact ⟨lR _, trivial, rfl⟩

/-- impl.Shape] -/
noncomputable def F_slices_ContainsFunc_Limpl_Shape_impl_Shape_mbFimpl_validCell_1 (a0 : List TShape) : Option (Bool) :=
 (F_slices_IndexFunc_Limpl_Shape_impl_Shape_mbFimpl_validCell_1 a0).bind fun y1 =>
 some (std.le 0 y1)
theorem run_slices_ContainsFunc_Limpl_Shape_impl_Shape_mbFimpl_validCell_1 (a0 : List TShape) (r : Bool) (h : F_slices_ContainsFunc_Limpl_Shape_impl_Shape_mbFimpl_validCell_1 a0 = some r) : Fun Try.prog 192 [.c (.bs (len a0) 5 (row gd (encShape) a0)), .c (.fn 193 0 fun _ => .junk)] [] (.c (.v (.bool r))) [] true := by
 refine Fun.of_wp (oneOf []) tok mixed Try.func192 (by kernel_rfl) rfl Try.ntmps192 rfl trivial (fun _ => ⟨trivial, trivial⟩) ?_
 unfold F_slices_ContainsFunc_Limpl_Shape_impl_Shape_mbFimpl_validCell_1 at h
 have hf_slices_IndexFunc_Limpl_Shape_impl_Shape_mbFimpl_validCell_1 := @run_slices_IndexFunc_Limpl_Shape_impl_Shape_mbFimpl_validCell_1
 generalize hLEN : @len = LEN at *
 generalize hGD : @gd = GD at *
 generalize hA : std = A at *
 generalize hP : Try.prog = P at *
 cbv
 replace h := of_bind h
 obtain ⟨y1, hy2, h⟩ := h
 refine ⟨{ args := [.c (.bs (LEN a0) 5 (row GD (encShape) a0)), .c (.fn 193 0 fun _ => .junk)], o0 := [], r := .c (.v (.int .i64 y1)), o1 := [], fl := true, σ := [], τ := [] }, hf_slices_IndexFunc_Limpl_Shape_impl_Shape_mbFimpl_validCell_1 _ _ hy2, ⟨les_cons (lR _) (les_cons (lR _) (les_nil)), trivial, rfl, rfl, rfl, rfl, trivial, rfl⟩, ?_⟩
 cbv
 injection h with h
 subst h
 refine ⟨(sparse 9 [(4, .c (.v (.bool (A.le 0 y1))))] []), ?_, ?_⟩
 ·exact le_sparse rfl ⟨lR _, trivial⟩ trivial rfl
 ·exact ⟨lR _, trivial, rfl⟩

/-- impl.isUnitCell -/
noncomputable def F_impl_isUnitCell (a0 : TPoint) : Option (Bool) :=
 ((
    (F_impl_within a0.fX (-40) 39).bind fun y8 =>
    br y8
    ((F_impl_within a0.fY (-40) 39).bind fun y10 =>
    some y10)
    (some false)
  ) : Option (Bool)).bind fun y1 =>
 letO y1 fun w7 =>
 some w7
theorem run_impl_isUnitCell (a0 : TPoint) (r : Bool) (h : F_impl_isUnitCell a0 = some r) : Fun Try.prog 212 [.agg [.v (.int .i64 a0.fX), .v (.int .i64 a0.fY)]] [] (.c (.v (.bool r))) [] true := by
 refine Fun.of_wp (oneOf [1]) tok mixed Try.func212 (by kernel_rfl) rfl Try.ntmps212 rfl trivial (fun _ => ⟨trivial, trivial⟩) ?_
 unfold F_impl_isUnitCell at h
 have hf_impl_within := @run_impl_within
 generalize hLEN : @len = LEN at *
 generalize hGD : @gd = GD at *
 generalize hA : std = A at *
 generalize hP : Try.prog = P at *
 cbv
 replace h := of_bind h
 obtain ⟨y1, hy2, h⟩ := h
 obtain ⟨S5, hS6⟩ : ∃ S, S = (sparse 11 [(2, .c (.v (.bool y1)))] []) := ⟨_, rfl⟩
 refine ⟨S5, ?_, ?_⟩
 ·clear h
  have h := hy2
  clear hy2
  cbv
  replace h := of_bind h
  obtain ⟨y8, hy9, h⟩ := h
  refine ⟨{ args := [.c (.v (.int .i64 a0.fX)), .c (.v (.int .i64 (-40))), .c (.v (.int .i64 39))], o0 := [], r := .c (.v (.bool y8)), o1 := [], fl := true, σ := [], τ := [] }, hf_impl_within _ _ _ _ hy9, ⟨les_cons (lR _) (les_cons (lR _) (les_cons (lR _) (les_nil))), trivial, rfl, rfl, rfl, rfl, trivial, rfl⟩, ?_⟩
  cbv
  refine fork (fun b12 => ?_) (fun b12 => ?_)
  ·replace h := of_br_t b12 h
   cbv
   replace h := of_bind h
   obtain ⟨y10, hy11, h⟩ := h
   refine ⟨{ args := [.c (.v (.int .i64 a0.fY)), .c (.v (.int .i64 (-40))), .c (.v (.int .i64 39))], o0 := [], r := .c (.v (.bool y10)), o1 := [], fl := true, σ := [], τ := [] }, hf_impl_within _ _ _ _ hy11, ⟨les_cons (lR _) (les_cons (lR _) (les_cons (lR _) (les_nil))), trivial, rfl, rfl, rfl, rfl, trivial, rfl⟩, ?_⟩
   cbv
   injection h with h
   subst h
   subst hS6
   show St.le _ _
   exact le_sparse rfl ⟨lR _, trivial⟩ trivial rfl
  ·replace h := of_br_f b12 h
   cbv
   injection h with h
   subst h
   subst hS6
   show St.le _ _
   exact le_sparse rfl ⟨lR _, trivial⟩ trivial rfl
 ·clear hy2
  subst hS6
  replace h := of_let h
  obtain ⟨w7, hw7, h⟩ := h
  have hw7 : w7 = y1 := hw7
  subst hw7
  cbv
  injection h with h
  subst h
  refine ⟨(sparse 11 [(2, .c (.v (.bool w7)))] []), ?_, ?_⟩
  ·exact le_sparse rfl ⟨lR _, trivial⟩ trivial rfl
  ·exact ⟨lR _, trivial, rfl⟩

/-- impl.validLabel -/
noncomputable def F_impl_validLabel (a0 : TLabel) : Option (Bool) :=
 ((
    (F_impl_within a0.fLayer 0 7).bind fun y8 =>
    br y8
    ((F_impl_isUnitCell a0.fAt).bind fun y10 =>
    br y10
    ((F_impl_IsName a0.fName).bind fun y12 =>
    some y12)
    (some false))
    (some false)
  ) : Option (Bool)).bind fun y1 =>
 letO y1 fun w7 =>
 some w7
theorem run_impl_validLabel (a0 : TLabel) (r : Bool) (h : F_impl_validLabel a0 = some r) : Fun Try.prog 166 [.agg [.v (.int .i64 a0.fLayer), .v (.int .i64 a0.fAt.fX), .v (.int .i64 a0.fAt.fY), .v (.string a0.fName)]] [] (.c (.v (.bool r))) [] true := by
 refine Fun.of_wp (oneOf [1]) tok mixed Try.func166 (by kernel_rfl) rfl Try.ntmps166 rfl trivial (fun _ => ⟨trivial, trivial⟩) ?_
 unfold F_impl_validLabel at h
 have hf_impl_IsName := @run_impl_IsName
 have hf_impl_isUnitCell := @run_impl_isUnitCell
 have hf_impl_within := @run_impl_within
 generalize hLEN : @len = LEN at *
 generalize hGD : @gd = GD at *
 generalize hA : std = A at *
 generalize hP : Try.prog = P at *
 cbv
 replace h := of_bind h
 obtain ⟨y1, hy2, h⟩ := h
 obtain ⟨S5, hS6⟩ : ∃ S, S = (sparse 16 [(2, .c (.v (.bool y1)))] []) := ⟨_, rfl⟩
 refine ⟨S5, ?_, ?_⟩
 ·clear h
  have h := hy2
  clear hy2
  cbv
  replace h := of_bind h
  obtain ⟨y8, hy9, h⟩ := h
  refine ⟨{ args := [.c (.v (.int .i64 a0.fLayer)), .c (.v (.int .i64 0)), .c (.v (.int .i64 7))], o0 := [], r := .c (.v (.bool y8)), o1 := [], fl := true, σ := [], τ := [] }, hf_impl_within _ _ _ _ hy9, ⟨les_cons (lR _) (les_cons (lR _) (les_cons (lR _) (les_nil))), trivial, rfl, rfl, rfl, rfl, trivial, rfl⟩, ?_⟩
  cbv
  refine fork (fun b15 => ?_) (fun b15 => ?_)
  ·replace h := of_br_t b15 h
   cbv
   replace h := of_bind h
   obtain ⟨y10, hy11, h⟩ := h
   refine ⟨{ args := [.agg [.v (.int .i64 a0.fAt.fX), .v (.int .i64 a0.fAt.fY)]], o0 := [], r := .c (.v (.bool y10)), o1 := [], fl := true, σ := [], τ := [] }, hf_impl_isUnitCell _ _ hy11, ⟨les_cons (lR _) (les_nil), trivial, rfl, rfl, rfl, rfl, trivial, rfl⟩, ?_⟩
   cbv
   refine fork (fun b14 => ?_) (fun b14 => ?_)
   ·replace h := of_br_t b14 h
    cbv
    replace h := of_bind h
    obtain ⟨y12, hy13, h⟩ := h
    refine ⟨{ args := [.c (.v (.string a0.fName))], o0 := [], r := .c (.v (.bool y12)), o1 := [], fl := true, σ := [], τ := [] }, hf_impl_IsName _ _ hy13, ⟨les_cons (lR _) (les_nil), trivial, rfl, rfl, rfl, rfl, trivial, rfl⟩, ?_⟩
    cbv
    injection h with h
    subst h
    subst hS6
    show St.le _ _
    exact le_sparse rfl ⟨lR _, trivial⟩ trivial rfl
   ·replace h := of_br_f b14 h
    cbv
    injection h with h
    subst h
    subst hS6
    show St.le _ _
    exact le_sparse rfl ⟨lR _, trivial⟩ trivial rfl
  ·replace h := of_br_f b15 h
   cbv
   injection h with h
   subst h
   subst hS6
   show St.le _ _
   exact le_sparse rfl ⟨lR _, trivial⟩ trivial rfl
 ·clear hy2
  subst hS6
  replace h := of_let h
  obtain ⟨w7, hw7, h⟩ := h
  have hw7 : w7 = y1 := hw7
  subst hw7
  cbv
  injection h with h
  subst h
  refine ⟨(sparse 16 [(2, .c (.v (.bool w7)))] []), ?_, ?_⟩
  ·exact le_sparse rfl ⟨lR _, trivial⟩ trivial rfl
  ·exact ⟨lR _, trivial, rfl⟩
/-- impl.validCell$2 -/
noncomputable def F_impl_validCell_2 (a0 : TLabel) : Option (Bool) :=
 (F_impl_validLabel (TLabel.mk a0.fLayer a0.fAt a0.fName)).bind fun y1 =>
 some (!(y1))
theorem run_impl_validCell_2 (a0 : TLabel) (r : Bool) (h : F_impl_validCell_2 a0 = some r) : Fun Try.prog 195 [.agg [.v (.int .i64 a0.fLayer), .v (.int .i64 a0.fAt.fX), .v (.int .i64 a0.fAt.fY), .v (.string a0.fName)]] [] (.c (.v (.bool r))) [] true := by
 refine Fun.of_wp (oneOf []) tok mixed Try.func195 (by kernel_rfl) rfl Try.ntmps195 rfl trivial (fun _ => ⟨trivial, trivial⟩) ?_
 unfold F_impl_validCell_2 at h
 have hf_impl_validLabel := @run_impl_validLabel
 generalize hLEN : @len = LEN at *
 generalize hGD : @gd = GD at *
 generalize hA : std = A at *
 generalize hP : Try.prog = P at *
 cbv
 replace h := of_bind h
 obtain ⟨y1, hy2, h⟩ := h
 refine ⟨{ args := [.agg [.v (.int .i64 a0.fLayer), .v (.int .i64 a0.fAt.fX), .v (.int .i64 a0.fAt.fY), .v (.string a0.fName)]], o0 := [], r := .c (.v (.bool y1)), o1 := [], fl := true, σ := [], τ := [] }, hf_impl_validLabel _ _ hy2, ⟨les_cons (lR _) (les_nil), trivial, rfl, rfl, rfl, rfl, trivial, rfl⟩, ?_⟩
 cbv
 injection h with h
 subst h
 refine ⟨(sparse 6 [(2, .c (.v (.bool (!(y1)))))] []), ?_, ?_⟩
 ·exact le_sparse rfl ⟨lR _, trivial⟩ trivial rfl
 ·exact ⟨lR _, trivial, rfl⟩

noncomputable def L_slices_IndexFunc_Limpl_Label_impl_Label_mbFimpl_validCell_2_x2 (a0 : List TLabel) : (Int) → Option ((Int) ⊕ ((Int) ⊕ (Unit))) := fun x2 =>
 letO x2 fun v1 =>
 br (std.lt v1 (std.ofN (len a0)))
 (req (std.inR v1 (len a0)) <|
 (F_impl_validCell_2 (gd a0 (std.toN v1))).bind fun y15 =>
 br y15
 (some (.inr (.inl v1)))
 (some (.inl (std.add .i64 v1 1))))
 (some (.inr (.inr ())))
/-- impl.Label] -/
noncomputable def F_slices_IndexFunc_Limpl_Label_impl_Label_mbFimpl_validCell_2 (a0 : List TLabel) : Option (Int) :=
 (whileP (σ := Int) (ρ := (Int) ⊕ (Unit)) (L_slices_IndexFunc_Limpl_Label_impl_Label_mbFimpl_validCell_2_x2 a0) 0).bind fun y3 =>
 (match y3 with
  | .inl y3k0 => (
    letO y3k0 fun w19 =>
    some w19)
  | .inr y3m0 =>
    some (-1))
theorem run_slices_IndexFunc_Limpl_Label_impl_Label_mbFimpl_validCell_2 (a0 : List TLabel) (r : Int) (h : F_slices_IndexFunc_Limpl_Label_impl_Label_mbFimpl_validCell_2 a0 = some r) : Fun Try.prog 219 [.c (.bs (len a0) 4 (row gd (encLabel) a0)), .c (.fn 195 0 fun _ => .junk)] [] (.c (.v (.int .i64 r))) [] true := by
 refine Fun.of_wp (oneOf []) tok mixed Try.func219 (by kernel_rfl) rfl Try.ntmps219 rfl trivial (fun _ => ⟨trivial, trivial⟩) ?_
 unfold F_slices_IndexFunc_Limpl_Label_impl_Label_mbFimpl_validCell_2 at h
 unfold L_slices_IndexFunc_Limpl_Label_impl_Label_mbFimpl_validCell_2_x2 at h
 have hf_impl_validCell_2 := @run_impl_validCell_2
 generalize hLEN : @len = LEN at *
 generalize hGD : @gd = GD at *
 generalize hA : std = A at *
 generalize hP : Try.prog = P at *
 cbv
 replace h := of_bind h
 obtain ⟨y3, hr4, hN5⟩ := h
 refine loop_cut hr4 (fun x => (sparse 19 [(0, .c (.bs (LEN a0) 4 (row GD (encLabel) a0))), (1, .c (.fn 195 0 fun _ => .junk)), (7, .c (.v (.int .i64 (A.ofN (LEN a0))))), (8, .c (.v (.int .i64 x)))] [])) ?_ (fun y e s => (match y with | .inl w => e = .ret ∧ s.le (sparse 19 [(4, .c (.v (.int .i64 w)))] []) | .inr w0 => (fun (w : Unit) => e = .exit 0 ∧ s.le (sparse 19 [] [])) w0)) ?_ ?_
 ·clear hr4 hN5
  show St.le _ _
  exact le_sparse rfl ⟨lR _, lR _, lR _, lR _, trivial⟩ trivial rfl
 ·clear hr4 hN5
  intro x z9 h K7 hK8 hY6
  replace h := of_let h
  obtain ⟨v1, hv1, h⟩ := h
  have hv1 : v1 = x := hv1
  subst hv1
  cbv
  refine fork (fun b18 => ?_) (fun b18 => ?_)
  ·replace h := of_br_t b18 h
   cbv
   replace h := of_req h
   obtain ⟨c14, h⟩ := h
   refine ⟨⟨c14, trivial⟩, ?_⟩
   replace h := of_bind h
   obtain ⟨y15, hy16, h⟩ := h
   refine ⟨{ args := [.agg [.v (.int .i64 (GD a0 (A.toN v1)).fLayer), .v (.int .i64 (GD a0 (A.toN v1)).fAt.fX), .v (.int .i64 (GD a0 (A.toN v1)).fAt.fY), .v (.string (GD a0 (A.toN v1)).fName)]], o0 := [], r := .c (.v (.bool y15)), o1 := [], fl := true, σ := [], τ := [] }, hf_impl_validCell_2 _ _ hy16, ⟨les_cons (lR _) (les_nil), trivial, rfl, rfl, rfl, rfl, trivial, rfl⟩, ?_⟩
   cbv
   refine fork (fun b17 => ?_) (fun b17 => ?_)
   ·replace h := of_br_t b17 h
    cbv
    injection h with h
    refine hY6 _ h.symm _ _ (And.intro rfl ?_) (by intro hh; cases hh)
    exact le_sparse rfl ⟨lR _, trivial⟩ trivial rfl
   ·replace h := of_br_f b17 h
    cbv
    injection h with h
    refine hK8 _ h.symm _ ?_
    exact le_sparse rfl ⟨lR _, lR _, lR _, lR _, trivial⟩ trivial rfl
  ·replace h := of_br_f b18 h
   cbv
   injection h with h
   refine hY6 _ h.symm _ _ (And.intro rfl ?_) (by intro hh; cases hh)
   exact le_sparse rfl trivial trivial rfl
 ·clear hr4
  have h := hN5
  clear hN5
  intro e12 s13 q11 hne
  rcases y3 with y3k0 | y3m0
  ·replace h := h
   obtain ⟨rfl, q11⟩ := q11
   replace h := of_let h
   obtain ⟨w19, hw19, h⟩ := h
   have hw19 : w19 = y3k0 := hw19
   subst hw19
   cbv
   injection h with h
   subst h
   refine ⟨(sparse 19 [(4, .c (.v (.int .i64 w19)))] []), ?_, ?_⟩
   ·refine St.le_trans q11 ?_
    exact le_sparse rfl ⟨lR _, trivial⟩ trivial rfl
   ·exact ⟨lR _, trivial, rfl⟩
  ·obtain ⟨rfl, q11⟩ := q11
   cbv
   refine ⟨_, q11, ?_⟩
   cbv
   injection h with h
   subst h
   refine ⟨(sparse 19 [(4, .c (.v (.int .i64 (-1))))] []), ?_, ?_⟩
   ·exact le_sparse rfl ⟨lR _, trivial⟩ trivial rfl
   ·exact ⟨lR _, trivial, rfl⟩

/-- impl.Label] -/
noncomputable def F_slices_ContainsFunc_Limpl_Label_impl_Label_mbFimpl_validCell_2 (a0 : List TLabel) : Option (Bool) :=
 (F_slices_IndexFunc_Limpl_Label_impl_Label_mbFimpl_validCell_2 a0).bind fun y1 =>
 some (std.le 0 y1)
theorem run_slices_ContainsFunc_Limpl_Label_impl_Label_mbFimpl_validCell_2 (a0 : List TLabel) (r : Bool) (h : F_slices_ContainsFunc_Limpl_Label_impl_Label_mbFimpl_validCell_2 a0 = some r) : Fun Try.prog 194 [.c (.bs (len a0) 4 (row gd (encLabel) a0)), .c (.fn 195 0 fun _ => .junk)] [] (.c (.v (.bool r))) [] true := by
 refine Fun.of_wp (oneOf []) tok mixed Try.func194 (by kernel_rfl) rfl Try.ntmps194 rfl trivial (fun _ => ⟨trivial, trivial⟩) ?_
 unfold F_slices_ContainsFunc_Limpl_Label_impl_Label_mbFimpl_validCell_2 at h
 have hf_slices_IndexFunc_Limpl_Label_impl_Label_mbFimpl_validCell_2 := @run_slices_IndexFunc_Limpl_Label_impl_Label_mbFimpl_validCell_2
 generalize hLEN : @len = LEN at *
 generalize hGD : @gd = GD at *
 generalize hA : std = A at *
 generalize hP : Try.prog = P at *
 cbv
 replace h := of_bind h
 obtain ⟨y1, hy2, h⟩ := h
 refine ⟨{ args := [.c (.bs (LEN a0) 4 (row GD (encLabel) a0)), .c (.fn 195 0 fun _ => .junk)], o0 := [], r := .c (.v (.int .i64 y1)), o1 := [], fl := true, σ := [], τ := [] }, hf_slices_IndexFunc_Limpl_Label_impl_Label_mbFimpl_validCell_2 _ _ hy2, ⟨les_cons (lR _) (les_cons (lR _) (les_nil)), trivial, rfl, rfl, rfl, rfl, trivial, rfl⟩, ?_⟩
 cbv
 injection h with h
 subst h
 refine ⟨(sparse 9 [(4, .c (.v (.bool (A.le 0 y1))))] []), ?_, ?_⟩
 ·exact le_sparse rfl ⟨lR _, trivial⟩ trivial rfl
 ·exact ⟨lR _, trivial, rfl⟩

/-- impl.IsValidTransform -/
noncomputable def F_impl_IsValidTransform (a0 : TTransform) : Option (Bool) :=
 ((
    (F_impl_within a0.fOrientation 0 7).bind fun y8 =>
    br y8
    ((F_impl_within a0.fX (-80) 80).bind fun y10 =>
    br y10
    ((F_impl_within a0.fY (-80) 80).bind fun y12 =>
    some y12)
    (some false))
    (some false)
  ) : Option (Bool)).bind fun y1 =>
 letO y1 fun w7 =>
 some w7
theorem run_impl_IsValidTransform (a0 : TTransform) (r : Bool) (h : F_impl_IsValidTransform a0 = some r) : Fun Try.prog 213 [.agg [.v (.int .i64 a0.fOrientation), .v (.int .i64 a0.fX), .v (.int .i64 a0.fY)]] [] (.c (.v (.bool r))) [] true := by
 refine Fun.of_wp (oneOf [1]) tok mixed Try.func213 (by kernel_rfl) rfl Try.ntmps213 rfl trivial (fun _ => ⟨trivial, trivial⟩) ?_
 unfold F_impl_IsValidTransform at h
 have hf_impl_within := @run_impl_within
 generalize hLEN : @len = LEN at *
 generalize hGD : @gd = GD at *
 generalize hA : std = A at *
 generalize hP : Try.prog = P at *
 cbv
 replace h := of_bind h
 obtain ⟨y1, hy2, h⟩ := h
 obtain ⟨S5, hS6⟩ : ∃ S, S = (sparse 16 [(2, .c (.v (.bool y1)))] []) := ⟨_, rfl⟩
 refine ⟨S5, ?_, ?_⟩
 ·clear h
  have h := hy2
  clear hy2
  cbv
  replace h := of_bind h
  obtain ⟨y8, hy9, h⟩ := h
  refine ⟨{ args := [.c (.v (.int .i64 a0.fOrientation)), .c (.v (.int .i64 0)), .c (.v (.int .i64 7))], o0 := [], r := .c (.v (.bool y8)), o1 := [], fl := true, σ := [], τ := [] }, hf_impl_within _ _ _ _ hy9, ⟨les_cons (lR _) (les_cons (lR _) (les_cons (lR _) (les_nil))), trivial, rfl, rfl, rfl, rfl, trivial, rfl⟩, ?_⟩
  cbv
  refine fork (fun b15 => ?_) (fun b15 => ?_)
  ·replace h := of_br_t b15 h
   cbv
   replace h := of_bind h
   obtain ⟨y10, hy11, h⟩ := h
   refine ⟨{ args := [.c (.v (.int .i64 a0.fX)), .c (.v (.int .i64 (-80))), .c (.v (.int .i64 80))], o0 := [], r := .c (.v (.bool y10)), o1 := [], fl := true, σ := [], τ := [] }, hf_impl_within _ _ _ _ hy11, ⟨les_cons (lR _) (les_cons (lR _) (les_cons (lR _) (les_nil))), trivial, rfl, rfl, rfl, rfl, trivial, rfl⟩, ?_⟩
   cbv
   refine fork (fun b14 => ?_) (fun b14 => ?_)
   ·replace h := of_br_t b14 h
    cbv
    replace h := of_bind h
    obtain ⟨y12, hy13, h⟩ := h
    refine ⟨{ args := [.c (.v (.int .i64 a0.fY)), .c (.v (.int .i64 (-80))), .c (.v (.int .i64 80))], o0 := [], r := .c (.v (.bool y12)), o1 := [], fl := true, σ := [], τ := [] }, hf_impl_within _ _ _ _ hy13, ⟨les_cons (lR _) (les_cons (lR _) (les_cons (lR _) (les_nil))), trivial, rfl, rfl, rfl, rfl, trivial, rfl⟩, ?_⟩
    cbv
    injection h with h
    subst h
    subst hS6
    show St.le _ _
    exact le_sparse rfl ⟨lR _, trivial⟩ trivial rfl
   ·replace h := of_br_f b14 h
    cbv
    injection h with h
    subst h
    subst hS6
    show St.le _ _
    exact le_sparse rfl ⟨lR _, trivial⟩ trivial rfl
  ·replace h := of_br_f b15 h
   cbv
   injection h with h
   subst h
   subst hS6
   show St.le _ _
   exact le_sparse rfl ⟨lR _, trivial⟩ trivial rfl
 ·clear hy2
  subst hS6
  replace h := of_let h
  obtain ⟨w7, hw7, h⟩ := h
  have hw7 : w7 = y1 := hw7
  subst hw7
  cbv
  injection h with h
  subst h
  refine ⟨(sparse 16 [(2, .c (.v (.bool w7)))] []), ?_, ?_⟩
  ·exact le_sparse rfl ⟨lR _, trivial⟩ trivial rfl
  ·exact ⟨lR _, trivial, rfl⟩

/-- impl.validInstance -/
noncomputable def F_impl_validInstance (a0 : TInstance) (a1 : Int) : Option (Bool) :=
 ((
    (F_impl_within a0.fCell 0 (std.sub .i64 a1 1)).bind fun y8 =>
    br y8
    ((F_impl_IsValidTransform a0.fPlace).bind fun y10 =>
    br y10
    ((F_impl_within a0.fColumns 1 4).bind fun y12 =>
    br y12
    ((F_impl_within a0.fRows 1 4).bind fun y14 =>
    br y14
    ((F_impl_within a0.fStepX (-80) 80).bind fun y16 =>
    br y16
    ((F_impl_within a0.fStepY (-80) 80).bind fun y18 =>
    br y18
    (br (std.eq a0.fStepX 0)
    (br (std.eq a0.fStepY 0)
    (some true)
    (some (std.lt 1 a0.fRows)))
    (br (std.lt 1 a0.fColumns)
    (br (std.eq a0.fStepY 0)
    (some true)
    (some (std.lt 1 a0.fRows)))
    (some false)))
    (some false))
    (some false))
    (some false))
    (some false))
    (some false))
    (some false)
  ) : Option (Bool)).bind fun y1 =>
 letO y1 fun w7 =>
 some w7
theorem run_impl_validInstance (a0 : TInstance) (a1 : Int) (r : Bool) (h : F_impl_validInstance a0 a1 = some r) : Fun Try.prog 167 [.agg [.v (.int .i64 a0.fCell), .v (.int .i64 a0.fPlace.fOrientation), .v (.int .i64 a0.fPlace.fX), .v (.int .i64 a0.fPlace.fY), .v (.int .i64 a0.fColumns), .v (.int .i64 a0.fRows), .v (.int .i64 a0.fStepX), .v (.int .i64 a0.fStepY)], .c (.v (.int .i64 a1))] [] (.c (.v (.bool r))) [] true := by
 refine Fun.of_wp (oneOf [1]) tok mixed Try.func167 (by kernel_rfl) rfl Try.ntmps167 rfl trivial (fun _ => ⟨trivial, trivial⟩) ?_
 unfold F_impl_validInstance at h
 have hf_impl_IsValidTransform := @run_impl_IsValidTransform
 have hf_impl_within := @run_impl_within
 generalize hLEN : @len = LEN at *
 generalize hGD : @gd = GD at *
 generalize hA : std = A at *
 generalize hP : Try.prog = P at *
 cbv
 replace h := of_bind h
 obtain ⟨y1, hy2, h⟩ := h
 obtain ⟨S5, hS6⟩ : ∃ S, S = (sparse 55 [(4, .c (.v (.bool y1)))] []) := ⟨_, rfl⟩
 refine ⟨S5, ?_, ?_⟩
 ·clear h
  have h := hy2
  clear hy2
  cbv
  replace h := of_bind h
  obtain ⟨y8, hy9, h⟩ := h
  refine ⟨{ args := [.c (.v (.int .i64 a0.fCell)), .c (.v (.int .i64 0)), .c (.v (.int .i64 (A.sub .i64 a1 1)))], o0 := [], r := .c (.v (.bool y8)), o1 := [], fl := true, σ := [], τ := [] }, hf_impl_within _ _ _ _ hy9, ⟨les_cons (lR _) (les_cons (lR _) (les_cons (lR _) (les_nil))), trivial, rfl, rfl, rfl, rfl, trivial, rfl⟩, ?_⟩
  cbv
  refine fork (fun b29 => ?_) (fun b29 => ?_)
  ·replace h := of_br_t b29 h
   cbv
   replace h := of_bind h
   obtain ⟨y10, hy11, h⟩ := h
   refine ⟨{ args := [.agg [.v (.int .i64 a0.fPlace.fOrientation), .v (.int .i64 a0.fPlace.fX), .v (.int .i64 a0.fPlace.fY)]], o0 := [], r := .c (.v (.bool y10)), o1 := [], fl := true, σ := [], τ := [] }, hf_impl_IsValidTransform _ _ hy11, ⟨les_cons (lR _) (les_nil), trivial, rfl, rfl, rfl, rfl, trivial, rfl⟩, ?_⟩
   cbv
   refine fork (fun b28 => ?_) (fun b28 => ?_)
   ·replace h := of_br_t b28 h
    cbv
    replace h := of_bind h
    obtain ⟨y12, hy13, h⟩ := h
    refine ⟨{ args := [.c (.v (.int .i64 a0.fColumns)), .c (.v (.int .i64 1)), .c (.v (.int .i64 4))], o0 := [], r := .c (.v (.bool y12)), o1 := [], fl := true, σ := [], τ := [] }, hf_impl_within _ _ _ _ hy13, ⟨les_cons (lR _) (les_cons (lR _) (les_cons (lR _) (les_nil))), trivial, rfl, rfl, rfl, rfl, trivial, rfl⟩, ?_⟩
    cbv
    refine fork (fun b27 => ?_) (fun b27 => ?_)
    ·replace h := of_br_t b27 h
     cbv
     replace h := of_bind h
     obtain ⟨y14, hy15, h⟩ := h
     refine ⟨{ args := [.c (.v (.int .i64 a0.fRows)), .c (.v (.int .i64 1)), .c (.v (.int .i64 4))], o0 := [], r := .c (.v (.bool y14)), o1 := [], fl := true, σ := [], τ := [] }, hf_impl_within _ _ _ _ hy15, ⟨les_cons (lR _) (les_cons (lR _) (les_cons (lR _) (les_nil))), trivial, rfl, rfl, rfl, rfl, trivial, rfl⟩, ?_⟩
     cbv
     refine fork (fun b26 => ?_) (fun b26 => ?_)
     ·replace h := of_br_t b26 h
      cbv
      replace h := of_bind h
      obtain ⟨y16, hy17, h⟩ := h
      refine ⟨{ args := [.c (.v (.int .i64 a0.fStepX)), .c (.v (.int .i64 (-80))), .c (.v (.int .i64 80))], o0 := [], r := .c (.v (.bool y16)), o1 := [], fl := true, σ := [], τ := [] }, hf_impl_within _ _ _ _ hy17, ⟨les_cons (lR _) (les_cons (lR _) (les_cons (lR _) (les_nil))), trivial, rfl, rfl, rfl, rfl, trivial, rfl⟩, ?_⟩
      cbv
      refine fork (fun b25 => ?_) (fun b25 => ?_)
      ·replace h := of_br_t b25 h
       cbv
       replace h := of_bind h
       obtain ⟨y18, hy19, h⟩ := h
       refine ⟨{ args := [.c (.v (.int .i64 a0.fStepY)), .c (.v (.int .i64 (-80))), .c (.v (.int .i64 80))], o0 := [], r := .c (.v (.bool y18)), o1 := [], fl := true, σ := [], τ := [] }, hf_impl_within _ _ _ _ hy19, ⟨les_cons (lR _) (les_cons (lR _) (les_cons (lR _) (les_nil))), trivial, rfl, rfl, rfl, rfl, trivial, rfl⟩, ?_⟩
       cbv
       refine fork (fun b24 => ?_) (fun b24 => ?_)
       ·replace h := of_br_t b24 h
        cbv
        refine fork (fun b23 => ?_) (fun b23 => ?_)
        ·replace h := of_br_t b23 h
         cbv
         refine fork (fun b22 => ?_) (fun b22 => ?_)
         ·replace h := of_br_t b22 h
          cbv
          injection h with h
          subst h
          subst hS6
          show St.le _ _
          exact le_sparse rfl ⟨lR _, trivial⟩ trivial rfl
         ·replace h := of_br_f b22 h
          cbv
          injection h with h
          subst h
          subst hS6
          show St.le _ _
          exact le_sparse rfl ⟨lR _, trivial⟩ trivial rfl
        ·replace h := of_br_f b23 h
         cbv
         refine fork (fun b21 => ?_) (fun b21 => ?_)
         ·replace h := of_br_t b21 h
          cbv
          refine fork (fun b20 => ?_) (fun b20 => ?_)
          ·replace h := of_br_t b20 h
           cbv
           injection h with h
           subst h
           subst hS6
           show St.le _ _
           exact le_sparse rfl ⟨lR _, trivial⟩ trivial rfl
          ·replace h := of_br_f b20 h
           cbv
           injection h with h
           subst h
           subst hS6
           show St.le _ _
           exact le_sparse rfl ⟨lR _, trivial⟩ trivial rfl
         ·replace h := of_br_f b21 h
          cbv
          injection h with h
          subst h
          subst hS6
          show St.le _ _
          exact le_sparse rfl ⟨lR _, trivial⟩ trivial rfl
       ·replace h := of_br_f b24 h
        cbv
        injection h with h
        subst h
        subst hS6
        show St.le _ _
        exact le_sparse rfl ⟨lR _, trivial⟩ trivial rfl
      ·replace h := of_br_f b25 h
       cbv
       injection h with h
       subst h
       subst hS6
       show St.le _ _
       exact le_sparse rfl ⟨lR _, trivial⟩ trivial rfl
     ·replace h := of_br_f b26 h
      cbv
      injection h with h
      subst h
      subst hS6
      show St.le _ _
      exact le_sparse rfl ⟨lR _, trivial⟩ trivial rfl
    ·replace h := of_br_f b27 h
     cbv
     injection h with h
     subst h
     subst hS6
     show St.le _ _
     exact le_sparse rfl ⟨lR _, trivial⟩ trivial rfl
   ·replace h := of_br_f b28 h
    cbv
    injection h with h
    subst h
    subst hS6
    show St.le _ _
    exact le_sparse rfl ⟨lR _, trivial⟩ trivial rfl
  ·replace h := of_br_f b29 h
   cbv
   injection h with h
   subst h
   subst hS6
   show St.le _ _
   exact le_sparse rfl ⟨lR _, trivial⟩ trivial rfl
 ·clear hy2
  subst hS6
  replace h := of_let h
  obtain ⟨w7, hw7, h⟩ := h
  have hw7 : w7 = y1 := hw7
  subst hw7
  cbv
  injection h with h
  subst h
  refine ⟨(sparse 55 [(4, .c (.v (.bool w7)))] []), ?_, ?_⟩
  ·exact le_sparse rfl ⟨lR _, trivial⟩ trivial rfl
  ·exact ⟨lR _, trivial, rfl⟩

/-- impl.validCell$3 -/
noncomputable def F_impl_validCell_3_mbp (a0 : TInstance) (a1 : Int) : Option (Bool) :=
 (F_impl_validInstance (TInstance.mk a0.fCell a0.fPlace a0.fColumns a0.fRows a0.fStepX a0.fStepY) a1).bind fun y1 =>
 some (!(y1))
theorem run_impl_validCell_3_mbp (a0 : TInstance) (a1 : Int) (r : Bool) (h : F_impl_validCell_3_mbp a0 a1 = some r) : Fun Try.prog 196 [.agg [.v (.int .i64 a0.fCell), .v (.int .i64 a0.fPlace.fOrientation), .v (.int .i64 a0.fPlace.fX), .v (.int .i64 a0.fPlace.fY), .v (.int .i64 a0.fColumns), .v (.int .i64 a0.fRows), .v (.int .i64 a0.fStepX), .v (.int .i64 a0.fStepY)], .c (.bp 1 (encI .i64 a1))] [] (.c (.v (.bool r))) [] true := by
 refine Fun.of_wp (oneOf []) tok mixed Try.func196 (by kernel_rfl) rfl Try.ntmps196 rfl trivial (fun _ => ⟨trivial, trivial⟩) ?_
 unfold F_impl_validCell_3_mbp at h
 have hf_impl_validInstance := @run_impl_validInstance
 generalize hLEN : @len = LEN at *
 generalize hGD : @gd = GD at *
 generalize hA : std = A at *
 generalize hP : Try.prog = P at *
 cbv
 replace h := of_bind h
 obtain ⟨y1, hy2, h⟩ := h
 refine ⟨{ args := [.agg [.v (.int .i64 a0.fCell), .v (.int .i64 a0.fPlace.fOrientation), .v (.int .i64 a0.fPlace.fX), .v (.int .i64 a0.fPlace.fY), .v (.int .i64 a0.fColumns), .v (.int .i64 a0.fRows), .v (.int .i64 a0.fStepX), .v (.int .i64 a0.fStepY)], .c (.v (.int .i64 a1))], o0 := [], r := .c (.v (.bool y1)), o1 := [], fl := true, σ := [], τ := [] }, hf_impl_validInstance _ _ _ hy2, ⟨les_cons (lR _) (les_cons (lR _) (les_nil)), trivial, rfl, rfl, rfl, rfl, trivial, rfl⟩, ?_⟩
 cbv
 injection h with h
 subst h
 refine ⟨(sparse 8 [(3, .c (.v (.bool (!(y1)))))] []), ?_, ?_⟩
 ·exact le_sparse rfl ⟨lR _, trivial⟩ trivial rfl
 ·exact ⟨lR _, trivial, rfl⟩
end Go.Proofs.Ytmdlnjeppemipaa.AM
