/-
  What the functions that the law reaches compute, and that they do. No condition.
-/
import Derived.Test.YtlenieingkfjaaaAmWV
namespace Go.Proofs.Ytlenieingkfjaaa.AM
open Go Go.Proofs Go.RowKit
set_option linter.unusedVariables false
set_option linter.unusedSimpArgs false
set_option maxRecDepth 100000

/-- spec.l09DrawIndex -/
noncomputable def F_spec_l09DrawIndex_mPbo (a0 : Tl01Source) (a1 : TLibrary) : Option (Int × Tl01Source × (List TCell)) :=
 (F_spec_l01Next_mPbb a0 12).bind fun y1 =>
 br (std.eq y1.1 0)
 (letO ([(-1), std.ofN (len a1.fCells), 7] : List Int) fun l3 =>
 (F_spec_l01Next_mPbb y1.2 3).bind fun y5 =>
 req (std.inR y5.1 (len l3)) <|
 some (gd l3 (std.nadd 0 (std.toN y5.1)), y5.2, a1.fCells))
 ((F_spec_l01Next_mPbb y1.2 (std.ofN (len a1.fCells))).bind fun y8 =>
 some (y8.1, y8.2, a1.fCells))
theorem run_spec_l09DrawIndex_mPbo (a0 : Tl01Source) (a1 : TLibrary) (r : Int × Tl01Source × (List TCell)) (h : F_spec_l09DrawIndex_mPbo a0 a1 = some r) : Fun Try.prog 188 [.c (.ptr 5 0), .agg [.os 7 0 (len a1.fCells)]] [(5, .var [.bs (len a0.gcode) 1 (row gd (encI .u8) a0.gcode), .v (.int .i64 a0.gat), .v (.int .i64 a0.gseed)]), (7, .arr .rw [] (len a1.fCells) 4 (row gd (oncCell len gd) a1.fCells))] (.c (.v (.int .i64 r.1))) [(5, .var [.bs (len r.2.1.gcode) 1 (row gd (encI .u8) r.2.1.gcode), .v (.int .i64 r.2.1.gat), .v (.int .i64 r.2.1.gseed)]), (7, .arr .rw [] (len r.2.2) 4 (row gd (oncCell len gd) r.2.2))] false := by
 refine Fun.of_wp (oneOf []) tok mixed Try.func188 (by kernel_rfl) rfl Try.ntmps188 rfl ⟨fun i _ j _ k hk => (noref (rf_oncCell _ _) hk).elim, trivial⟩ (fun h => by cases h) ?_
 unfold F_spec_l09DrawIndex_mPbo at h
 have hf_spec_l01Next_mPbb := @run_spec_l01Next_mPbb
 generalize hLEN : @len = LEN at *
 generalize hGD : @gd = GD at *
 generalize hA : std = A at *
 generalize hP : Try.prog = P at *
 cbv
 replace h := of_bind h
 obtain ⟨y1, hy2, h⟩ := h
 refine ⟨{ args := [.c (.ptr 5 0), .c (.v (.int .i64 12))], o0 := [(5, .var [.bs (LEN a0.gcode) 1 (row GD (encI .u8) a0.gcode), .v (.int .i64 a0.gat), .v (.int .i64 a0.gseed)])], r := .c (.v (.int .i64 y1.1)), o1 := [(5, .var [.bs (LEN y1.2.gcode) 1 (row GD (encI .u8) y1.2.gcode), .v (.int .i64 y1.2.gat), .v (.int .i64 y1.2.gseed)])], fl := false, σ := [(5, 5)], τ := [(5, 5)] }, hf_spec_l01Next_mPbb _ _ _ hy2, ⟨les_cons (lR _) (les_cons (lR _) (les_nil)), ⟨rfl, trivial⟩, rfl, rfl, rfl, rfl, ⟨fun _ => rfl, trivial⟩, rfl⟩, ?_⟩
 cbv
 refine fork (fun b10 => ?_) (fun b10 => ?_)
 ·replace h := of_br_t b10 h
  cbv
  replace h := of_let h
  obtain ⟨l3, hl3, h⟩ := h
  have e4 : 3 = LEN l3 := by subst hl3 hLEN; rfl
  refine ⟨_, congrArg (fun n => AV.c (AC.os 704 0 n)) e4, _, row GD (encI .i64) l3, e4, wkOf ?_, ?_⟩
  ·intro i hi j hj
   rw [← e4] at hi
   subst hl3
   subst hGD
   obtain rfl | rfl | rfl : i = 0 ∨ i = 1 ∨ i = 2 := (by omega)
   all_goals obtain rfl : j = 0 := by omega
   all_goals rfl
  cbv
  replace h := of_bind h
  obtain ⟨y5, hy6, h⟩ := h
  refine ⟨{ args := [.c (.ptr 5 0), .c (.v (.int .i64 3))], o0 := [(5, .var [.bs (LEN y1.2.gcode) 1 (row GD (encI .u8) y1.2.gcode), .v (.int .i64 y1.2.gat), .v (.int .i64 y1.2.gseed)])], r := .c (.v (.int .i64 y5.1)), o1 := [(5, .var [.bs (LEN y5.2.gcode) 1 (row GD (encI .u8) y5.2.gcode), .v (.int .i64 y5.2.gat), .v (.int .i64 y5.2.gseed)])], fl := false, σ := [(5, 5)], τ := [(5, 5)] }, hf_spec_l01Next_mPbb _ _ _ hy6, ⟨les_cons (lR _) (les_cons (lR _) (les_nil)), ⟨rfl, trivial⟩, rfl, rfl, rfl, rfl, ⟨fun _ => rfl, trivial⟩, rfl⟩, ?_⟩
  cbv
  replace h := of_req h
  obtain ⟨c7, h⟩ := h
  refine ⟨⟨c7, trivial⟩, ?_⟩
  refine And.intro (by first | exact (by subst hA; exact idx_lt c7) | (refine And.intro (by subst hA; exact idx_lt c7) ?_; first | trivial | exact ⟨trivial, trivial⟩)) ?_
  injection h with h
  subst h
  refine ⟨(sparse 21 [(4, .c (.v (.int .i64 (GD l3 (A.nadd 0 (A.toN y5.1))))))] [(5, .var [.bs (LEN y5.2.gcode) 1 (row GD (encI .u8) y5.2.gcode), .v (.int .i64 y5.2.gat), .v (.int .i64 y5.2.gseed)]), (7, .arr .rw [] (LEN a1.fCells) 4 (row GD (oncCell LEN GD) a1.fCells))]), ?_, ?_⟩
  ·exact le_sparse rfl ⟨lR _, trivial⟩ ⟨rfl, oS, trivial⟩ rfl
  ·exact ⟨lR _, ⟨rfl, oS, trivial⟩, rfl⟩
 ·replace h := of_br_f b10 h
  cbv
  replace h := of_bind h
  obtain ⟨y8, hy9, h⟩ := h
  refine ⟨{ args := [.c (.ptr 5 0), .c (.v (.int .i64 (A.ofN (LEN a1.fCells))))], o0 := [(5, .var [.bs (LEN y1.2.gcode) 1 (row GD (encI .u8) y1.2.gcode), .v (.int .i64 y1.2.gat), .v (.int .i64 y1.2.gseed)])], r := .c (.v (.int .i64 y8.1)), o1 := [(5, .var [.bs (LEN y8.2.gcode) 1 (row GD (encI .u8) y8.2.gcode), .v (.int .i64 y8.2.gat), .v (.int .i64 y8.2.gseed)])], fl := false, σ := [(5, 5)], τ := [(5, 5)] }, hf_spec_l01Next_mPbb _ _ _ hy9, ⟨les_cons (lR _) (les_cons (lR _) (les_nil)), ⟨rfl, trivial⟩, rfl, rfl, rfl, rfl, ⟨fun _ => rfl, trivial⟩, rfl⟩, ?_⟩
  cbv
  injection h with h
  subst h
  refine ⟨(sparse 21 [(4, .c (.v (.int .i64 y8.1)))] [(5, .var [.bs (LEN y8.2.gcode) 1 (row GD (encI .u8) y8.2.gcode), .v (.int .i64 y8.2.gat), .v (.int .i64 y8.2.gseed)]), (7, .arr .rw [] (LEN a1.fCells) 4 (row GD (oncCell LEN GD) a1.fCells))]), ?_, ?_⟩
  ·exact le_sparse rfl ⟨lR _, trivial⟩ ⟨rfl, oS, trivial⟩ rfl
  ·exact ⟨lR _, ⟨rfl, oS, trivial⟩, rfl⟩

/-- spec.l10DrawLibrary -/
noncomputable def F_spec_l10DrawLibrary_mPb (a0 : Tl01Source) : Option (TLibrary × Tl01Source) :=
 (F_spec_l09DrawLibrary_mPb a0).bind fun y1 =>
 some (y1.1, y1.2)
theorem run_spec_l10DrawLibrary_mPb (a0 : Tl01Source) (r : TLibrary × Tl01Source) (h : F_spec_l10DrawLibrary_mPb a0 = some r) : Fun Try.prog 189 [.c (.ptr 5 0)] [(5, .var [.bs (len a0.gcode) 1 (row gd (encI .u8) a0.gcode), .v (.int .i64 a0.gat), .v (.int .i64 a0.gseed)])] (.agg [.os 64000 0 (len r.1.fCells)]) [(64000, .arr .rw [] (len r.1.fCells) 4 (row gd (oncCell len gd) r.1.fCells)), (5, .var [.bs (len r.2.gcode) 1 (row gd (encI .u8) r.2.gcode), .v (.int .i64 r.2.gat), .v (.int .i64 r.2.gseed)])] false := by
 refine Fun.of_wp (oneOf []) tok mixed Try.func189 (by kernel_rfl) rfl Try.ntmps189 rfl trivial (fun h => by cases h) ?_
 unfold F_spec_l10DrawLibrary_mPb at h
 have hf_spec_l09DrawLibrary_mPb := @run_spec_l09DrawLibrary_mPb
 generalize hLEN : @len = LEN at *
 generalize hGD : @gd = GD at *
 generalize hA : std = A at *
 generalize hP : Try.prog = P at *
 cbv
 replace h := of_bind h
 obtain ⟨y1, hy2, h⟩ := h
 refine ⟨{ args := [.c (.ptr 5 0)], o0 := [(5, .var [.bs (LEN a0.gcode) 1 (row GD (encI .u8) a0.gcode), .v (.int .i64 a0.gat), .v (.int .i64 a0.gseed)])], r := .agg [.os 64000 0 (LEN y1.1.fCells)], o1 := [(64000, .arr .rw [] (LEN y1.1.fCells) 4 (row GD (oncCell LEN GD) y1.1.fCells)), (5, .var [.bs (LEN y1.2.gcode) 1 (row GD (encI .u8) y1.2.gcode), .v (.int .i64 y1.2.gat), .v (.int .i64 y1.2.gseed)])], fl := false, σ := [(5, 5)], τ := [(64000, 256), (5, 5)] }, hf_spec_l09DrawLibrary_mPb _ _ hy2, ⟨les_cons (lR _) (les_nil), ⟨rfl, trivial⟩, rfl, rfl, rfl, rfl, ⟨fun h => absurd (show (64000 : Nat) % 2 = 1 from h) (by decide), fun _ => rfl, trivial⟩, rfl⟩, _, rfl, _, _, rfl, fun _ _ _ _ => .refl _, ?_⟩
 cbv
 injection h with h
 subst h
 refine ⟨(sparse 5 [(2, .c (.ptr 128 0))] [(128, .var [.os 64000 0 (LEN y1.1.fCells)]), (5, .var [.bs (LEN y1.2.gcode) 1 (row GD (encI .u8) y1.2.gcode), .v (.int .i64 y1.2.gat), .v (.int .i64 y1.2.gseed)]), (64000, .arr .rw [] (LEN y1.1.fCells) 4 (row GD (oncCell LEN GD) y1.1.fCells))]), ?_, ?_⟩
 ·refine St.le_trans (le_ren 256 64000 (by decide) rfl) ?_
  exact le_sparse rfl ⟨lR _, trivial⟩ ⟨rfl, rfl, oS, trivial⟩ rfl
 ·exact ⟨lR _, ⟨oS, rfl, trivial⟩, rfl⟩

/-- spec.l10DrawTop -/
noncomputable def F_spec_l10DrawTop_mPb (a0 : Tl01Source) : Option (TLibrary × Int × Tl01Source) :=
 (F_spec_l01Next_mPbb a0 16).bind fun y1 =>
 br (std.eq y1.1 0)
 ((F_spec_l09DrawAny_mPb y1.2).bind fun y3 =>
 (F_spec_l09DrawIndex_mPbo y3.2 y3.1).bind fun y5 =>
 req (len y5.2.2 = len y3.1.fCells) <|
 req (len y3.1.fCells = len y5.2.2) <|
 some ((TLibrary.mk y5.2.2), y5.1, y5.2.1))
 ((F_spec_l10DrawLibrary_mPb y1.2).bind fun y9 =>
 (F_spec_l01Next_mPbb y9.2 6).bind fun y11 =>
 br (std.eq y11.1 0)
 ((F_spec_l09DrawIndex_mPbo y11.2 y9.1).bind fun y13 =>
 req (len y13.2.2 = len y9.1.fCells) <|
 req (len y9.1.fCells = len y13.2.2) <|
 some ((TLibrary.mk y13.2.2), y13.1, y13.2.1))
 (some (y9.1, std.sub .i64 (std.ofN (len y9.1.fCells)) 1, y11.2)))
theorem run_spec_l10DrawTop_mPb (a0 : Tl01Source) (r : TLibrary × Int × Tl01Source) (h : F_spec_l10DrawTop_mPb a0 = some r) : Fun Try.prog 127 [.c (.ptr 5 0)] [(5, .var [.bs (len a0.gcode) 1 (row gd (encI .u8) a0.gcode), .v (.int .i64 a0.gat), .v (.int .i64 a0.gseed)])] (.tup [.agg [.os 64000 0 (len r.1.fCells)], .c (.v (.int .i64 r.2.1))]) [(64000, .arr .rw [] (len r.1.fCells) 4 (row gd (oncCell len gd) r.1.fCells)), (5, .var [.bs (len r.2.2.gcode) 1 (row gd (encI .u8) r.2.2.gcode), .v (.int .i64 r.2.2.gat), .v (.int .i64 r.2.2.gseed)])] false := by
 refine Fun.of_wp (oneOf []) tok mixed Try.func127 (by kernel_rfl) rfl Try.ntmps127 rfl trivial (fun h => by cases h) ?_
 unfold F_spec_l10DrawTop_mPb at h
 have hf_spec_l01Next_mPbb := @run_spec_l01Next_mPbb
 have hf_spec_l09DrawAny_mPb := @run_spec_l09DrawAny_mPb
 have hf_spec_l09DrawIndex_mPbo := @run_spec_l09DrawIndex_mPbo
 have hf_spec_l10DrawLibrary_mPb := @run_spec_l10DrawLibrary_mPb
 generalize hLEN : @len = LEN at *
 generalize hGD : @gd = GD at *
 generalize hA : std = A at *
 generalize hP : Try.prog = P at *
 cbv
 replace h := of_bind h
 obtain ⟨y1, hy2, h⟩ := h
 refine ⟨{ args := [.c (.ptr 5 0), .c (.v (.int .i64 16))], o0 := [(5, .var [.bs (LEN a0.gcode) 1 (row GD (encI .u8) a0.gcode), .v (.int .i64 a0.gat), .v (.int .i64 a0.gseed)])], r := .c (.v (.int .i64 y1.1)), o1 := [(5, .var [.bs (LEN y1.2.gcode) 1 (row GD (encI .u8) y1.2.gcode), .v (.int .i64 y1.2.gat), .v (.int .i64 y1.2.gseed)])], fl := false, σ := [(5, 5)], τ := [(5, 5)] }, hf_spec_l01Next_mPbb _ _ _ hy2, ⟨les_cons (lR _) (les_cons (lR _) (les_nil)), ⟨rfl, trivial⟩, rfl, rfl, rfl, rfl, ⟨fun _ => rfl, trivial⟩, rfl⟩, ?_⟩
 cbv
 refine fork (fun b18 => ?_) (fun b18 => ?_)
 ·replace h := of_br_t b18 h
  cbv
  replace h := of_bind h
  obtain ⟨y3, hy4, h⟩ := h
  refine ⟨{ args := [.c (.ptr 5 0)], o0 := [(5, .var [.bs (LEN y1.2.gcode) 1 (row GD (encI .u8) y1.2.gcode), .v (.int .i64 y1.2.gat), .v (.int .i64 y1.2.gseed)])], r := .agg [.os 64000 0 (LEN y3.1.fCells)], o1 := [(64000, .arr .rw [] (LEN y3.1.fCells) 4 (row GD (oncCell LEN GD) y3.1.fCells)), (5, .var [.bs (LEN y3.2.gcode) 1 (row GD (encI .u8) y3.2.gcode), .v (.int .i64 y3.2.gat), .v (.int .i64 y3.2.gseed)])], fl := false, σ := [(5, 5)], τ := [(64000, 640), (5, 5)] }, hf_spec_l09DrawAny_mPb _ _ hy4, ⟨les_cons (lR _) (les_nil), ⟨rfl, trivial⟩, rfl, rfl, rfl, rfl, ⟨fun h => absurd (show (64000 : Nat) % 2 = 1 from h) (by decide), fun _ => rfl, trivial⟩, rfl⟩, _, rfl, _, _, rfl, fun _ _ _ _ => .refl _, ?_⟩
  cbv
  replace h := of_bind h
  obtain ⟨y5, hy6, h⟩ := h
  replace h := of_req h
  obtain ⟨c8, h⟩ := h
  refine ⟨{ args := [.c (.ptr 5 0), .agg [.os 7 0 (LEN y3.1.fCells)]], o0 := [(5, .var [.bs (LEN y3.2.gcode) 1 (row GD (encI .u8) y3.2.gcode), .v (.int .i64 y3.2.gat), .v (.int .i64 y3.2.gseed)]), (7, .arr .rw [] (LEN y3.1.fCells) 4 (row GD (oncCell LEN GD) y3.1.fCells))], r := .c (.v (.int .i64 y5.1)), o1 := [(5, .var [.bs (LEN y5.2.1.gcode) 1 (row GD (encI .u8) y5.2.1.gcode), .v (.int .i64 y5.2.1.gat), .v (.int .i64 y5.2.1.gseed)]), (7, .arr .rw [] (LEN y5.2.2) 4 (row GD (oncCell LEN GD) y5.2.2))], fl := false, σ := [(5, 5), (7, 640)], τ := [(5, 5), (7, 640)] }, hf_spec_l09DrawIndex_mPbo _ _ _ hy6, ⟨les_cons (lR _) (les_cons (lR _) (les_nil)), ⟨rfl, oS, trivial⟩, rfl, rfl, rfl, rfl, ⟨fun _ => rfl, fun _ => ⟨c8.symm, rfl, fun c h => h⟩, trivial⟩, rfl⟩, _, rfl, LEN y3.1.fCells, _, c8, fun _ _ _ _ => .refl _, ?_⟩
  cbv
  replace h := of_req h
  obtain ⟨c7, h⟩ := h
  injection h with h
  subst h
  refine ⟨(sparse 29 [(2, .c (.ptr 128 0)), (3, .c (.v (.int .i64 y5.1)))] [(128, .var [.os 64000 0 (LEN y5.2.2)]), (5, .var [.bs (LEN y5.2.1.gcode) 1 (row GD (encI .u8) y5.2.1.gcode), .v (.int .i64 y5.2.1.gat), .v (.int .i64 y5.2.1.gseed)]), (64000, .arr .rw [] (LEN y5.2.2) 4 (row GD (oncCell LEN GD) y5.2.2))]), ?_, ?_⟩
  ·refine St.le_trans (le_ren 640 64000 (by decide) rfl) ?_
   rw [c7]
   exact le_sparse rfl ⟨lR _, lR _, trivial⟩ ⟨rfl, rfl, oS, trivial⟩ rfl
  ·exact ⟨lR _, ⟨oS, rfl, trivial⟩, rfl⟩
 ·replace h := of_br_f b18 h
  cbv
  replace h := of_bind h
  obtain ⟨y9, hy10, h⟩ := h
  refine ⟨{ args := [.c (.ptr 5 0)], o0 := [(5, .var [.bs (LEN y1.2.gcode) 1 (row GD (encI .u8) y1.2.gcode), .v (.int .i64 y1.2.gat), .v (.int .i64 y1.2.gseed)])], r := .agg [.os 64000 0 (LEN y9.1.fCells)], o1 := [(64000, .arr .rw [] (LEN y9.1.fCells) 4 (row GD (oncCell LEN GD) y9.1.fCells)), (5, .var [.bs (LEN y9.2.gcode) 1 (row GD (encI .u8) y9.2.gcode), .v (.int .i64 y9.2.gat), .v (.int .i64 y9.2.gseed)])], fl := false, σ := [(5, 5)], τ := [(64000, 1024), (5, 5)] }, hf_spec_l10DrawLibrary_mPb _ _ hy10, ⟨les_cons (lR _) (les_nil), ⟨rfl, trivial⟩, rfl, rfl, rfl, rfl, ⟨fun h => absurd (show (64000 : Nat) % 2 = 1 from h) (by decide), fun _ => rfl, trivial⟩, rfl⟩, _, rfl, _, _, rfl, fun _ _ _ _ => .refl _, ?_⟩
  cbv
  replace h := of_bind h
  obtain ⟨y11, hy12, h⟩ := h
  refine ⟨{ args := [.c (.ptr 5 0), .c (.v (.int .i64 6))], o0 := [(5, .var [.bs (LEN y9.2.gcode) 1 (row GD (encI .u8) y9.2.gcode), .v (.int .i64 y9.2.gat), .v (.int .i64 y9.2.gseed)])], r := .c (.v (.int .i64 y11.1)), o1 := [(5, .var [.bs (LEN y11.2.gcode) 1 (row GD (encI .u8) y11.2.gcode), .v (.int .i64 y11.2.gat), .v (.int .i64 y11.2.gseed)])], fl := false, σ := [(5, 5)], τ := [(5, 5)] }, hf_spec_l01Next_mPbb _ _ _ hy12, ⟨les_cons (lR _) (les_cons (lR _) (les_nil)), ⟨rfl, trivial⟩, rfl, rfl, rfl, rfl, ⟨fun _ => rfl, trivial⟩, rfl⟩, ?_⟩
  cbv
  refine fork (fun b17 => ?_) (fun b17 => ?_)
  ·replace h := of_br_t b17 h
   cbv
   replace h := of_bind h
   obtain ⟨y13, hy14, h⟩ := h
   replace h := of_req h
   obtain ⟨c16, h⟩ := h
   refine ⟨{ args := [.c (.ptr 5 0), .agg [.os 7 0 (LEN y9.1.fCells)]], o0 := [(5, .var [.bs (LEN y11.2.gcode) 1 (row GD (encI .u8) y11.2.gcode), .v (.int .i64 y11.2.gat), .v (.int .i64 y11.2.gseed)]), (7, .arr .rw [] (LEN y9.1.fCells) 4 (row GD (oncCell LEN GD) y9.1.fCells))], r := .c (.v (.int .i64 y13.1)), o1 := [(5, .var [.bs (LEN y13.2.1.gcode) 1 (row GD (encI .u8) y13.2.1.gcode), .v (.int .i64 y13.2.1.gat), .v (.int .i64 y13.2.1.gseed)]), (7, .arr .rw [] (LEN y13.2.2) 4 (row GD (oncCell LEN GD) y13.2.2))], fl := false, σ := [(5, 5), (7, 1024)], τ := [(5, 5), (7, 1024)] }, hf_spec_l09DrawIndex_mPbo _ _ _ hy14, ⟨les_cons (lR _) (les_cons (lR _) (les_nil)), ⟨rfl, oS, trivial⟩, rfl, rfl, rfl, rfl, ⟨fun _ => rfl, fun _ => ⟨c16.symm, rfl, fun c h => h⟩, trivial⟩, rfl⟩, _, rfl, LEN y9.1.fCells, _, c16, fun _ _ _ _ => .refl _, ?_⟩
   cbv
   replace h := of_req h
   obtain ⟨c15, h⟩ := h
   injection h with h
   subst h
   refine ⟨(sparse 29 [(2, .c (.ptr 128 0)), (3, .c (.v (.int .i64 y13.1)))] [(128, .var [.os 64000 0 (LEN y13.2.2)]), (5, .var [.bs (LEN y13.2.1.gcode) 1 (row GD (encI .u8) y13.2.1.gcode), .v (.int .i64 y13.2.1.gat), .v (.int .i64 y13.2.1.gseed)]), (64000, .arr .rw [] (LEN y13.2.2) 4 (row GD (oncCell LEN GD) y13.2.2))]), ?_, ?_⟩
   ·refine St.le_trans (le_ren 1024 64000 (by decide) rfl) ?_
    rw [c15]
    exact le_sparse rfl ⟨lR _, lR _, trivial⟩ ⟨rfl, rfl, oS, trivial⟩ rfl
   ·exact ⟨lR _, ⟨oS, rfl, trivial⟩, rfl⟩
  ·replace h := of_br_f b17 h
   cbv
   injection h with h
   subst h
   refine ⟨(sparse 29 [(2, .c (.ptr 128 0)), (3, .c (.v (.int .i64 (A.sub .i64 (A.ofN (LEN y9.1.fCells)) 1))))] [(128, .var [.os 64000 0 (LEN y9.1.fCells)]), (5, .var [.bs (LEN y11.2.gcode) 1 (row GD (encI .u8) y11.2.gcode), .v (.int .i64 y11.2.gat), .v (.int .i64 y11.2.gseed)]), (64000, .arr .rw [] (LEN y9.1.fCells) 4 (row GD (oncCell LEN GD) y9.1.fCells))]), ?_, ?_⟩
   ·refine St.le_trans (le_ren 1024 64000 (by decide) rfl) ?_
    exact le_sparse rfl ⟨lR _, lR _, trivial⟩ ⟨rfl, rfl, oS, trivial⟩ rfl
   ·exact ⟨lR _, ⟨oS, rfl, trivial⟩, rfl⟩

/-- spec.l12DrawTop -/
noncomputable def F_spec_l12DrawTop_mPb (a0 : Tl01Source) : Option (TLibrary × Int × Tl01Source) :=
 (F_spec_l01Next_mPbb a0 3).bind fun y1 =>
 br (std.eq y1.1 0)
 ((F_spec_l10DrawDeep_mPb y1.2).bind fun y3 =>
 some (y3.1, (3 : Int), y3.2))
 ((F_spec_l10DrawTop_mPb y1.2).bind fun y5 =>
 some (y5.1, y5.2.1, y5.2.2))
theorem run_spec_l12DrawTop_mPb (a0 : Tl01Source) (r : TLibrary × Int × Tl01Source) (h : F_spec_l12DrawTop_mPb a0 = some r) : Fun Try.prog 61 [.c (.ptr 5 0)] [(5, .var [.bs (len a0.gcode) 1 (row gd (encI .u8) a0.gcode), .v (.int .i64 a0.gat), .v (.int .i64 a0.gseed)])] (.tup [.agg [.os 64000 0 (len r.1.fCells)], .c (.v (.int .i64 r.2.1))]) [(64000, .arr .rw [] (len r.1.fCells) 4 (row gd (oncCell len gd) r.1.fCells)), (5, .var [.bs (len r.2.2.gcode) 1 (row gd (encI .u8) r.2.2.gcode), .v (.int .i64 r.2.2.gat), .v (.int .i64 r.2.2.gseed)])] false := by
 refine Fun.of_wp (oneOf []) tok mixed Try.func61 (by kernel_rfl) rfl Try.ntmps61 rfl trivial (fun h => by cases h) ?_
 unfold F_spec_l12DrawTop_mPb at h
 have hf_spec_l01Next_mPbb := @run_spec_l01Next_mPbb
 have hf_spec_l10DrawDeep_mPb := @run_spec_l10DrawDeep_mPb
 have hf_spec_l10DrawTop_mPb := @run_spec_l10DrawTop_mPb
 generalize hLEN : @len = LEN at *
 generalize hGD : @gd = GD at *
 generalize hA : std = A at *
 generalize hP : Try.prog = P at *
 cbv
 replace h := of_bind h
 obtain ⟨y1, hy2, h⟩ := h
 refine ⟨{ args := [.c (.ptr 5 0), .c (.v (.int .i64 3))], o0 := [(5, .var [.bs (LEN a0.gcode) 1 (row GD (encI .u8) a0.gcode), .v (.int .i64 a0.gat), .v (.int .i64 a0.gseed)])], r := .c (.v (.int .i64 y1.1)), o1 := [(5, .var [.bs (LEN y1.2.gcode) 1 (row GD (encI .u8) y1.2.gcode), .v (.int .i64 y1.2.gat), .v (.int .i64 y1.2.gseed)])], fl := false, σ := [(5, 5)], τ := [(5, 5)] }, hf_spec_l01Next_mPbb _ _ _ hy2, ⟨les_cons (lR _) (les_cons (lR _) (les_nil)), ⟨rfl, trivial⟩, rfl, rfl, rfl, rfl, ⟨fun _ => rfl, trivial⟩, rfl⟩, ?_⟩
 cbv
 refine fork (fun b7 => ?_) (fun b7 => ?_)
 ·replace h := of_br_t b7 h
  cbv
  replace h := of_bind h
  obtain ⟨y3, hy4, h⟩ := h
  refine ⟨{ args := [.c (.ptr 5 0)], o0 := [(5, .var [.bs (LEN y1.2.gcode) 1 (row GD (encI .u8) y1.2.gcode), .v (.int .i64 y1.2.gat), .v (.int .i64 y1.2.gseed)])], r := .agg [.os 64000 0 (LEN y3.1.fCells)], o1 := [(64000, .arr .rw [] (LEN y3.1.fCells) 4 (row GD (oncCell LEN GD) y3.1.fCells)), (5, .var [.bs (LEN y3.2.gcode) 1 (row GD (encI .u8) y3.2.gcode), .v (.int .i64 y3.2.gat), .v (.int .i64 y3.2.gseed)])], fl := false, σ := [(5, 5)], τ := [(64000, 512), (5, 5)] }, hf_spec_l10DrawDeep_mPb _ _ hy4, ⟨les_cons (lR _) (les_nil), ⟨rfl, trivial⟩, rfl, rfl, rfl, rfl, ⟨fun h => absurd (show (64000 : Nat) % 2 = 1 from h) (by decide), fun _ => rfl, trivial⟩, rfl⟩, _, rfl, _, _, rfl, fun _ _ _ _ => .refl _, ?_⟩
  cbv
  injection h with h
  subst h
  refine ⟨(sparse 13 [(2, .c (.ptr 128 0)), (3, .c (.v (.int .i64 3)))] [(128, .var [.os 64000 0 (LEN y3.1.fCells)]), (5, .var [.bs (LEN y3.2.gcode) 1 (row GD (encI .u8) y3.2.gcode), .v (.int .i64 y3.2.gat), .v (.int .i64 y3.2.gseed)]), (64000, .arr .rw [] (LEN y3.1.fCells) 4 (row GD (oncCell LEN GD) y3.1.fCells))]), ?_, ?_⟩
  ·refine St.le_trans (le_ren 512 64000 (by decide) rfl) ?_
   exact le_sparse rfl ⟨lR _, lR _, trivial⟩ ⟨rfl, rfl, oS, trivial⟩ rfl
  ·exact ⟨lR _, ⟨oS, rfl, trivial⟩, rfl⟩
 ·replace h := of_br_f b7 h
  cbv
  replace h := of_bind h
  obtain ⟨y5, hy6, h⟩ := h
  refine ⟨{ args := [.c (.ptr 5 0)], o0 := [(5, .var [.bs (LEN y1.2.gcode) 1 (row GD (encI .u8) y1.2.gcode), .v (.int .i64 y1.2.gat), .v (.int .i64 y1.2.gseed)])], r := .tup [.agg [.os 64000 0 (LEN y5.1.fCells)], .c (.v (.int .i64 y5.2.1))], o1 := [(64000, .arr .rw [] (LEN y5.1.fCells) 4 (row GD (oncCell LEN GD) y5.1.fCells)), (5, .var [.bs (LEN y5.2.2.gcode) 1 (row GD (encI .u8) y5.2.2.gcode), .v (.int .i64 y5.2.2.gat), .v (.int .i64 y5.2.2.gseed)])], fl := false, σ := [(5, 5)], τ := [(64000, 640), (5, 5)] }, hf_spec_l10DrawTop_mPb _ _ hy6, ⟨les_cons (lR _) (les_nil), ⟨rfl, trivial⟩, rfl, rfl, rfl, rfl, ⟨fun h => absurd (show (64000 : Nat) % 2 = 1 from h) (by decide), fun _ => rfl, trivial⟩, rfl⟩, _, rfl, _, _, rfl, fun _ _ _ _ => .refl _, ?_⟩
  cbv
  injection h with h
  subst h
  refine ⟨(sparse 13 [(2, .c (.ptr 128 0)), (3, .c (.v (.int .i64 y5.2.1)))] [(128, .var [.os 64000 0 (LEN y5.1.fCells)]), (5, .var [.bs (LEN y5.2.2.gcode) 1 (row GD (encI .u8) y5.2.2.gcode), .v (.int .i64 y5.2.2.gat), .v (.int .i64 y5.2.2.gseed)]), (64000, .arr .rw [] (LEN y5.1.fCells) 4 (row GD (oncCell LEN GD) y5.1.fCells))]), ?_, ?_⟩
  ·refine St.le_trans (le_ren 640 64000 (by decide) rfl) ?_
   exact le_sparse rfl ⟨lR _, lR _, trivial⟩ ⟨rfl, rfl, oS, trivial⟩ rfl
  ·exact ⟨lR _, ⟨oS, rfl, trivial⟩, rfl⟩

/-- spec.l11DrawBox -/
noncomputable def F_spec_l11DrawBox_mPb (a0 : Tl01Source) : Option (TRect × Tl01Source) :=
 (F_spec_l01Next_mPbb a0 80).bind fun y1 =>
 (F_spec_l01Next_mPbb y1.2 80).bind fun y3 =>
 (F_spec_l01Next_mPbb y3.2 20).bind fun y5 =>
 (F_spec_l01Next_mPbb y5.2 20).bind fun y7 =>
 some ((TRect.mk (std.sub .i64 y1.1 40) (std.sub .i64 y3.1 40) (std.imin 40 (std.add .i64 (std.add .i64 (std.sub .i64 y1.1 40) 1) y5.1)) (std.imin 40 (std.add .i64 (std.add .i64 (std.sub .i64 y3.1 40) 1) y7.1))), y7.2)
theorem run_spec_l11DrawBox_mPb (a0 : Tl01Source) (r : TRect × Tl01Source) (h : F_spec_l11DrawBox_mPb a0 = some r) : Fun Try.prog 174 [.c (.ptr 5 0)] [(5, .var [.bs (len a0.gcode) 1 (row gd (encI .u8) a0.gcode), .v (.int .i64 a0.gat), .v (.int .i64 a0.gseed)])] (.agg [.v (.int .i64 r.1.fX0), .v (.int .i64 r.1.fY0), .v (.int .i64 r.1.fX1), .v (.int .i64 r.1.fY1)]) [(5, .var [.bs (len r.2.gcode) 1 (row gd (encI .u8) r.2.gcode), .v (.int .i64 r.2.gat), .v (.int .i64 r.2.gseed)])] false := by
 refine Fun.of_wp (oneOf []) tok mixed Try.func174 (by kernel_rfl) rfl Try.ntmps174 rfl trivial (fun h => by cases h) ?_
 unfold F_spec_l11DrawBox_mPb at h
 have hf_spec_l01Next_mPbb := @run_spec_l01Next_mPbb
 generalize hLEN : @len = LEN at *
 generalize hGD : @gd = GD at *
 generalize hA : std = A at *
 generalize hP : Try.prog = P at *
 cbv
 replace h := of_bind h
 obtain ⟨y1, hy2, h⟩ := h
 refine ⟨{ args := [.c (.ptr 5 0), .c (.v (.int .i64 80))], o0 := [(5, .var [.bs (LEN a0.gcode) 1 (row GD (encI .u8) a0.gcode), .v (.int .i64 a0.gat), .v (.int .i64 a0.gseed)])], r := .c (.v (.int .i64 y1.1)), o1 := [(5, .var [.bs (LEN y1.2.gcode) 1 (row GD (encI .u8) y1.2.gcode), .v (.int .i64 y1.2.gat), .v (.int .i64 y1.2.gseed)])], fl := false, σ := [(5, 5)], τ := [(5, 5)] }, hf_spec_l01Next_mPbb _ _ _ hy2, ⟨les_cons (lR _) (les_cons (lR _) (les_nil)), ⟨rfl, trivial⟩, rfl, rfl, rfl, rfl, ⟨fun _ => rfl, trivial⟩, rfl⟩, ?_⟩
 cbv
 replace h := of_bind h
 obtain ⟨y3, hy4, h⟩ := h
 refine ⟨{ args := [.c (.ptr 5 0), .c (.v (.int .i64 80))], o0 := [(5, .var [.bs (LEN y1.2.gcode) 1 (row GD (encI .u8) y1.2.gcode), .v (.int .i64 y1.2.gat), .v (.int .i64 y1.2.gseed)])], r := .c (.v (.int .i64 y3.1)), o1 := [(5, .var [.bs (LEN y3.2.gcode) 1 (row GD (encI .u8) y3.2.gcode), .v (.int .i64 y3.2.gat), .v (.int .i64 y3.2.gseed)])], fl := false, σ := [(5, 5)], τ := [(5, 5)] }, hf_spec_l01Next_mPbb _ _ _ hy4, ⟨les_cons (lR _) (les_cons (lR _) (les_nil)), ⟨rfl, trivial⟩, rfl, rfl, rfl, rfl, ⟨fun _ => rfl, trivial⟩, rfl⟩, ?_⟩
 cbv
 replace h := of_bind h
 obtain ⟨y5, hy6, h⟩ := h
 refine ⟨{ args := [.c (.ptr 5 0), .c (.v (.int .i64 20))], o0 := [(5, .var [.bs (LEN y3.2.gcode) 1 (row GD (encI .u8) y3.2.gcode), .v (.int .i64 y3.2.gat), .v (.int .i64 y3.2.gseed)])], r := .c (.v (.int .i64 y5.1)), o1 := [(5, .var [.bs (LEN y5.2.gcode) 1 (row GD (encI .u8) y5.2.gcode), .v (.int .i64 y5.2.gat), .v (.int .i64 y5.2.gseed)])], fl := false, σ := [(5, 5)], τ := [(5, 5)] }, hf_spec_l01Next_mPbb _ _ _ hy6, ⟨les_cons (lR _) (les_cons (lR _) (les_nil)), ⟨rfl, trivial⟩, rfl, rfl, rfl, rfl, ⟨fun _ => rfl, trivial⟩, rfl⟩, ?_⟩
 cbv
 replace h := of_bind h
 obtain ⟨y7, hy8, h⟩ := h
 refine ⟨{ args := [.c (.ptr 5 0), .c (.v (.int .i64 20))], o0 := [(5, .var [.bs (LEN y5.2.gcode) 1 (row GD (encI .u8) y5.2.gcode), .v (.int .i64 y5.2.gat), .v (.int .i64 y5.2.gseed)])], r := .c (.v (.int .i64 y7.1)), o1 := [(5, .var [.bs (LEN y7.2.gcode) 1 (row GD (encI .u8) y7.2.gcode), .v (.int .i64 y7.2.gat), .v (.int .i64 y7.2.gseed)])], fl := false, σ := [(5, 5)], τ := [(5, 5)] }, hf_spec_l01Next_mPbb _ _ _ hy8, ⟨les_cons (lR _) (les_cons (lR _) (les_nil)), ⟨rfl, trivial⟩, rfl, rfl, rfl, rfl, ⟨fun _ => rfl, trivial⟩, rfl⟩, ?_⟩
 cbv
 injection h with h
 subst h
 refine ⟨(sparse 26 [(2, .c (.ptr 128 0))] [(128, .var [.v (.int .i64 (A.sub .i64 y1.1 40)), .v (.int .i64 (A.sub .i64 y3.1 40)), .v (.int .i64 (A.imin 40 (A.add .i64 (A.add .i64 (A.sub .i64 y1.1 40) 1) y5.1))), .v (.int .i64 (A.imin 40 (A.add .i64 (A.add .i64 (A.sub .i64 y3.1 40) 1) y7.1)))]), (5, .var [.bs (LEN y7.2.gcode) 1 (row GD (encI .u8) y7.2.gcode), .v (.int .i64 y7.2.gat), .v (.int .i64 y7.2.gseed)])]), ?_, ?_⟩
 ·exact le_sparse rfl ⟨lR _, trivial⟩ ⟨rfl, rfl, trivial⟩ rfl
 ·exact ⟨lR _, ⟨rfl, trivial⟩, rfl⟩

/-- spec.l11DrawWindow -/
noncomputable def F_spec_l11DrawWindow_mPb (a0 : Tl01Source) : Option (TRect × Tl01Source) :=
 (F_spec_l01Next_mPbb a0 16).bind fun y1 =>
 br (std.eq y1.1 0)
 ((F_spec_l01Next_mPbb y1.2 90).bind fun y3 =>
 (F_spec_l01Next_mPbb y3.2 90).bind fun y5 =>
 some ((TRect.mk (std.sub .i64 y3.1 45) 0 (std.sub .i64 y5.1 45) 3), y5.2))
 ((F_spec_l11DrawBox_mPb y1.2).bind fun y7 =>
 some (y7.1, y7.2))
theorem run_spec_l11DrawWindow_mPb (a0 : Tl01Source) (r : TRect × Tl01Source) (h : F_spec_l11DrawWindow_mPb a0 = some r) : Fun Try.prog 111 [.c (.ptr 5 0)] [(5, .var [.bs (len a0.gcode) 1 (row gd (encI .u8) a0.gcode), .v (.int .i64 a0.gat), .v (.int .i64 a0.gseed)])] (.agg [.v (.int .i64 r.1.fX0), .v (.int .i64 r.1.fY0), .v (.int .i64 r.1.fX1), .v (.int .i64 r.1.fY1)]) [(5, .var [.bs (len r.2.gcode) 1 (row gd (encI .u8) r.2.gcode), .v (.int .i64 r.2.gat), .v (.int .i64 r.2.gseed)])] false := by
 refine Fun.of_wp (oneOf []) tok mixed Try.func111 (by kernel_rfl) rfl Try.ntmps111 rfl trivial (fun h => by cases h) ?_
 unfold F_spec_l11DrawWindow_mPb at h
 have hf_spec_l01Next_mPbb := @run_spec_l01Next_mPbb
 have hf_spec_l11DrawBox_mPb := @run_spec_l11DrawBox_mPb
 generalize hLEN : @len = LEN at *
 generalize hGD : @gd = GD at *
 generalize hA : std = A at *
 generalize hP : Try.prog = P at *
 cbv
 replace h := of_bind h
 obtain ⟨y1, hy2, h⟩ := h
 refine ⟨{ args := [.c (.ptr 5 0), .c (.v (.int .i64 16))], o0 := [(5, .var [.bs (LEN a0.gcode) 1 (row GD (encI .u8) a0.gcode), .v (.int .i64 a0.gat), .v (.int .i64 a0.gseed)])], r := .c (.v (.int .i64 y1.1)), o1 := [(5, .var [.bs (LEN y1.2.gcode) 1 (row GD (encI .u8) y1.2.gcode), .v (.int .i64 y1.2.gat), .v (.int .i64 y1.2.gseed)])], fl := false, σ := [(5, 5)], τ := [(5, 5)] }, hf_spec_l01Next_mPbb _ _ _ hy2, ⟨les_cons (lR _) (les_cons (lR _) (les_nil)), ⟨rfl, trivial⟩, rfl, rfl, rfl, rfl, ⟨fun _ => rfl, trivial⟩, rfl⟩, ?_⟩
 cbv
 refine fork (fun b9 => ?_) (fun b9 => ?_)
 ·replace h := of_br_t b9 h
  cbv
  replace h := of_bind h
  obtain ⟨y3, hy4, h⟩ := h
  refine ⟨{ args := [.c (.ptr 5 0), .c (.v (.int .i64 90))], o0 := [(5, .var [.bs (LEN y1.2.gcode) 1 (row GD (encI .u8) y1.2.gcode), .v (.int .i64 y1.2.gat), .v (.int .i64 y1.2.gseed)])], r := .c (.v (.int .i64 y3.1)), o1 := [(5, .var [.bs (LEN y3.2.gcode) 1 (row GD (encI .u8) y3.2.gcode), .v (.int .i64 y3.2.gat), .v (.int .i64 y3.2.gseed)])], fl := false, σ := [(5, 5)], τ := [(5, 5)] }, hf_spec_l01Next_mPbb _ _ _ hy4, ⟨les_cons (lR _) (les_cons (lR _) (les_nil)), ⟨rfl, trivial⟩, rfl, rfl, rfl, rfl, ⟨fun _ => rfl, trivial⟩, rfl⟩, ?_⟩
  cbv
  replace h := of_bind h
  obtain ⟨y5, hy6, h⟩ := h
  refine ⟨{ args := [.c (.ptr 5 0), .c (.v (.int .i64 90))], o0 := [(5, .var [.bs (LEN y3.2.gcode) 1 (row GD (encI .u8) y3.2.gcode), .v (.int .i64 y3.2.gat), .v (.int .i64 y3.2.gseed)])], r := .c (.v (.int .i64 y5.1)), o1 := [(5, .var [.bs (LEN y5.2.gcode) 1 (row GD (encI .u8) y5.2.gcode), .v (.int .i64 y5.2.gat), .v (.int .i64 y5.2.gseed)])], fl := false, σ := [(5, 5)], τ := [(5, 5)] }, hf_spec_l01Next_mPbb _ _ _ hy6, ⟨les_cons (lR _) (les_cons (lR _) (les_nil)), ⟨rfl, trivial⟩, rfl, rfl, rfl, rfl, ⟨fun _ => rfl, trivial⟩, rfl⟩, ?_⟩
  cbv
  injection h with h
  subst h
  refine ⟨(sparse 15 [(2, .c (.ptr 128 0))] [(128, .var [.v (.int .i64 (A.sub .i64 y3.1 45)), .v (.int .i64 0), .v (.int .i64 (A.sub .i64 y5.1 45)), .v (.int .i64 3)]), (5, .var [.bs (LEN y5.2.gcode) 1 (row GD (encI .u8) y5.2.gcode), .v (.int .i64 y5.2.gat), .v (.int .i64 y5.2.gseed)])]), ?_, ?_⟩
  ·exact le_sparse rfl ⟨lR _, trivial⟩ ⟨rfl, rfl, trivial⟩ rfl
  ·exact ⟨lR _, ⟨rfl, trivial⟩, rfl⟩
 ·replace h := of_br_f b9 h
  cbv
  replace h := of_bind h
  obtain ⟨y7, hy8, h⟩ := h
  refine ⟨{ args := [.c (.ptr 5 0)], o0 := [(5, .var [.bs (LEN y1.2.gcode) 1 (row GD (encI .u8) y1.2.gcode), .v (.int .i64 y1.2.gat), .v (.int .i64 y1.2.gseed)])], r := .agg [.v (.int .i64 y7.1.fX0), .v (.int .i64 y7.1.fY0), .v (.int .i64 y7.1.fX1), .v (.int .i64 y7.1.fY1)], o1 := [(5, .var [.bs (LEN y7.2.gcode) 1 (row GD (encI .u8) y7.2.gcode), .v (.int .i64 y7.2.gat), .v (.int .i64 y7.2.gseed)])], fl := false, σ := [(5, 5)], τ := [(5, 5)] }, hf_spec_l11DrawBox_mPb _ _ hy8, ⟨les_cons (lR _) (les_nil), ⟨rfl, trivial⟩, rfl, rfl, rfl, rfl, ⟨fun _ => rfl, trivial⟩, rfl⟩, ?_⟩
  cbv
  injection h with h
  subst h
  refine ⟨(sparse 15 [(2, .c (.ptr 128 0))] [(128, .var [.v (.int .i64 y7.1.fX0), .v (.int .i64 y7.1.fY0), .v (.int .i64 y7.1.fX1), .v (.int .i64 y7.1.fY1)]), (5, .var [.bs (LEN y7.2.gcode) 1 (row GD (encI .u8) y7.2.gcode), .v (.int .i64 y7.2.gat), .v (.int .i64 y7.2.gseed)])]), ?_, ?_⟩
  ·exact le_sparse rfl ⟨lR _, trivial⟩ ⟨rfl, rfl, trivial⟩ rfl
  ·exact ⟨lR _, ⟨rfl, trivial⟩, rfl⟩
/-- spec.l12DrawWindow -/
noncomputable def F_spec_l12DrawWindow_mPb (a0 : Tl01Source) : Option (TRect × Tl01Source) :=
 (F_spec_l01Next_mPbb a0 8).bind fun y1 =>
 br (std.eq y1.1 0)
 ((F_spec_l11DrawWindow_mPb y1.2).bind fun y3 =>
 some (y3.1, y3.2))
 (br (std.eq y1.1 1)
 (some ((TRect.mk (-40) (-40) 40 40), y1.2))
 ((F_spec_l01Next_mPbb y1.2 40).bind fun y5 =>
 (F_spec_l01Next_mPbb y5.2 40).bind fun y7 =>
 (F_spec_l01Next_mPbb y7.2 14).bind fun y9 =>
 (F_spec_l01Next_mPbb y9.2 14).bind fun y11 =>
 some ((TRect.mk (std.sub .i64 y5.1 20) (std.sub .i64 y7.1 20) (std.add .i64 (std.add .i64 (std.sub .i64 y5.1 20) 1) y9.1) (std.add .i64 (std.add .i64 (std.sub .i64 y7.1 20) 1) y11.1)), y11.2)))
theorem run_spec_l12DrawWindow_mPb (a0 : Tl01Source) (r : TRect × Tl01Source) (h : F_spec_l12DrawWindow_mPb a0 = some r) : Fun Try.prog 78 [.c (.ptr 5 0)] [(5, .var [.bs (len a0.gcode) 1 (row gd (encI .u8) a0.gcode), .v (.int .i64 a0.gat), .v (.int .i64 a0.gseed)])] (.agg [.v (.int .i64 r.1.fX0), .v (.int .i64 r.1.fY0), .v (.int .i64 r.1.fX1), .v (.int .i64 r.1.fY1)]) [(5, .var [.bs (len r.2.gcode) 1 (row gd (encI .u8) r.2.gcode), .v (.int .i64 r.2.gat), .v (.int .i64 r.2.gseed)])] false := by
 refine Fun.of_wp (oneOf []) tok mixed Try.func78 (by kernel_rfl) rfl Try.ntmps78 rfl trivial (fun h => by cases h) ?_
 unfold F_spec_l12DrawWindow_mPb at h
 have hf_spec_l01Next_mPbb := @run_spec_l01Next_mPbb
 have hf_spec_l11DrawWindow_mPb := @run_spec_l11DrawWindow_mPb
 generalize hLEN : @len = LEN at *
 generalize hGD : @gd = GD at *
 generalize hA : std = A at *
 generalize hP : Try.prog = P at *
 cbv
 replace h := of_bind h
 obtain ⟨y1, hy2, h⟩ := h
 refine ⟨{ args := [.c (.ptr 5 0), .c (.v (.int .i64 8))], o0 := [(5, .var [.bs (LEN a0.gcode) 1 (row GD (encI .u8) a0.gcode), .v (.int .i64 a0.gat), .v (.int .i64 a0.gseed)])], r := .c (.v (.int .i64 y1.1)), o1 := [(5, .var [.bs (LEN y1.2.gcode) 1 (row GD (encI .u8) y1.2.gcode), .v (.int .i64 y1.2.gat), .v (.int .i64 y1.2.gseed)])], fl := false, σ := [(5, 5)], τ := [(5, 5)] }, hf_spec_l01Next_mPbb _ _ _ hy2, ⟨les_cons (lR _) (les_cons (lR _) (les_nil)), ⟨rfl, trivial⟩, rfl, rfl, rfl, rfl, ⟨fun _ => rfl, trivial⟩, rfl⟩, ?_⟩
 cbv
 refine fork (fun b14 => ?_) (fun b14 => ?_)
 ·replace h := of_br_t b14 h
  cbv
  replace h := of_bind h
  obtain ⟨y3, hy4, h⟩ := h
  refine ⟨{ args := [.c (.ptr 5 0)], o0 := [(5, .var [.bs (LEN y1.2.gcode) 1 (row GD (encI .u8) y1.2.gcode), .v (.int .i64 y1.2.gat), .v (.int .i64 y1.2.gseed)])], r := .agg [.v (.int .i64 y3.1.fX0), .v (.int .i64 y3.1.fY0), .v (.int .i64 y3.1.fX1), .v (.int .i64 y3.1.fY1)], o1 := [(5, .var [.bs (LEN y3.2.gcode) 1 (row GD (encI .u8) y3.2.gcode), .v (.int .i64 y3.2.gat), .v (.int .i64 y3.2.gseed)])], fl := false, σ := [(5, 5)], τ := [(5, 5)] }, hf_spec_l11DrawWindow_mPb _ _ hy4, ⟨les_cons (lR _) (les_nil), ⟨rfl, trivial⟩, rfl, rfl, rfl, rfl, ⟨fun _ => rfl, trivial⟩, rfl⟩, ?_⟩
  cbv
  injection h with h
  subst h
  refine ⟨(sparse 33 [(2, .c (.ptr 128 0))] [(128, .var [.v (.int .i64 y3.1.fX0), .v (.int .i64 y3.1.fY0), .v (.int .i64 y3.1.fX1), .v (.int .i64 y3.1.fY1)]), (5, .var [.bs (LEN y3.2.gcode) 1 (row GD (encI .u8) y3.2.gcode), .v (.int .i64 y3.2.gat), .v (.int .i64 y3.2.gseed)])]), ?_, ?_⟩
  ·exact le_sparse rfl ⟨lR _, trivial⟩ ⟨rfl, rfl, trivial⟩ rfl
  ·exact ⟨lR _, ⟨rfl, trivial⟩, rfl⟩
 ·replace h := of_br_f b14 h
  cbv
  refine fork (fun b13 => ?_) (fun b13 => ?_)
  ·replace h := of_br_t b13 h
   cbv
   injection h with h
   subst h
   refine ⟨(sparse 33 [(2, .c (.ptr 128 0))] [(128, .var [.v (.int .i64 (-40)), .v (.int .i64 (-40)), .v (.int .i64 40), .v (.int .i64 40)]), (5, .var [.bs (LEN y1.2.gcode) 1 (row GD (encI .u8) y1.2.gcode), .v (.int .i64 y1.2.gat), .v (.int .i64 y1.2.gseed)])]), ?_, ?_⟩
   ·exact le_sparse rfl ⟨lR _, trivial⟩ ⟨rfl, rfl, trivial⟩ rfl
   ·exact ⟨lR _, ⟨rfl, trivial⟩, rfl⟩
  ·replace h := of_br_f b13 h
   cbv
   replace h := of_bind h
   obtain ⟨y5, hy6, h⟩ := h
   refine ⟨{ args := [.c (.ptr 5 0), .c (.v (.int .i64 40))], o0 := [(5, .var [.bs (LEN y1.2.gcode) 1 (row GD (encI .u8) y1.2.gcode), .v (.int .i64 y1.2.gat), .v (.int .i64 y1.2.gseed)])], r := .c (.v (.int .i64 y5.1)), o1 := [(5, .var [.bs (LEN y5.2.gcode) 1 (row GD (encI .u8) y5.2.gcode), .v (.int .i64 y5.2.gat), .v (.int .i64 y5.2.gseed)])], fl := false, σ := [(5, 5)], τ := [(5, 5)] }, hf_spec_l01Next_mPbb _ _ _ hy6, ⟨les_cons (lR _) (les_cons (lR _) (les_nil)), ⟨rfl, trivial⟩, rfl, rfl, rfl, rfl, ⟨fun _ => rfl, trivial⟩, rfl⟩, ?_⟩
   cbv
   replace h := of_bind h
   obtain ⟨y7, hy8, h⟩ := h
   refine ⟨{ args := [.c (.ptr 5 0), .c (.v (.int .i64 40))], o0 := [(5, .var [.bs (LEN y5.2.gcode) 1 (row GD (encI .u8) y5.2.gcode), .v (.int .i64 y5.2.gat), .v (.int .i64 y5.2.gseed)])], r := .c (.v (.int .i64 y7.1)), o1 := [(5, .var [.bs (LEN y7.2.gcode) 1 (row GD (encI .u8) y7.2.gcode), .v (.int .i64 y7.2.gat), .v (.int .i64 y7.2.gseed)])], fl := false, σ := [(5, 5)], τ := [(5, 5)] }, hf_spec_l01Next_mPbb _ _ _ hy8, ⟨les_cons (lR _) (les_cons (lR _) (les_nil)), ⟨rfl, trivial⟩, rfl, rfl, rfl, rfl, ⟨fun _ => rfl, trivial⟩, rfl⟩, ?_⟩
   cbv
   replace h := of_bind h
   obtain ⟨y9, hy10, h⟩ := h
   refine ⟨{ args := [.c (.ptr 5 0), .c (.v (.int .i64 14))], o0 := [(5, .var [.bs (LEN y7.2.gcode) 1 (row GD (encI .u8) y7.2.gcode), .v (.int .i64 y7.2.gat), .v (.int .i64 y7.2.gseed)])], r := .c (.v (.int .i64 y9.1)), o1 := [(5, .var [.bs (LEN y9.2.gcode) 1 (row GD (encI .u8) y9.2.gcode), .v (.int .i64 y9.2.gat), .v (.int .i64 y9.2.gseed)])], fl := false, σ := [(5, 5)], τ := [(5, 5)] }, hf_spec_l01Next_mPbb _ _ _ hy10, ⟨les_cons (lR _) (les_cons (lR _) (les_nil)), ⟨rfl, trivial⟩, rfl, rfl, rfl, rfl, ⟨fun _ => rfl, trivial⟩, rfl⟩, ?_⟩
   cbv
   replace h := of_bind h
   obtain ⟨y11, hy12, h⟩ := h
   refine ⟨{ args := [.c (.ptr 5 0), .c (.v (.int .i64 14))], o0 := [(5, .var [.bs (LEN y9.2.gcode) 1 (row GD (encI .u8) y9.2.gcode), .v (.int .i64 y9.2.gat), .v (.int .i64 y9.2.gseed)])], r := .c (.v (.int .i64 y11.1)), o1 := [(5, .var [.bs (LEN y11.2.gcode) 1 (row GD (encI .u8) y11.2.gcode), .v (.int .i64 y11.2.gat), .v (.int .i64 y11.2.gseed)])], fl := false, σ := [(5, 5)], τ := [(5, 5)] }, hf_spec_l01Next_mPbb _ _ _ hy12, ⟨les_cons (lR _) (les_cons (lR _) (les_nil)), ⟨rfl, trivial⟩, rfl, rfl, rfl, rfl, ⟨fun _ => rfl, trivial⟩, rfl⟩, ?_⟩
   cbv
   injection h with h
   subst h
   refine ⟨(sparse 33 [(2, .c (.ptr 128 0))] [(128, .var [.v (.int .i64 (A.sub .i64 y5.1 20)), .v (.int .i64 (A.sub .i64 y7.1 20)), .v (.int .i64 (A.add .i64 (A.add .i64 (A.sub .i64 y5.1 20) 1) y9.1)), .v (.int .i64 (A.add .i64 (A.add .i64 (A.sub .i64 y7.1 20) 1) y11.1))]), (5, .var [.bs (LEN y11.2.gcode) 1 (row GD (encI .u8) y11.2.gcode), .v (.int .i64 y11.2.gat), .v (.int .i64 y11.2.gseed)])]), ?_, ?_⟩
   ·exact le_sparse rfl ⟨lR _, trivial⟩ ⟨rfl, rfl, trivial⟩ rfl
   ·exact ⟨lR _, ⟨rfl, trivial⟩, rfl⟩

/-- spec.DrawWindowShapes -/
noncomputable def F_spec_DrawWindowShapes (a0 : List Int) : Option (TLibrary × Int × Int × TRect) :=
 (F_spec_l01From a0).bind fun y1 =>
 (F_spec_l12DrawTop_mPb y1).bind fun y3 =>
 (F_spec_l01Next_mPbb y3.2.2 8).bind fun y5 =>
 ((
    req (std.inR 0 (len y3.1.fCells)) <|
    br (std.lt 0 (std.ofN (len (gd y3.1.fCells (std.nadd 0 (std.toN 0))).fShapes)))
    ((F_spec_l01Next_mPbb y5.2 2).bind fun y18 =>
    some (std.eq y18.1 0, y18.2.gcode, y18.2.gat, y18.2.gseed))
    (some (false, y5.2.gcode, y5.2.gat, y5.2.gseed))
  ) : Option (Bool × (List Int) × Int × Int)).bind fun y7 =>
 letO y7.1 fun w13 =>
 letO y7.2.1 fun w14 =>
 letO y7.2.2.1 fun w15 =>
 letO y7.2.2.2 fun w16 =>
 ((
    br w13
    (((
       req (std.inR 0 (len y3.1.fCells)) <|
       req (std.inR 0 (len (gd y3.1.fCells (std.nadd 0 (std.toN 0))).fShapes)) <|
       some ((gd (gd y3.1.fCells (std.nadd 0 (std.toN 0))).fShapes (std.nadd 0 (std.toN 0))).fLayer)
     ) : Option (Int)).bind fun y28 =>
    letO y28 fun w34 =>
    some w34)
    (some y5.1)
  ) : Option (Int)).bind fun y21 =>
 letO y21 fun w27 =>
 (F_spec_l01Next_mPbb (Tl01Source.mk w14 w15 w16) 20).bind fun y38 =>
 ((
    br (std.eq y38.1 0)
    ((F_spec_l01Next_mPbb y38.2 2).bind fun y50 =>
    some (std.sub .i64 (std.mul .i64 9 y50.1) 1, y50.2.gcode, y50.2.gat, y50.2.gseed))
    (some (w27, y38.2.gcode, y38.2.gat, y38.2.gseed))
  ) : Option (Int × (List Int) × Int × Int)).bind fun y40 =>
 letO y40.1 fun w46 =>
 letO y40.2.1 fun w47 =>
 letO y40.2.2.1 fun w48 =>
 letO y40.2.2.2 fun w49 =>
 (F_spec_l12DrawWindow_mPb (Tl01Source.mk w47 w48 w49)).bind fun y53 =>
 some (y3.1, y3.2.1, w46, y53.1)
theorem run_spec_DrawWindowShapes (a0 : List Int) (r : TLibrary × Int × Int × TRect) (h : F_spec_DrawWindowShapes a0 = some r) : Fun Try.prog 21 [.c (.bs (len a0) 1 (row gd (encI .u8) a0))] [] (.tup [.agg [.os 64000 0 (len r.1.fCells)], .c (.v (.int .i64 r.2.1)), .c (.v (.int .i64 r.2.2.1)), .agg [.v (.int .i64 r.2.2.2.fX0), .v (.int .i64 r.2.2.2.fY0), .v (.int .i64 r.2.2.2.fX1), .v (.int .i64 r.2.2.2.fY1)]]) [(64000, .arr .rw [] (len r.1.fCells) 4 (row gd (oncCell len gd) r.1.fCells))] true := by
 refine Fun.of_wp (oneOf [4, 5, 100030, 100041]) tok mixed Try.func21 (by kernel_rfl) rfl Try.ntmps21 rfl trivial (fun _ => ⟨(by simp [AV.flat, AV.flat1, AC.flat]), ⟨fun i _ j _ => fl_oncCell _ _, trivial⟩⟩) ?_
 unfold F_spec_DrawWindowShapes at h
 have hf_spec_l01From := @run_spec_l01From
 have hf_spec_l01Next_mPbb := @run_spec_l01Next_mPbb
 have hf_spec_l12DrawTop_mPb := @run_spec_l12DrawTop_mPb
 have hf_spec_l12DrawWindow_mPb := @run_spec_l12DrawWindow_mPb
 generalize hLEN : @len = LEN at *
 generalize hGD : @gd = GD at *
 generalize hA : std = A at *
 generalize hP : Try.prog = P at *
 cbv
 replace h := of_bind h
 obtain ⟨y1, hy2, h⟩ := h
 refine ⟨{ args := [.c (.bs (LEN a0) 1 (row GD (encI .u8) a0))], o0 := [], r := .c (.ptr 64000 0), o1 := [(64000, .var [.bs (LEN y1.gcode) 1 (row GD (encI .u8) y1.gcode), .v (.int .i64 y1.gat), .v (.int .i64 y1.gseed)])], fl := false, σ := [], τ := [(64000, 704)] }, hf_spec_l01From _ _ hy2, ⟨les_cons (lR _) (les_nil), trivial, rfl, rfl, rfl, rfl, ⟨fun h => absurd (show (64000 : Nat) % 2 = 1 from h) (by decide), trivial⟩, rfl⟩, ?_⟩
 cbv
 replace h := of_bind h
 obtain ⟨y3, hy4, h⟩ := h
 refine ⟨{ args := [.c (.ptr 5 0)], o0 := [(5, .var [.bs (LEN y1.gcode) 1 (row GD (encI .u8) y1.gcode), .v (.int .i64 y1.gat), .v (.int .i64 y1.gseed)])], r := .tup [.agg [.os 64000 0 (LEN y3.1.fCells)], .c (.v (.int .i64 y3.2.1))], o1 := [(64000, .arr .rw [] (LEN y3.1.fCells) 4 (row GD (oncCell LEN GD) y3.1.fCells)), (5, .var [.bs (LEN y3.2.2.gcode) 1 (row GD (encI .u8) y3.2.2.gcode), .v (.int .i64 y3.2.2.gat), .v (.int .i64 y3.2.2.gseed)])], fl := false, σ := [(5, 704)], τ := [(64000, 896), (5, 704)] }, hf_spec_l12DrawTop_mPb _ _ hy4, ⟨les_cons (lR _) (les_nil), ⟨rfl, trivial⟩, rfl, rfl, rfl, rfl, ⟨fun h => absurd (show (64000 : Nat) % 2 = 1 from h) (by decide), fun _ => rfl, trivial⟩, rfl⟩, _, rfl, _, _, rfl, fun _ _ _ _ => .refl _, ?_⟩
 cbv
 replace h := of_bind h
 obtain ⟨y5, hy6, h⟩ := h
 refine ⟨{ args := [.c (.ptr 5 0), .c (.v (.int .i64 8))], o0 := [(5, .var [.bs (LEN y3.2.2.gcode) 1 (row GD (encI .u8) y3.2.2.gcode), .v (.int .i64 y3.2.2.gat), .v (.int .i64 y3.2.2.gseed)])], r := .c (.v (.int .i64 y5.1)), o1 := [(5, .var [.bs (LEN y5.2.gcode) 1 (row GD (encI .u8) y5.2.gcode), .v (.int .i64 y5.2.gat), .v (.int .i64 y5.2.gseed)])], fl := false, σ := [(5, 704)], τ := [(5, 704)] }, hf_spec_l01Next_mPbb _ _ _ hy6, ⟨les_cons (lR _) (les_cons (lR _) (les_nil)), ⟨rfl, trivial⟩, rfl, rfl, rfl, rfl, ⟨fun _ => rfl, trivial⟩, rfl⟩, ?_⟩
 cbv
 replace h := of_bind h
 obtain ⟨y7, hy8, h⟩ := h
 obtain ⟨S11, hS12⟩ : ∃ S, S = (sparse 51 [(2, .c (.ptr 128 0)), (5, .c (.ptr 320 0)), (6, .c (.ptr 704 0)), (7, .c (.ptr 448 0)), (8, .c (.v (.int .i64 y3.2.1))), (9, .c (.v (.int .i64 y5.1))), (30, .c (.v (.bool y7.1)))] [(128, .var [.v (.slice none 0 0)]), (320, .var [.v (.int .i64 0), .v (.int .i64 0), .v (.int .i64 0), .v (.int .i64 0)]), (704, .var [.bs (LEN y7.2.1) 1 (row GD (encI .u8) y7.2.1), .v (.int .i64 y7.2.2.1), .v (.int .i64 y7.2.2.2)]), (448, .var [.os 896 0 (LEN y3.1.fCells)]), (896, .arr .rw [] (LEN y3.1.fCells) 4 (row GD (oncCell LEN GD) y3.1.fCells))]) := ⟨_, rfl⟩
 refine ⟨S11, ?_, ?_⟩
 ·clear h
  have h := hy8
  clear hy8
  cbv
  replace h := of_req h
  obtain ⟨c17, h⟩ := h
  refine ⟨⟨c17, trivial⟩, ?_⟩
  refine And.intro (by first | exact (by subst hA; exact idx_lt c17) | (refine And.intro (by subst hA; exact idx_lt c17) ?_; first | trivial | exact ⟨trivial, trivial⟩)) ?_
  refine ⟨_, rfl, _, (patchC (row GD (oncCell LEN GD) y3.1.fCells) (A.nadd 0 (A.toN 0)) [.v (.string (GD y3.1.fCells (A.nadd 0 (A.toN 0))).fName), .os 1474 0 (LEN (GD y3.1.fCells (A.nadd 0 (A.toN 0))).fShapes), .ow (LEN (GD y3.1.fCells (A.nadd 0 (A.toN 0))).fLabels) 4 (row GD (encLabel) (GD y3.1.fCells (A.nadd 0 (A.toN 0))).fLabels), .ow (LEN (GD y3.1.fCells (A.nadd 0 (A.toN 0))).fInstances) 8 (row GD (encInstance) (GD y3.1.fCells (A.nadd 0 (A.toN 0))).fInstances)]), rfl, wkOf ?_, ?_⟩
  ·refine patch_of ?_
   intro j hj
   match j, hj with | 0, _ => (rfl) | 1, _ => (rfl) | 2, _ => (rfl) | 3, _ => (rfl) | (j_ + 4), h_ => exact absurd h_ (by omega)
  refine ⟨_, row GD (encShape) (GD y3.1.fCells (A.nadd 0 (A.toN 0))).fShapes, rfl, wkOf ?_, ?_⟩
  ·exact fun i _ j _ => plain_cp (pl_encShape _ _)
  cbv
  refine fork (fun b20 => ?_) (fun b20 => ?_)
  ·replace h := of_br_t b20 h
   cbv
   replace h := of_bind h
   obtain ⟨y18, hy19, h⟩ := h
   refine ⟨{ args := [.c (.ptr 5 0), .c (.v (.int .i64 2))], o0 := [(5, .var [.bs (LEN y5.2.gcode) 1 (row GD (encI .u8) y5.2.gcode), .v (.int .i64 y5.2.gat), .v (.int .i64 y5.2.gseed)])], r := .c (.v (.int .i64 y18.1)), o1 := [(5, .var [.bs (LEN y18.2.gcode) 1 (row GD (encI .u8) y18.2.gcode), .v (.int .i64 y18.2.gat), .v (.int .i64 y18.2.gseed)])], fl := false, σ := [(5, 704)], τ := [(5, 704)] }, hf_spec_l01Next_mPbb _ _ _ hy19, ⟨les_cons (lR _) (les_cons (lR _) (les_nil)), ⟨rfl, trivial⟩, rfl, rfl, rfl, rfl, ⟨fun _ => rfl, trivial⟩, rfl⟩, ?_⟩
   cbv
   injection h with h
   subst h
   subst hS12
   show St.le _ _
   refine St.le_trans (le_foldP 896 1 1474 rfl rfl rfl (by decide) (by subst hA; exact idx_lt c17) (by decide) rfl (fun _ _ => rf_oncCell _ _)) ?_
   exact le_sparse rfl ⟨lR _, lR _, lR _, lR _, lR _, lR _, lR _, trivial⟩ ⟨rfl, rfl, rfl, rfl, ⟨fun hw => hw, fun c hc => (by cases hc), .inr (fun i _ j _ z hz => (noref (rf_oncCell _ _) hz).elim), rfl, rfl, (by subst hGD hLEN hA; exact patch_same (by intro j hj; match j, hj with | 0, _ => rfl | 1, _ => rfl | 2, _ => rfl | 3, _ => rfl | (j_ + 4), h_ => exact absurd h_ (by omega)))⟩, trivial⟩ rfl
  ·replace h := of_br_f b20 h
   cbv
   injection h with h
   subst h
   subst hS12
   show St.le _ _
   refine St.le_trans (le_foldP 896 1 1474 rfl rfl rfl (by decide) (by subst hA; exact idx_lt c17) (by decide) rfl (fun _ _ => rf_oncCell _ _)) ?_
   exact le_sparse rfl ⟨lR _, lR _, lR _, lR _, lR _, lR _, lR _, trivial⟩ ⟨rfl, rfl, rfl, rfl, ⟨fun hw => hw, fun c hc => (by cases hc), .inr (fun i _ j _ z hz => (noref (rf_oncCell _ _) hz).elim), rfl, rfl, (by subst hGD hLEN hA; exact patch_same (by intro j hj; match j, hj with | 0, _ => rfl | 1, _ => rfl | 2, _ => rfl | 3, _ => rfl | (j_ + 4), h_ => exact absurd h_ (by omega)))⟩, trivial⟩ rfl
 ·clear hy8
  subst hS12
  obtain ⟨y7_0, y7_1, y7_2, y7_3⟩ := y7
  replace h := of_let h
  obtain ⟨w13, hw13, h⟩ := h
  have hw13 : w13 = y7_0 := hw13
  subst hw13
  replace h := of_let h
  obtain ⟨w14, hw14, h⟩ := h
  have hw14 : w14 = y7_1 := hw14
  subst hw14
  replace h := of_let h
  obtain ⟨w15, hw15, h⟩ := h
  have hw15 : w15 = y7_2 := hw15
  subst hw15
  replace h := of_let h
  obtain ⟨w16, hw16, h⟩ := h
  have hw16 : w16 = y7_3 := hw16
  subst hw16
  cbv
  replace h := of_bind h
  obtain ⟨y21, hy22, h⟩ := h
  obtain ⟨S25, hS26⟩ : ∃ S, S = some (sparse 51 [(2, .c (.ptr 128 0)), (5, .c (.ptr 320 0)), (6, .c (.ptr 704 0)), (7, .c (.ptr 448 0)), (8, .c (.v (.int .i64 y3.2.1))), (9, .c (.v (.int .i64 y21)))] [(128, .var [.v (.slice none 0 0)]), (320, .var [.v (.int .i64 0), .v (.int .i64 0), .v (.int .i64 0), .v (.int .i64 0)]), (704, .var [.bs (LEN w14) 1 (row GD (encI .u8) w14), .v (.int .i64 w15), .v (.int .i64 w16)]), (448, .var [.os 896 0 (LEN y3.1.fCells)]), (896, .arr .rw [] (LEN y3.1.fCells) 4 (row GD (oncCell LEN GD) y3.1.fCells))]) := ⟨_, rfl⟩
  refine ⟨S25, ?_, ?_⟩
  ·clear h
   have h := hy22
   clear hy22
   cbv
   refine fork (fun b37 => ?_) (fun b37 => ?_)
   ·replace h := of_br_t b37 h
    cbv
    replace h := of_bind h
    obtain ⟨y28, hy29, h⟩ := h
    obtain ⟨S32, hS33⟩ : ∃ S, S = (sparse 51 [(2, .c (.ptr 128 0)), (5, .c (.ptr 320 0)), (6, .c (.ptr 704 0)), (7, .c (.ptr 448 0)), (8, .c (.v (.int .i64 y3.2.1))), (9, .c (.v (.int .i64 y28)))] [(128, .var [.v (.slice none 0 0)]), (320, .var [.v (.int .i64 0), .v (.int .i64 0), .v (.int .i64 0), .v (.int .i64 0)]), (704, .var [.bs (LEN w14) 1 (row GD (encI .u8) w14), .v (.int .i64 w15), .v (.int .i64 w16)]), (448, .var [.os 896 0 (LEN y3.1.fCells)]), (896, .arr .rw [] (LEN y3.1.fCells) 4 (row GD (oncCell LEN GD) y3.1.fCells))]) := ⟨_, rfl⟩
    refine ⟨S32, ?_, ?_⟩
    ·clear h
     have h := hy29
     clear hy29
     cbv
     replace h := of_req h
     obtain ⟨c35, h⟩ := h
     refine ⟨⟨c35, trivial⟩, ?_⟩
     refine And.intro (by first | exact (by subst hA; exact idx_lt c35) | (refine And.intro (by subst hA; exact idx_lt c35) ?_; first | trivial | exact ⟨trivial, trivial⟩)) ?_
     refine ⟨_, rfl, _, (patchC (row GD (oncCell LEN GD) y3.1.fCells) (A.nadd 0 (A.toN 0)) [.v (.string (GD y3.1.fCells (A.nadd 0 (A.toN 0))).fName), .os 2242 0 (LEN (GD y3.1.fCells (A.nadd 0 (A.toN 0))).fShapes), .ow (LEN (GD y3.1.fCells (A.nadd 0 (A.toN 0))).fLabels) 4 (row GD (encLabel) (GD y3.1.fCells (A.nadd 0 (A.toN 0))).fLabels), .ow (LEN (GD y3.1.fCells (A.nadd 0 (A.toN 0))).fInstances) 8 (row GD (encInstance) (GD y3.1.fCells (A.nadd 0 (A.toN 0))).fInstances)]), rfl, wkOf ?_, ?_⟩
     ·refine patch_of ?_
      intro j hj
      match j, hj with | 0, _ => (rfl) | 1, _ => (rfl) | 2, _ => (rfl) | 3, _ => (rfl) | (j_ + 4), h_ => exact absurd h_ (by omega)
     refine ⟨_, row GD (encShape) (GD y3.1.fCells (A.nadd 0 (A.toN 0))).fShapes, rfl, wkOf ?_, ?_⟩
     ·exact fun i _ j _ => plain_cp (pl_encShape _ _)
     cbv
     replace h := of_req h
     obtain ⟨c36, h⟩ := h
     refine ⟨⟨c36, trivial⟩, ?_⟩
     refine And.intro (by first | exact (by subst hA; exact idx_lt c36) | (refine And.intro (by subst hA; exact idx_lt c36) ?_; first | trivial | exact ⟨trivial, trivial⟩)) ?_
     injection h with h
     subst h
     subst hS33
     show St.le _ _
     refine St.le_trans (le_foldP 896 1 2242 rfl rfl rfl (by decide) (by subst hA; exact idx_lt c35) (by decide) rfl (fun _ _ => rf_oncCell _ _)) ?_
     exact le_sparse rfl ⟨lR _, lR _, lR _, lR _, lR _, lR _, trivial⟩ ⟨rfl, rfl, rfl, rfl, ⟨fun hw => hw, fun c hc => (by cases hc), .inr (fun i _ j _ z hz => (noref (rf_oncCell _ _) hz).elim), rfl, rfl, (by subst hGD hLEN hA; exact patch_same (by intro j hj; match j, hj with | 0, _ => rfl | 1, _ => rfl | 2, _ => rfl | 3, _ => rfl | (j_ + 4), h_ => exact absurd h_ (by omega)))⟩, trivial⟩ rfl
    ·clear hy29
     subst hS33
     replace h := of_let h
     obtain ⟨w34, hw34, h⟩ := h
     have hw34 : w34 = y28 := hw34
     subst hw34
     cbv
     injection h with h
     subst h
     subst hS26
     show St.le _ _
     exact le_sparse rfl ⟨lR _, lR _, lR _, lR _, lR _, lR _, trivial⟩ ⟨rfl, rfl, rfl, rfl, oS, trivial⟩ rfl
   ·replace h := of_br_f b37 h
    cbv
    injection h with h
    subst h
    subst hS26
    show St.le _ _
    exact le_sparse rfl ⟨lR _, lR _, lR _, lR _, lR _, lR _, trivial⟩ ⟨rfl, rfl, rfl, rfl, oS, trivial⟩ rfl
  ·clear hy22
   subst hS26
   replace h := of_let h
   obtain ⟨w27, hw27, h⟩ := h
   have hw27 : w27 = y21 := hw27
   subst hw27
   cbv
   replace h := of_bind h
   obtain ⟨y38, hy39, h⟩ := h
   refine ⟨{ args := [.c (.ptr 5 0), .c (.v (.int .i64 20))], o0 := [(5, .var [.bs (LEN w14) 1 (row GD (encI .u8) w14), .v (.int .i64 w15), .v (.int .i64 w16)])], r := .c (.v (.int .i64 y38.1)), o1 := [(5, .var [.bs (LEN y38.2.gcode) 1 (row GD (encI .u8) y38.2.gcode), .v (.int .i64 y38.2.gat), .v (.int .i64 y38.2.gseed)])], fl := false, σ := [(5, 704)], τ := [(5, 704)] }, hf_spec_l01Next_mPbb _ _ _ hy39, ⟨les_cons (lR _) (les_cons (lR _) (les_nil)), ⟨rfl, trivial⟩, rfl, rfl, rfl, rfl, ⟨fun _ => rfl, trivial⟩, rfl⟩, ?_⟩
   cbv
   replace h := of_bind h
   obtain ⟨y40, hy41, h⟩ := h
   obtain ⟨S44, hS45⟩ : ∃ S, S = some (sparse 51 [(2, .c (.ptr 128 0)), (5, .c (.ptr 320 0)), (6, .c (.ptr 704 0)), (7, .c (.ptr 448 0)), (8, .c (.v (.int .i64 y3.2.1))), (9, .c (.v (.int .i64 y40.1)))] [(128, .var [.v (.slice none 0 0)]), (320, .var [.v (.int .i64 0), .v (.int .i64 0), .v (.int .i64 0), .v (.int .i64 0)]), (704, .var [.bs (LEN y40.2.1) 1 (row GD (encI .u8) y40.2.1), .v (.int .i64 y40.2.2.1), .v (.int .i64 y40.2.2.2)]), (448, .var [.os 896 0 (LEN y3.1.fCells)]), (896, .arr .rw [] (LEN y3.1.fCells) 4 (row GD (oncCell LEN GD) y3.1.fCells))]) := ⟨_, rfl⟩
   refine ⟨S44, ?_, ?_⟩
   ·clear h
    have h := hy41
    clear hy41
    cbv
    refine fork (fun b52 => ?_) (fun b52 => ?_)
    ·replace h := of_br_t b52 h
     cbv
     replace h := of_bind h
     obtain ⟨y50, hy51, h⟩ := h
     refine ⟨{ args := [.c (.ptr 5 0), .c (.v (.int .i64 2))], o0 := [(5, .var [.bs (LEN y38.2.gcode) 1 (row GD (encI .u8) y38.2.gcode), .v (.int .i64 y38.2.gat), .v (.int .i64 y38.2.gseed)])], r := .c (.v (.int .i64 y50.1)), o1 := [(5, .var [.bs (LEN y50.2.gcode) 1 (row GD (encI .u8) y50.2.gcode), .v (.int .i64 y50.2.gat), .v (.int .i64 y50.2.gseed)])], fl := false, σ := [(5, 704)], τ := [(5, 704)] }, hf_spec_l01Next_mPbb _ _ _ hy51, ⟨les_cons (lR _) (les_cons (lR _) (les_nil)), ⟨rfl, trivial⟩, rfl, rfl, rfl, rfl, ⟨fun _ => rfl, trivial⟩, rfl⟩, ?_⟩
     cbv
     injection h with h
     subst h
     subst hS45
     show St.le _ _
     exact le_sparse rfl ⟨lR _, lR _, lR _, lR _, lR _, lR _, trivial⟩ ⟨rfl, rfl, rfl, rfl, oS, trivial⟩ rfl
    ·replace h := of_br_f b52 h
     cbv
     injection h with h
     subst h
     subst hS45
     show St.le _ _
     exact le_sparse rfl ⟨lR _, lR _, lR _, lR _, lR _, lR _, trivial⟩ ⟨rfl, rfl, rfl, rfl, oS, trivial⟩ rfl
   ·clear hy41
    subst hS45
    obtain ⟨y40_0, y40_1, y40_2, y40_3⟩ := y40
    replace h := of_let h
    obtain ⟨w46, hw46, h⟩ := h
    have hw46 : w46 = y40_0 := hw46
    subst hw46
    replace h := of_let h
    obtain ⟨w47, hw47, h⟩ := h
    have hw47 : w47 = y40_1 := hw47
    subst hw47
    replace h := of_let h
    obtain ⟨w48, hw48, h⟩ := h
    have hw48 : w48 = y40_2 := hw48
    subst hw48
    replace h := of_let h
    obtain ⟨w49, hw49, h⟩ := h
    have hw49 : w49 = y40_3 := hw49
    subst hw49
    cbv
    replace h := of_bind h
    obtain ⟨y53, hy54, h⟩ := h
    refine ⟨{ args := [.c (.ptr 5 0)], o0 := [(5, .var [.bs (LEN w47) 1 (row GD (encI .u8) w47), .v (.int .i64 w48), .v (.int .i64 w49)])], r := .agg [.v (.int .i64 y53.1.fX0), .v (.int .i64 y53.1.fY0), .v (.int .i64 y53.1.fX1), .v (.int .i64 y53.1.fY1)], o1 := [(5, .var [.bs (LEN y53.2.gcode) 1 (row GD (encI .u8) y53.2.gcode), .v (.int .i64 y53.2.gat), .v (.int .i64 y53.2.gseed)])], fl := false, σ := [(5, 704)], τ := [(5, 704)] }, hf_spec_l12DrawWindow_mPb _ _ hy54, ⟨les_cons (lR _) (les_nil), ⟨rfl, trivial⟩, rfl, rfl, rfl, rfl, ⟨fun _ => rfl, trivial⟩, rfl⟩, ?_⟩
    cbv
    injection h with h
    subst h
    refine ⟨(sparse 51 [(2, .c (.ptr 128 0)), (3, .c (.v (.int .i64 y3.2.1))), (4, .c (.v (.int .i64 w46))), (5, .c (.ptr 320 0))] [(128, .var [.os 64000 0 (LEN y3.1.fCells)]), (320, .var [.v (.int .i64 y53.1.fX0), .v (.int .i64 y53.1.fY0), .v (.int .i64 y53.1.fX1), .v (.int .i64 y53.1.fY1)]), (64000, .arr .rw [] (LEN y3.1.fCells) 4 (row GD (oncCell LEN GD) y3.1.fCells))]), ?_, ?_⟩
    ·refine St.le_trans (le_ren 896 64000 (by decide) rfl) ?_
     exact le_sparse rfl ⟨lR _, lR _, lR _, lR _, trivial⟩ ⟨rfl, rfl, oS, trivial⟩ rfl
    ·exact ⟨lR _, ⟨oS, trivial⟩, rfl⟩

noncomputable def L_impl_IsName_x2 (a0 : ByteArray) : (Int) → Option ((Int) ⊕ ((Unit) ⊕ (Unit))) := fun x2 =>
 letO x2 fun v1 =>
 br (std.lt v1 (std.ofN (std.slen a0)))
 (((
    req (std.inR v1 (std.slen a0)) <|
    br (std.lt (std.sat a0 (std.toN v1)) 97)
    (req (std.inR v1 (std.slen a0)) <|
    br (std.lt (std.sat a0 (std.toN v1)) 48)
    (some true)
    (req (std.inR v1 (std.slen a0)) <|
    some (std.lt 57 (std.sat a0 (std.toN v1)))))
    (req (std.inR v1 (std.slen a0)) <|
    br (std.lt 122 (std.sat a0 (std.toN v1)))
    (req (std.inR v1 (std.slen a0)) <|
    br (std.lt (std.sat a0 (std.toN v1)) 48)
    (some true)
    (req (std.inR v1 (std.slen a0)) <|
    some (std.lt 57 (std.sat a0 (std.toN v1)))))
    (some false))
  ) : Option (Bool)).bind fun y14 =>
 letO y14 fun w20 =>
 br w20
 (some (.inr (.inl ())))
 (some (.inl (std.add .i64 v1 1))))
 (some (.inr (.inr ())))
/-- impl.IsName -/
noncomputable def F_impl_IsName (a0 : ByteArray) : Option (Bool) :=
 (whileP (σ := Int) (ρ := (Unit) ⊕ (Unit)) (L_impl_IsName_x2 a0) 0).bind fun y3 =>
 (match y3 with
  | .inl y3k0 => (
    some false)
  | .inr y3m0 =>
    ((
       br (std.le 1 (std.ofN (std.slen a0)))
       (some (std.le (std.ofN (std.slen a0)) 8))
       (some false)
     ) : Option (Bool)).bind fun y33 =>
    letO y33 fun w39 =>
    some w39)
theorem run_impl_IsName (a0 : ByteArray) (r : Bool) (h : F_impl_IsName a0 = some r) : Fun Try.prog 198 [.c (.v (.string a0))] [] (.c (.v (.bool r))) [] true := by
 refine Fun.of_wp (oneOf [4, 6]) tok mixed Try.func198 (by kernel_rfl) rfl Try.ntmps198 rfl trivial (fun _ => ⟨trivial, trivial⟩) ?_
 unfold F_impl_IsName at h
 unfold L_impl_IsName_x2 at h
 generalize hLEN : @len = LEN at *
 generalize hGD : @gd = GD at *
 generalize hA : std = A at *
 generalize hP : Try.prog = P at *
 cbv
 replace h := of_bind h
 obtain ⟨y3, hr4, hN5⟩ := h
 refine loop_cut hr4 (fun x => (sparse 40 [(0, .c (.v (.string a0))), (3, .c (.v (.int .i64 x)))] [])) ?_ (fun y e s => (match y with | .inl w => e = .ret ∧ s.le (sparse 40 [(2, .c (.v (.bool false)))] []) | .inr w0 => (fun (w : Unit) => e = .exit 0 ∧ s.le (sparse 40 [(0, .c (.v (.string a0)))] [])) w0)) ?_ ?_
 ·clear hr4 hN5
  show St.le _ _
  exact le_sparse rfl ⟨lR _, lR _, trivial⟩ trivial rfl
 ·clear hr4 hN5
  intro x z9 h K7 hK8 hY6
  replace h := of_let h
  obtain ⟨v1, hv1, h⟩ := h
  have hv1 : v1 = x := hv1
  subst hv1
  cbv
  refine fork (fun b32 => ?_) (fun b32 => ?_)
  ·replace h := of_br_t b32 h
   cbv
   replace h := of_bind h
   obtain ⟨y14, hy15, h⟩ := h
   obtain ⟨S18, hS19⟩ : ∃ S, S = (sparse 40 [(0, .c (.v (.string a0))), (3, .c (.v (.int .i64 v1))), (31, .c (.v (.bool y14)))] []) := ⟨_, rfl⟩
   refine ⟨S18, ?_, ?_⟩
   ·clear h
    have h := hy15
    clear hy15
    cbv
    replace h := of_req h
    obtain ⟨c21, h⟩ := h
    refine ⟨c21, ?_⟩
    refine fork (fun b30 => ?_) (fun b30 => ?_)
    ·replace h := of_br_t b30 h
     cbv
     replace h := of_req h
     obtain ⟨c27, h⟩ := h
     refine ⟨c27, ?_⟩
     refine fork (fun b29 => ?_) (fun b29 => ?_)
     ·replace h := of_br_t b29 h
      cbv
      injection h with h
      subst h
      subst hS19
      show St.le _ _
      exact le_sparse rfl ⟨lR _, lR _, lR _, trivial⟩ trivial rfl
     ·replace h := of_br_f b29 h
      cbv
      replace h := of_req h
      obtain ⟨c28, h⟩ := h
      refine ⟨c28, ?_⟩
      injection h with h
      subst h
      subst hS19
      show St.le _ _
      exact le_sparse rfl ⟨lR _, lR _, lR _, trivial⟩ trivial rfl
    ·replace h := of_br_f b30 h
     cbv
     replace h := of_req h
     obtain ⟨c22, h⟩ := h
     refine ⟨c22, ?_⟩
     refine fork (fun b26 => ?_) (fun b26 => ?_)
     ·replace h := of_br_t b26 h
      cbv
      replace h := of_req h
      obtain ⟨c23, h⟩ := h
      refine ⟨c23, ?_⟩
      refine fork (fun b25 => ?_) (fun b25 => ?_)
      ·replace h := of_br_t b25 h
       cbv
       injection h with h
       subst h
       subst hS19
       show St.le _ _
       exact le_sparse rfl ⟨lR _, lR _, lR _, trivial⟩ trivial rfl
      ·replace h := of_br_f b25 h
       cbv
       replace h := of_req h
       obtain ⟨c24, h⟩ := h
       refine ⟨c24, ?_⟩
       injection h with h
       subst h
       subst hS19
       show St.le _ _
       exact le_sparse rfl ⟨lR _, lR _, lR _, trivial⟩ trivial rfl
     ·replace h := of_br_f b26 h
      cbv
      injection h with h
      subst h
      subst hS19
      show St.le _ _
      exact le_sparse rfl ⟨lR _, lR _, lR _, trivial⟩ trivial rfl
   ·clear hy15
    subst hS19
    replace h := of_let h
    obtain ⟨w20, hw20, h⟩ := h
    have hw20 : w20 = y14 := hw20
    subst hw20
    cbv
    refine fork (fun b31 => ?_) (fun b31 => ?_)
    ·replace h := of_br_t b31 h
     cbv
     injection h with h
     refine hY6 _ h.symm _ _ (And.intro rfl ?_) (by intro hh; cases hh)
     exact le_sparse rfl ⟨lR _, trivial⟩ trivial rfl
    ·replace h := of_br_f b31 h
     cbv
     injection h with h
     refine hK8 _ h.symm _ ?_
     exact le_sparse rfl ⟨lR _, lR _, trivial⟩ trivial rfl
  ·replace h := of_br_f b32 h
   cbv
   injection h with h
   refine hY6 _ h.symm _ _ (And.intro rfl ?_) (by intro hh; cases hh)
   exact le_sparse rfl ⟨lR _, trivial⟩ trivial rfl
 ·clear hr4
  have h := hN5
  clear hN5
  intro e12 s13 q11 hne
  rcases y3 with y3k0 | y3m0
  ·replace h := h
   obtain ⟨rfl, q11⟩ := q11
   cbv
   injection h with h
   subst h
   refine ⟨(sparse 40 [(2, .c (.v (.bool false)))] []), ?_, ?_⟩
   ·refine St.le_trans q11 ?_
    exact le_sparse rfl ⟨lR _, trivial⟩ trivial rfl
   ·exact ⟨lR _, trivial, rfl⟩
  ·obtain ⟨rfl, q11⟩ := q11
   cbv
   refine ⟨_, q11, ?_⟩
   cbv
   replace h := of_bind h
   obtain ⟨y33, hy34, h⟩ := h
   obtain ⟨S37, hS38⟩ : ∃ S, S = (sparse 40 [(2, .c (.v (.bool y33)))] []) := ⟨_, rfl⟩
   refine ⟨S37, ?_, ?_⟩
   ·clear h
    have h := hy34
    clear hy34
    cbv
    refine fork (fun b40 => ?_) (fun b40 => ?_)
    ·replace h := of_br_t b40 h
     cbv
     injection h with h
     subst h
     subst hS38
     show St.le _ _
     exact le_sparse rfl ⟨lR _, trivial⟩ trivial rfl
    ·replace h := of_br_f b40 h
     cbv
     injection h with h
     subst h
     subst hS38
     show St.le _ _
     exact le_sparse rfl ⟨lR _, trivial⟩ trivial rfl
   ·clear hy34
    subst hS38
    replace h := of_let h
    obtain ⟨w39, hw39, h⟩ := h
    have hw39 : w39 = y33 := hw39
    subst hw39
    cbv
    injection h with h
    subst h
    refine ⟨(sparse 40 [(2, .c (.v (.bool w39)))] []), ?_, ?_⟩
    ·exact le_sparse rfl ⟨lR _, trivial⟩ trivial rfl
    ·exact ⟨lR _, trivial, rfl⟩

/-- impl.within -/
noncomputable def F_impl_within (a0 : Int) (a1 : Int) (a2 : Int) : Option (Bool) :=
 ((
    br (std.le a1 a0)
    (some (std.le a0 a2))
    (some false)
  ) : Option (Bool)).bind fun y1 =>
 letO y1 fun w7 =>
 some w7
theorem run_impl_within (a0 : Int) (a1 : Int) (a2 : Int) (r : Bool) (h : F_impl_within a0 a1 a2 = some r) : Fun Try.prog 71 [.c (.v (.int .i64 a0)), .c (.v (.int .i64 a1)), .c (.v (.int .i64 a2))] [] (.c (.v (.bool r))) [] true := by
 refine Fun.of_wp (oneOf [1]) tok mixed Try.func71 (by kernel_rfl) rfl Try.ntmps71 rfl trivial (fun _ => ⟨trivial, trivial⟩) ?_
 unfold F_impl_within at h
 generalize hLEN : @len = LEN at *
 generalize hGD : @gd = GD at *
 generalize hA : std = A at *
 generalize hP : Try.prog = P at *
 cbv
 replace h := of_bind h
 obtain ⟨y1, hy2, h⟩ := h
 obtain ⟨S5, hS6⟩ : ∃ S, S = (sparse 15 [(6, .c (.v (.bool y1)))] []) := ⟨_, rfl⟩
 refine ⟨S5, ?_, ?_⟩
 ·clear h
  have h := hy2
  clear hy2
  cbv
  refine fork (fun b8 => ?_) (fun b8 => ?_)
  ·replace h := of_br_t b8 h
   cbv
   injection h with h
   subst h
   subst hS6
   show St.le _ _
   exact le_sparse rfl ⟨lR _, trivial⟩ trivial rfl
  ·replace h := of_br_f b8 h
   cbv
   injection h with h
   subst h
   subst hS6
   show St.le _ _
   exact le_sparse rfl ⟨lR _, trivial⟩ trivial rfl
 ·clear hy2
  subst hS6
  replace h := of_let h
  obtain ⟨w7, hw7, h⟩ := h
  have hw7 : w7 = y1 := hw7
  subst hw7
  cbv
  injection h with h
  subst h
  refine ⟨(sparse 15 [(6, .c (.v (.bool w7)))] []), ?_, ?_⟩
  ·exact le_sparse rfl ⟨lR _, trivial⟩ trivial rfl
  ·exact ⟨lR _, trivial, rfl⟩

/-- impl.IsValidRect -/
noncomputable def F_impl_IsValidRect (a0 : TRect) : Option (Bool) :=
 ((
    br (std.le (-40) a0.fX0)
    (br (std.lt a0.fX0 a0.fX1)
    (br (std.le a0.fX1 40)
    (br (std.le (-40) a0.fY0)
    (br (std.lt a0.fY0 a0.fY1)
    (some (std.le a0.fY1 40))
    (some false))
    (some false))
    (some false))
    (some false))
    (some false)
  ) : Option (Bool)).bind fun y1 =>
 letO y1 fun w7 =>
 some w7
theorem run_impl_IsValidRect (a0 : TRect) (r : Bool) (h : F_impl_IsValidRect a0 = some r) : Fun Try.prog 74 [.agg [.v (.int .i64 a0.fX0), .v (.int .i64 a0.fY0), .v (.int .i64 a0.fX1), .v (.int .i64 a0.fY1)]] [] (.c (.v (.bool r))) [] true := by
 refine Fun.of_wp (oneOf [1]) tok mixed Try.func74 (by kernel_rfl) rfl Try.ntmps74 rfl trivial (fun _ => ⟨trivial, trivial⟩) ?_
 unfold F_impl_IsValidRect at h
 generalize hLEN : @len = LEN at *
 generalize hGD : @gd = GD at *
 generalize hA : std = A at *
 generalize hP : Try.prog = P at *
 cbv
 replace h := of_bind h
 obtain ⟨y1, hy2, h⟩ := h
 obtain ⟨S5, hS6⟩ : ∃ S, S = (sparse 35 [(2, .c (.v (.bool y1)))] []) := ⟨_, rfl⟩
 refine ⟨S5, ?_, ?_⟩
 ·clear h
  have h := hy2
  clear hy2
  cbv
  refine fork (fun b12 => ?_) (fun b12 => ?_)
  ·replace h := of_br_t b12 h
   cbv
   refine fork (fun b11 => ?_) (fun b11 => ?_)
   ·replace h := of_br_t b11 h
    cbv
    refine fork (fun b10 => ?_) (fun b10 => ?_)
    ·replace h := of_br_t b10 h
     cbv
     refine fork (fun b9 => ?_) (fun b9 => ?_)
     ·replace h := of_br_t b9 h
      cbv
      refine fork (fun b8 => ?_) (fun b8 => ?_)
      ·replace h := of_br_t b8 h
       cbv
       injection h with h
       subst h
       subst hS6
       show St.le _ _
       exact le_sparse rfl ⟨lR _, trivial⟩ trivial rfl
      ·replace h := of_br_f b8 h
       cbv
       injection h with h
       subst h
       subst hS6
       show St.le _ _
       exact le_sparse rfl ⟨lR _, trivial⟩ trivial rfl
     ·replace h := of_br_f b9 h
      cbv
      injection h with h
      subst h
      subst hS6
      show St.le _ _
      exact le_sparse rfl ⟨lR _, trivial⟩ trivial rfl
    ·replace h := of_br_f b10 h
     cbv
     injection h with h
     subst h
     subst hS6
     show St.le _ _
     exact le_sparse rfl ⟨lR _, trivial⟩ trivial rfl
   ·replace h := of_br_f b11 h
    cbv
    injection h with h
    subst h
    subst hS6
    show St.le _ _
    exact le_sparse rfl ⟨lR _, trivial⟩ trivial rfl
  ·replace h := of_br_f b12 h
   cbv
   injection h with h
   subst h
   subst hS6
   show St.le _ _
   exact le_sparse rfl ⟨lR _, trivial⟩ trivial rfl
 ·clear hy2
  subst hS6
  replace h := of_let h
  obtain ⟨w7, hw7, h⟩ := h
  have hw7 : w7 = y1 := hw7
  subst hw7
  cbv
  injection h with h
  subst h
  refine ⟨(sparse 35 [(2, .c (.v (.bool w7)))] []), ?_, ?_⟩
  ·exact le_sparse rfl ⟨lR _, trivial⟩ trivial rfl
  ·exact ⟨lR _, trivial, rfl⟩

/-- impl.validShape -/
noncomputable def F_impl_validShape (a0 : TShape) : Option (Bool) :=
 ((
    (F_impl_within a0.fLayer 0 7).bind fun y8 =>
    br y8
    ((F_impl_IsValidRect a0.fBox).bind fun y10 =>
    some y10)
    (some false)
  ) : Option (Bool)).bind fun y1 =>
 letO y1 fun w7 =>
 some w7
theorem run_impl_validShape (a0 : TShape) (r : Bool) (h : F_impl_validShape a0 = some r) : Fun Try.prog 201 [.agg [.v (.int .i64 a0.fLayer), .v (.int .i64 a0.fBox.fX0), .v (.int .i64 a0.fBox.fY0), .v (.int .i64 a0.fBox.fX1), .v (.int .i64 a0.fBox.fY1)]] [] (.c (.v (.bool r))) [] true := by
 refine Fun.of_wp (oneOf [1]) tok mixed Try.func201 (by kernel_rfl) rfl Try.ntmps201 rfl trivial (fun _ => ⟨trivial, trivial⟩) ?_
 unfold F_impl_validShape at h
 have hf_impl_IsValidRect := @run_impl_IsValidRect
 have hf_impl_within := @run_impl_within
 generalize hLEN : @len = LEN at *
 generalize hGD : @gd = GD at *
 generalize hA : std = A at *
 generalize hP : Try.prog = P at *
 cbv
 replace h := of_bind h
 obtain ⟨y1, hy2, h⟩ := h
 obtain ⟨S5, hS6⟩ : ∃ S, S = (sparse 11 [(2, .c (.v (.bool y1)))] []) := ⟨_, rfl⟩
 refine ⟨S5, ?_, ?_⟩
 ·clear h
  have h := hy2
  clear hy2
  cbv
  replace h := of_bind h
  obtain ⟨y8, hy9, h⟩ := h
  refine ⟨{ args := [.c (.v (.int .i64 a0.fLayer)), .c (.v (.int .i64 0)), .c (.v (.int .i64 7))], o0 := [], r := .c (.v (.bool y8)), o1 := [], fl := true, σ := [], τ := [] }, hf_impl_within _ _ _ _ hy9, ⟨les_cons (lR _) (les_cons (lR _) (les_cons (lR _) (les_nil))), trivial, rfl, rfl, rfl, rfl, trivial, rfl⟩, ?_⟩
  cbv
  refine fork (fun b12 => ?_) (fun b12 => ?_)
  ·replace h := of_br_t b12 h
   cbv
   replace h := of_bind h
   obtain ⟨y10, hy11, h⟩ := h
   refine ⟨{ args := [.agg [.v (.int .i64 a0.fBox.fX0), .v (.int .i64 a0.fBox.fY0), .v (.int .i64 a0.fBox.fX1), .v (.int .i64 a0.fBox.fY1)]], o0 := [], r := .c (.v (.bool y10)), o1 := [], fl := true, σ := [], τ := [] }, hf_impl_IsValidRect _ _ hy11, ⟨les_cons (lR _) (les_nil), trivial, rfl, rfl, rfl, rfl, trivial, rfl⟩, ?_⟩
   cbv
   injection h with h
   subst h
   subst hS6
   show St.le _ _
   exact le_sparse rfl ⟨lR _, trivial⟩ trivial rfl
  ·replace h := of_br_f b12 h
   cbv
   injection h with h
   subst h
   subst hS6
   show St.le _ _
   exact le_sparse rfl ⟨lR _, trivial⟩ trivial rfl
 ·clear hy2
  subst hS6
  replace h := of_let h
  obtain ⟨w7, hw7, h⟩ := h
  have hw7 : w7 = y1 := hw7
  subst hw7
  cbv
  injection h with h
  subst h
  refine ⟨(sparse 11 [(2, .c (.v (.bool w7)))] []), ?_, ?_⟩
  ·exact le_sparse rfl ⟨lR _, trivial⟩ trivial rfl
  ·exact ⟨lR _, trivial, rfl⟩
/-- impl.validCell$1 -/
noncomputable def F_impl_validCell_1 (a0 : TShape) : Option (Bool) :=
 (F_impl_validShape (TShape.mk a0.fLayer a0.fBox)).bind fun y1 =>
 some (!(y1))
theorem run_impl_validCell_1 (a0 : TShape) (r : Bool) (h : F_impl_validCell_1 a0 = some r) : Fun Try.prog 200 [.agg [.v (.int .i64 a0.fLayer), .v (.int .i64 a0.fBox.fX0), .v (.int .i64 a0.fBox.fY0), .v (.int .i64 a0.fBox.fX1), .v (.int .i64 a0.fBox.fY1)]] [] (.c (.v (.bool r))) [] true := by
 refine Fun.of_wp (oneOf []) tok mixed Try.func200 (by kernel_rfl) rfl Try.ntmps200 rfl trivial (fun _ => ⟨trivial, trivial⟩) ?_
 unfold F_impl_validCell_1 at h
 have hf_impl_validShape := @run_impl_validShape
 generalize hLEN : @len = LEN at *
 generalize hGD : @gd = GD at *
 generalize hA : std = A at *
 generalize hP : Try.prog = P at *
 cbv
 replace h := of_bind h
 obtain ⟨y1, hy2, h⟩ := h
 refine ⟨{ args := [.agg [.v (.int .i64 a0.fLayer), .v (.int .i64 a0.fBox.fX0), .v (.int .i64 a0.fBox.fY0), .v (.int .i64 a0.fBox.fX1), .v (.int .i64 a0.fBox.fY1)]], o0 := [], r := .c (.v (.bool y1)), o1 := [], fl := true, σ := [], τ := [] }, hf_impl_validShape _ _ hy2, ⟨les_cons (lR _) (les_nil), trivial, rfl, rfl, rfl, rfl, trivial, rfl⟩, ?_⟩
 cbv
 injection h with h
 subst h
 refine ⟨(sparse 6 [(2, .c (.v (.bool (!(y1)))))] []), ?_, ?_⟩
 ·exact le_sparse rfl ⟨lR _, trivial⟩ trivial rfl
 ·exact ⟨lR _, trivial, rfl⟩

noncomputable def L_slices_IndexFunc_Limpl_Shape_impl_Shape_mbFimpl_validCell_1_x2 (a0 : List TShape) : (Int) → Option ((Int) ⊕ ((Int) ⊕ (Unit))) := fun x2 =>
 letO x2 fun v1 =>
 br (std.lt v1 (std.ofN (len a0)))
 (req (std.inR v1 (len a0)) <|
 (F_impl_validCell_1 (gd a0 (std.toN v1))).bind fun y15 =>
 br y15
 (some (.inr (.inl v1)))
 (some (.inl (std.add .i64 v1 1))))
 (some (.inr (.inr ())))
/-- impl.Shape] -/
noncomputable def F_slices_IndexFunc_Limpl_Shape_impl_Shape_mbFimpl_validCell_1 (a0 : List TShape) : Option (Int) :=
 (whileP (σ := Int) (ρ := (Int) ⊕ (Unit)) (L_slices_IndexFunc_Limpl_Shape_impl_Shape_mbFimpl_validCell_1_x2 a0) 0).bind fun y3 =>
 (match y3 with
  | .inl y3k0 => (
    letO y3k0 fun w19 =>
    some w19)
  | .inr y3m0 =>
    some (-1))
theorem run_slices_IndexFunc_Limpl_Shape_impl_Shape_mbFimpl_validCell_1 (a0 : List TShape) (r : Int) (h : F_slices_IndexFunc_Limpl_Shape_impl_Shape_mbFimpl_validCell_1 a0 = some r) : Fun Try.prog 250 [.c (.bs (len a0) 5 (row gd (encShape) a0)), .c (.fn 200 0 fun _ => .junk)] [] (.c (.v (.int .i64 r))) [] true := by
 refine Fun.of_wp (oneOf []) tok mixed Try.func250 (by kernel_rfl) rfl Try.ntmps250 rfl trivial (fun _ => ⟨trivial, trivial⟩) ?_
 unfold F_slices_IndexFunc_Limpl_Shape_impl_Shape_mbFimpl_validCell_1 at h
 unfold L_slices_IndexFunc_Limpl_Shape_impl_Shape_mbFimpl_validCell_1_x2 at h
 have hf_impl_validCell_1 := @run_impl_validCell_1
 generalize hLEN : @len = LEN at *
 generalize hGD : @gd = GD at *
 generalize hA : std = A at *
 generalize hP : Try.prog = P at *
 cbv
 replace h := of_bind h
 obtain ⟨y3, hr4, hN5⟩ := h
 refine loop_cut hr4 (fun x => (sparse 19 [(0, .c (.bs (LEN a0) 5 (row GD (encShape) a0))), (1, .c (.fn 200 0 fun _ => .junk)), (7, .c (.v (.int .i64 (A.ofN (LEN a0))))), (8, .c (.v (.int .i64 x)))] [])) ?_ (fun y e s => (match y with | .inl w => e = .ret ∧ s.le (sparse 19 [(4, .c (.v (.int .i64 w)))] []) | .inr w0 => (fun (w : Unit) => e = .exit 0 ∧ s.le (sparse 19 [] [])) w0)) ?_ ?_
 ·clear hr4 hN5
  show St.le _ _
  exact le_sparse rfl ⟨lR _, lR _, lR _, lR _, trivial⟩ trivial rfl
 ·clear hr4 hN5
  intro x z9 h K7 hK8 hY6
  replace h := of_let h
  obtain ⟨v1, hv1, h⟩ := h
  have hv1 : v1 = x := hv1
  subst hv1
  cbv
  refine fork (fun b18 => ?_) (fun b18 => ?_)
  ·replace h := of_br_t b18 h
   cbv
   replace h := of_req h
   obtain ⟨c14, h⟩ := h
   refine ⟨⟨c14, trivial⟩, ?_⟩
   replace h := of_bind h
   obtain ⟨y15, hy16, h⟩ := h
   refine ⟨{ args := [.agg [.v (.int .i64 (GD a0 (A.toN v1)).fLayer), .v (.int .i64 (GD a0 (A.toN v1)).fBox.fX0), .v (.int .i64 (GD a0 (A.toN v1)).fBox.fY0), .v (.int .i64 (GD a0 (A.toN v1)).fBox.fX1), .v (.int .i64 (GD a0 (A.toN v1)).fBox.fY1)]], o0 := [], r := .c (.v (.bool y15)), o1 := [], fl := true, σ := [], τ := [] }, hf_impl_validCell_1 _ _ hy16, ⟨les_cons (lR _) (les_nil), trivial, rfl, rfl, rfl, rfl, trivial, rfl⟩, ?_⟩
   cbv
   refine fork (fun b17 => ?_) (fun b17 => ?_)
   ·replace h := of_br_t b17 h
    cbv
    injection h with h
    refine hY6 _ h.symm _ _ (And.intro rfl ?_) (by intro hh; cases hh)
    exact le_sparse rfl ⟨lR _, trivial⟩ trivial rfl
   ·replace h := of_br_f b17 h
    cbv
    injection h with h
    refine hK8 _ h.symm _ ?_
    exact le_sparse rfl ⟨lR _, lR _, lR _, lR _, trivial⟩ trivial rfl
  ·replace h := of_br_f b18 h
   cbv
   injection h with h
   refine hY6 _ h.symm _ _ (And.intro rfl ?_) (by intro hh; cases hh)
   exact le_sparse rfl trivial trivial rfl
 ·clear hr4
  have h := hN5
  clear hN5
  intro e12 s13 q11 hne
  rcases y3 with y3k0 | y3m0
  ·replace h := h
   obtain ⟨rfl, q11⟩ := q11
   replace h := of_let h
   obtain ⟨w19, hw19, h⟩ := h
   have hw19 : w19 = y3k0 := hw19
   subst hw19
   cbv
   injection h with h
   subst h
   refine ⟨(sparse 19 [(4, .c (.v (.int .i64 w19)))] []), ?_, ?_⟩
   ·refine St.le_trans q11 ?_
    exact le_sparse rfl ⟨lR _, trivial⟩ trivial rfl
   ·exact ⟨lR _, trivial, rfl⟩
  ·obtain ⟨rfl, q11⟩ := q11
   cbv
   refine ⟨_, q11, ?_⟩
   cbv
   injection h with h
   subst h
   refine ⟨(sparse 19 [(4, .c (.v (.int .i64 (-1))))] []), ?_, ?_⟩
   ·exact le_sparse rfl ⟨lR _, trivial⟩ trivial rfl
   ·exact ⟨lR _, trivial, rfl⟩

/-- impl.Shape] -/
noncomputable def F_slices_ContainsFunc_Limpl_Shape_impl_Shape_mbFimpl_validCell_1 (a0 : List TShape) : Option (Bool) :=
 (F_slices_IndexFunc_Limpl_Shape_impl_Shape_mbFimpl_validCell_1 a0).bind fun y1 =>
 some (std.le 0 y1)
theorem run_slices_ContainsFunc_Limpl_Shape_impl_Shape_mbFimpl_validCell_1 (a0 : List TShape) (r : Bool) (h : F_slices_ContainsFunc_Limpl_Shape_impl_Shape_mbFimpl_validCell_1 a0 = some r) : Fun Try.prog 199 [.c (.bs (len a0) 5 (row gd (encShape) a0)), .c (.fn 200 0 fun _ => .junk)] [] (.c (.v (.bool r))) [] true := by
 refine Fun.of_wp (oneOf []) tok mixed Try.func199 (by kernel_rfl) rfl Try.ntmps199 rfl trivial (fun _ => ⟨trivial, trivial⟩) ?_
 unfold F_slices_ContainsFunc_Limpl_Shape_impl_Shape_mbFimpl_validCell_1 at h
 have hf_slices_IndexFunc_Limpl_Shape_impl_Shape_mbFimpl_validCell_1 := @run_slices_IndexFunc_Limpl_Shape_impl_Shape_mbFimpl_validCell_1
 generalize hLEN : @len = LEN at *
 generalize hGD : @gd = GD at *
 generalize hA : std = A at *
 generalize hP : Try.prog = P at *
 cbv
 replace h := of_bind h
 obtain ⟨y1, hy2, h⟩ := h
 refine ⟨{ args := [.c (.bs (LEN a0) 5 (row GD (encShape) a0)), .c (.fn 200 0 fun _ => .junk)], o0 := [], r := .c (.v (.int .i64 y1)), o1 := [], fl := true, σ := [], τ := [] }, hf_slices_IndexFunc_Limpl_Shape_impl_Shape_mbFimpl_validCell_1 _ _ hy2, ⟨les_cons (lR _) (les_cons (lR _) (les_nil)), trivial, rfl, rfl, rfl, rfl, trivial, rfl⟩, ?_⟩
 cbv
 injection h with h
 subst h
 refine ⟨(sparse 9 [(4, .c (.v (.bool (A.le 0 y1))))] []), ?_, ?_⟩
 ·exact le_sparse rfl ⟨lR _, trivial⟩ trivial rfl
 ·exact ⟨lR _, trivial, rfl⟩

/-- impl.isUnitCell -/
noncomputable def F_impl_isUnitCell (a0 : TPoint) : Option (Bool) :=
 ((
    (F_impl_within a0.fX (-40) 39).bind fun y8 =>
    br y8
    ((F_impl_within a0.fY (-40) 39).bind fun y10 =>
    some y10)
    (some false)
  ) : Option (Bool)).bind fun y1 =>
 letO y1 fun w7 =>
 some w7
theorem run_impl_isUnitCell (a0 : TPoint) (r : Bool) (h : F_impl_isUnitCell a0 = some r) : Fun Try.prog 63 [.agg [.v (.int .i64 a0.fX), .v (.int .i64 a0.fY)]] [] (.c (.v (.bool r))) [] true := by
 refine Fun.of_wp (oneOf [1]) tok mixed Try.func63 (by kernel_rfl) rfl Try.ntmps63 rfl trivial (fun _ => ⟨trivial, trivial⟩) ?_
 unfold F_impl_isUnitCell at h
 have hf_impl_within := @run_impl_within
 generalize hLEN : @len = LEN at *
 generalize hGD : @gd = GD at *
 generalize hA : std = A at *
 generalize hP : Try.prog = P at *
 cbv
 replace h := of_bind h
 obtain ⟨y1, hy2, h⟩ := h
 obtain ⟨S5, hS6⟩ : ∃ S, S = (sparse 11 [(2, .c (.v (.bool y1)))] []) := ⟨_, rfl⟩
 refine ⟨S5, ?_, ?_⟩
 ·clear h
  have h := hy2
  clear hy2
  cbv
  replace h := of_bind h
  obtain ⟨y8, hy9, h⟩ := h
  refine ⟨{ args := [.c (.v (.int .i64 a0.fX)), .c (.v (.int .i64 (-40))), .c (.v (.int .i64 39))], o0 := [], r := .c (.v (.bool y8)), o1 := [], fl := true, σ := [], τ := [] }, hf_impl_within _ _ _ _ hy9, ⟨les_cons (lR _) (les_cons (lR _) (les_cons (lR _) (les_nil))), trivial, rfl, rfl, rfl, rfl, trivial, rfl⟩, ?_⟩
  cbv
  refine fork (fun b12 => ?_) (fun b12 => ?_)
  ·replace h := of_br_t b12 h
   cbv
   replace h := of_bind h
   obtain ⟨y10, hy11, h⟩ := h
   refine ⟨{ args := [.c (.v (.int .i64 a0.fY)), .c (.v (.int .i64 (-40))), .c (.v (.int .i64 39))], o0 := [], r := .c (.v (.bool y10)), o1 := [], fl := true, σ := [], τ := [] }, hf_impl_within _ _ _ _ hy11, ⟨les_cons (lR _) (les_cons (lR _) (les_cons (lR _) (les_nil))), trivial, rfl, rfl, rfl, rfl, trivial, rfl⟩, ?_⟩
   cbv
   injection h with h
   subst h
   subst hS6
   show St.le _ _
   exact le_sparse rfl ⟨lR _, trivial⟩ trivial rfl
  ·replace h := of_br_f b12 h
   cbv
   injection h with h
   subst h
   subst hS6
   show St.le _ _
   exact le_sparse rfl ⟨lR _, trivial⟩ trivial rfl
 ·clear hy2
  subst hS6
  replace h := of_let h
  obtain ⟨w7, hw7, h⟩ := h
  have hw7 : w7 = y1 := hw7
  subst hw7
  cbv
  injection h with h
  subst h
  refine ⟨(sparse 11 [(2, .c (.v (.bool w7)))] []), ?_, ?_⟩
  ·exact le_sparse rfl ⟨lR _, trivial⟩ trivial rfl
  ·exact ⟨lR _, trivial, rfl⟩

/-- impl.validLabel -/
noncomputable def F_impl_validLabel (a0 : TLabel) : Option (Bool) :=
 ((
    (F_impl_within a0.fLayer 0 7).bind fun y8 =>
    br y8
    ((F_impl_isUnitCell a0.fAt).bind fun y10 =>
    br y10
    ((F_impl_IsName a0.fName).bind fun y12 =>
    some y12)
    (some false))
    (some false)
  ) : Option (Bool)).bind fun y1 =>
 letO y1 fun w7 =>
 some w7
theorem run_impl_validLabel (a0 : TLabel) (r : Bool) (h : F_impl_validLabel a0 = some r) : Fun Try.prog 204 [.agg [.v (.int .i64 a0.fLayer), .v (.int .i64 a0.fAt.fX), .v (.int .i64 a0.fAt.fY), .v (.string a0.fName)]] [] (.c (.v (.bool r))) [] true := by
 refine Fun.of_wp (oneOf [1]) tok mixed Try.func204 (by kernel_rfl) rfl Try.ntmps204 rfl trivial (fun _ => ⟨trivial, trivial⟩) ?_
 unfold F_impl_validLabel at h
 have hf_impl_IsName := @run_impl_IsName
 have hf_impl_isUnitCell := @run_impl_isUnitCell
 have hf_impl_within := @run_impl_within
 generalize hLEN : @len = LEN at *
 generalize hGD : @gd = GD at *
 generalize hA : std = A at *
 generalize hP : Try.prog = P at *
 cbv
 replace h := of_bind h
 obtain ⟨y1, hy2, h⟩ := h
 obtain ⟨S5, hS6⟩ : ∃ S, S = (sparse 16 [(2, .c (.v (.bool y1)))] []) := ⟨_, rfl⟩
 refine ⟨S5, ?_, ?_⟩
 ·clear h
  have h := hy2
  clear hy2
  cbv
  replace h := of_bind h
  obtain ⟨y8, hy9, h⟩ := h
  refine ⟨{ args := [.c (.v (.int .i64 a0.fLayer)), .c (.v (.int .i64 0)), .c (.v (.int .i64 7))], o0 := [], r := .c (.v (.bool y8)), o1 := [], fl := true, σ := [], τ := [] }, hf_impl_within _ _ _ _ hy9, ⟨les_cons (lR _) (les_cons (lR _) (les_cons (lR _) (les_nil))), trivial, rfl, rfl, rfl, rfl, trivial, rfl⟩, ?_⟩
  cbv
  refine fork (fun b15 => ?_) (fun b15 => ?_)
  ·replace h := of_br_t b15 h
   cbv
   replace h := of_bind h
   obtain ⟨y10, hy11, h⟩ := h
   refine ⟨{ args := [.agg [.v (.int .i64 a0.fAt.fX), .v (.int .i64 a0.fAt.fY)]], o0 := [], r := .c (.v (.bool y10)), o1 := [], fl := true, σ := [], τ := [] }, hf_impl_isUnitCell _ _ hy11, ⟨les_cons (lR _) (les_nil), trivial, rfl, rfl, rfl, rfl, trivial, rfl⟩, ?_⟩
   cbv
   refine fork (fun b14 => ?_) (fun b14 => ?_)
   ·replace h := of_br_t b14 h
    cbv
    replace h := of_bind h
    obtain ⟨y12, hy13, h⟩ := h
    refine ⟨{ args := [.c (.v (.string a0.fName))], o0 := [], r := .c (.v (.bool y12)), o1 := [], fl := true, σ := [], τ := [] }, hf_impl_IsName _ _ hy13, ⟨les_cons (lR _) (les_nil), trivial, rfl, rfl, rfl, rfl, trivial, rfl⟩, ?_⟩
    cbv
    injection h with h
    subst h
    subst hS6
    show St.le _ _
    exact le_sparse rfl ⟨lR _, trivial⟩ trivial rfl
   ·replace h := of_br_f b14 h
    cbv
    injection h with h
    subst h
    subst hS6
    show St.le _ _
    exact le_sparse rfl ⟨lR _, trivial⟩ trivial rfl
  ·replace h := of_br_f b15 h
   cbv
   injection h with h
   subst h
   subst hS6
   show St.le _ _
   exact le_sparse rfl ⟨lR _, trivial⟩ trivial rfl
 ·clear hy2
  subst hS6
  replace h := of_let h
  obtain ⟨w7, hw7, h⟩ := h
  have hw7 : w7 = y1 := hw7
  subst hw7
  cbv
  injection h with h
  subst h
  refine ⟨(sparse 16 [(2, .c (.v (.bool w7)))] []), ?_, ?_⟩
  ·exact le_sparse rfl ⟨lR _, trivial⟩ trivial rfl
  ·exact ⟨lR _, trivial, rfl⟩

/-- impl.validCell$2 -/
noncomputable def F_impl_validCell_2 (a0 : TLabel) : Option (Bool) :=
 (F_impl_validLabel (TLabel.mk a0.fLayer a0.fAt a0.fName)).bind fun y1 =>
 some (!(y1))
theorem run_impl_validCell_2 (a0 : TLabel) (r : Bool) (h : F_impl_validCell_2 a0 = some r) : Fun Try.prog 203 [.agg [.v (.int .i64 a0.fLayer), .v (.int .i64 a0.fAt.fX), .v (.int .i64 a0.fAt.fY), .v (.string a0.fName)]] [] (.c (.v (.bool r))) [] true := by
 refine Fun.of_wp (oneOf []) tok mixed Try.func203 (by kernel_rfl) rfl Try.ntmps203 rfl trivial (fun _ => ⟨trivial, trivial⟩) ?_
 unfold F_impl_validCell_2 at h
 have hf_impl_validLabel := @run_impl_validLabel
 generalize hLEN : @len = LEN at *
 generalize hGD : @gd = GD at *
 generalize hA : std = A at *
 generalize hP : Try.prog = P at *
 cbv
 replace h := of_bind h
 obtain ⟨y1, hy2, h⟩ := h
 refine ⟨{ args := [.agg [.v (.int .i64 a0.fLayer), .v (.int .i64 a0.fAt.fX), .v (.int .i64 a0.fAt.fY), .v (.string a0.fName)]], o0 := [], r := .c (.v (.bool y1)), o1 := [], fl := true, σ := [], τ := [] }, hf_impl_validLabel _ _ hy2, ⟨les_cons (lR _) (les_nil), trivial, rfl, rfl, rfl, rfl, trivial, rfl⟩, ?_⟩
 cbv
 injection h with h
 subst h
 refine ⟨(sparse 6 [(2, .c (.v (.bool (!(y1)))))] []), ?_, ?_⟩
 ·exact le_sparse rfl ⟨lR _, trivial⟩ trivial rfl
 ·exact ⟨lR _, trivial, rfl⟩
noncomputable def L_slices_IndexFunc_Limpl_Label_impl_Label_mbFimpl_validCell_2_x2 (a0 : List TLabel) : (Int) → Option ((Int) ⊕ ((Int) ⊕ (Unit))) := fun x2 =>
 letO x2 fun v1 =>
 br (std.lt v1 (std.ofN (len a0)))
 (req (std.inR v1 (len a0)) <|
 (F_impl_validCell_2 (gd a0 (std.toN v1))).bind fun y15 =>
 br y15
 (some (.inr (.inl v1)))
 (some (.inl (std.add .i64 v1 1))))
 (some (.inr (.inr ())))
/-- impl.Label] -/
noncomputable def F_slices_IndexFunc_Limpl_Label_impl_Label_mbFimpl_validCell_2 (a0 : List TLabel) : Option (Int) :=
 (whileP (σ := Int) (ρ := (Int) ⊕ (Unit)) (L_slices_IndexFunc_Limpl_Label_impl_Label_mbFimpl_validCell_2_x2 a0) 0).bind fun y3 =>
 (match y3 with
  | .inl y3k0 => (
    letO y3k0 fun w19 =>
    some w19)
  | .inr y3m0 =>
    some (-1))
theorem run_slices_IndexFunc_Limpl_Label_impl_Label_mbFimpl_validCell_2 (a0 : List TLabel) (r : Int) (h : F_slices_IndexFunc_Limpl_Label_impl_Label_mbFimpl_validCell_2 a0 = some r) : Fun Try.prog 251 [.c (.bs (len a0) 4 (row gd (encLabel) a0)), .c (.fn 203 0 fun _ => .junk)] [] (.c (.v (.int .i64 r))) [] true := by
 refine Fun.of_wp (oneOf []) tok mixed Try.func251 (by kernel_rfl) rfl Try.ntmps251 rfl trivial (fun _ => ⟨trivial, trivial⟩) ?_
 unfold F_slices_IndexFunc_Limpl_Label_impl_Label_mbFimpl_validCell_2 at h
 unfold L_slices_IndexFunc_Limpl_Label_impl_Label_mbFimpl_validCell_2_x2 at h
 have hf_impl_validCell_2 := @run_impl_validCell_2
 generalize hLEN : @len = LEN at *
 generalize hGD : @gd = GD at *
 generalize hA : std = A at *
 generalize hP : Try.prog = P at *
 cbv
 replace h := of_bind h
 obtain ⟨y3, hr4, hN5⟩ := h
 refine loop_cut hr4 (fun x => (sparse 19 [(0, .c (.bs (LEN a0) 4 (row GD (encLabel) a0))), (1, .c (.fn 203 0 fun _ => .junk)), (7, .c (.v (.int .i64 (A.ofN (LEN a0))))), (8, .c (.v (.int .i64 x)))] [])) ?_ (fun y e s => (match y with | .inl w => e = .ret ∧ s.le (sparse 19 [(4, .c (.v (.int .i64 w)))] []) | .inr w0 => (fun (w : Unit) => e = .exit 0 ∧ s.le (sparse 19 [] [])) w0)) ?_ ?_
 ·clear hr4 hN5
  show St.le _ _
  exact le_sparse rfl ⟨lR _, lR _, lR _, lR _, trivial⟩ trivial rfl
 ·clear hr4 hN5
  intro x z9 h K7 hK8 hY6
  replace h := of_let h
  obtain ⟨v1, hv1, h⟩ := h
  have hv1 : v1 = x := hv1
  subst hv1
  cbv
  refine fork (fun b18 => ?_) (fun b18 => ?_)
  ·replace h := of_br_t b18 h
   cbv
   replace h := of_req h
   obtain ⟨c14, h⟩ := h
   refine ⟨⟨c14, trivial⟩, ?_⟩
   replace h := of_bind h
   obtain ⟨y15, hy16, h⟩ := h
   refine ⟨{ args := [.agg [.v (.int .i64 (GD a0 (A.toN v1)).fLayer), .v (.int .i64 (GD a0 (A.toN v1)).fAt.fX), .v (.int .i64 (GD a0 (A.toN v1)).fAt.fY), .v (.string (GD a0 (A.toN v1)).fName)]], o0 := [], r := .c (.v (.bool y15)), o1 := [], fl := true, σ := [], τ := [] }, hf_impl_validCell_2 _ _ hy16, ⟨les_cons (lR _) (les_nil), trivial, rfl, rfl, rfl, rfl, trivial, rfl⟩, ?_⟩
   cbv
   refine fork (fun b17 => ?_) (fun b17 => ?_)
   ·replace h := of_br_t b17 h
    cbv
    injection h with h
    refine hY6 _ h.symm _ _ (And.intro rfl ?_) (by intro hh; cases hh)
    exact le_sparse rfl ⟨lR _, trivial⟩ trivial rfl
   ·replace h := of_br_f b17 h
    cbv
    injection h with h
    refine hK8 _ h.symm _ ?_
    exact le_sparse rfl ⟨lR _, lR _, lR _, lR _, trivial⟩ trivial rfl
  ·replace h := of_br_f b18 h
   cbv
   injection h with h
   refine hY6 _ h.symm _ _ (And.intro rfl ?_) (by intro hh; cases hh)
   exact le_sparse rfl trivial trivial rfl
 ·clear hr4
  have h := hN5
  clear hN5
  intro e12 s13 q11 hne
  rcases y3 with y3k0 | y3m0
  ·replace h := h
   obtain ⟨rfl, q11⟩ := q11
   replace h := of_let h
   obtain ⟨w19, hw19, h⟩ := h
   have hw19 : w19 = y3k0 := hw19
   subst hw19
   cbv
   injection h with h
   subst h
   refine ⟨(sparse 19 [(4, .c (.v (.int .i64 w19)))] []), ?_, ?_⟩
   ·refine St.le_trans q11 ?_
    exact le_sparse rfl ⟨lR _, trivial⟩ trivial rfl
   ·exact ⟨lR _, trivial, rfl⟩
  ·obtain ⟨rfl, q11⟩ := q11
   cbv
   refine ⟨_, q11, ?_⟩
   cbv
   injection h with h
   subst h
   refine ⟨(sparse 19 [(4, .c (.v (.int .i64 (-1))))] []), ?_, ?_⟩
   ·exact le_sparse rfl ⟨lR _, trivial⟩ trivial rfl
   ·exact ⟨lR _, trivial, rfl⟩

/-- impl.Label] -/
noncomputable def F_slices_ContainsFunc_Limpl_Label_impl_Label_mbFimpl_validCell_2 (a0 : List TLabel) : Option (Bool) :=
 (F_slices_IndexFunc_Limpl_Label_impl_Label_mbFimpl_validCell_2 a0).bind fun y1 =>
 some (std.le 0 y1)
theorem run_slices_ContainsFunc_Limpl_Label_impl_Label_mbFimpl_validCell_2 (a0 : List TLabel) (r : Bool) (h : F_slices_ContainsFunc_Limpl_Label_impl_Label_mbFimpl_validCell_2 a0 = some r) : Fun Try.prog 202 [.c (.bs (len a0) 4 (row gd (encLabel) a0)), .c (.fn 203 0 fun _ => .junk)] [] (.c (.v (.bool r))) [] true := by
 refine Fun.of_wp (oneOf []) tok mixed Try.func202 (by kernel_rfl) rfl Try.ntmps202 rfl trivial (fun _ => ⟨trivial, trivial⟩) ?_
 unfold F_slices_ContainsFunc_Limpl_Label_impl_Label_mbFimpl_validCell_2 at h
 have hf_slices_IndexFunc_Limpl_Label_impl_Label_mbFimpl_validCell_2 := @run_slices_IndexFunc_Limpl_Label_impl_Label_mbFimpl_validCell_2
 generalize hLEN : @len = LEN at *
 generalize hGD : @gd = GD at *
 generalize hA : std = A at *
 generalize hP : Try.prog = P at *
 cbv
 replace h := of_bind h
 obtain ⟨y1, hy2, h⟩ := h
 refine ⟨{ args := [.c (.bs (LEN a0) 4 (row GD (encLabel) a0)), .c (.fn 203 0 fun _ => .junk)], o0 := [], r := .c (.v (.int .i64 y1)), o1 := [], fl := true, σ := [], τ := [] }, hf_slices_IndexFunc_Limpl_Label_impl_Label_mbFimpl_validCell_2 _ _ hy2, ⟨les_cons (lR _) (les_cons (lR _) (les_nil)), trivial, rfl, rfl, rfl, rfl, trivial, rfl⟩, ?_⟩
 cbv
 injection h with h
 subst h
 refine ⟨(sparse 9 [(4, .c (.v (.bool (A.le 0 y1))))] []), ?_, ?_⟩
 ·exact le_sparse rfl ⟨lR _, trivial⟩ trivial rfl
 ·exact ⟨lR _, trivial, rfl⟩

/-- impl.IsValidTransform -/
noncomputable def F_impl_IsValidTransform (a0 : TTransform) : Option (Bool) :=
 ((
    (F_impl_within a0.fOrientation 0 7).bind fun y8 =>
    br y8
    ((F_impl_within a0.fX (-80) 80).bind fun y10 =>
    br y10
    ((F_impl_within a0.fY (-80) 80).bind fun y12 =>
    some y12)
    (some false))
    (some false)
  ) : Option (Bool)).bind fun y1 =>
 letO y1 fun w7 =>
 some w7
theorem run_impl_IsValidTransform (a0 : TTransform) (r : Bool) (h : F_impl_IsValidTransform a0 = some r) : Fun Try.prog 73 [.agg [.v (.int .i64 a0.fOrientation), .v (.int .i64 a0.fX), .v (.int .i64 a0.fY)]] [] (.c (.v (.bool r))) [] true := by
 refine Fun.of_wp (oneOf [1]) tok mixed Try.func73 (by kernel_rfl) rfl Try.ntmps73 rfl trivial (fun _ => ⟨trivial, trivial⟩) ?_
 unfold F_impl_IsValidTransform at h
 have hf_impl_within := @run_impl_within
 generalize hLEN : @len = LEN at *
 generalize hGD : @gd = GD at *
 generalize hA : std = A at *
 generalize hP : Try.prog = P at *
 cbv
 replace h := of_bind h
 obtain ⟨y1, hy2, h⟩ := h
 obtain ⟨S5, hS6⟩ : ∃ S, S = (sparse 16 [(2, .c (.v (.bool y1)))] []) := ⟨_, rfl⟩
 refine ⟨S5, ?_, ?_⟩
 ·clear h
  have h := hy2
  clear hy2
  cbv
  replace h := of_bind h
  obtain ⟨y8, hy9, h⟩ := h
  refine ⟨{ args := [.c (.v (.int .i64 a0.fOrientation)), .c (.v (.int .i64 0)), .c (.v (.int .i64 7))], o0 := [], r := .c (.v (.bool y8)), o1 := [], fl := true, σ := [], τ := [] }, hf_impl_within _ _ _ _ hy9, ⟨les_cons (lR _) (les_cons (lR _) (les_cons (lR _) (les_nil))), trivial, rfl, rfl, rfl, rfl, trivial, rfl⟩, ?_⟩
  cbv
  refine fork (fun b15 => ?_) (fun b15 => ?_)
  ·replace h := of_br_t b15 h
   cbv
   replace h := of_bind h
   obtain ⟨y10, hy11, h⟩ := h
   refine ⟨{ args := [.c (.v (.int .i64 a0.fX)), .c (.v (.int .i64 (-80))), .c (.v (.int .i64 80))], o0 := [], r := .c (.v (.bool y10)), o1 := [], fl := true, σ := [], τ := [] }, hf_impl_within _ _ _ _ hy11, ⟨les_cons (lR _) (les_cons (lR _) (les_cons (lR _) (les_nil))), trivial, rfl, rfl, rfl, rfl, trivial, rfl⟩, ?_⟩
   cbv
   refine fork (fun b14 => ?_) (fun b14 => ?_)
   ·replace h := of_br_t b14 h
    cbv
    replace h := of_bind h
    obtain ⟨y12, hy13, h⟩ := h
    refine ⟨{ args := [.c (.v (.int .i64 a0.fY)), .c (.v (.int .i64 (-80))), .c (.v (.int .i64 80))], o0 := [], r := .c (.v (.bool y12)), o1 := [], fl := true, σ := [], τ := [] }, hf_impl_within _ _ _ _ hy13, ⟨les_cons (lR _) (les_cons (lR _) (les_cons (lR _) (les_nil))), trivial, rfl, rfl, rfl, rfl, trivial, rfl⟩, ?_⟩
    cbv
    injection h with h
    subst h
    subst hS6
    show St.le _ _
    exact le_sparse rfl ⟨lR _, trivial⟩ trivial rfl
   ·replace h := of_br_f b14 h
    cbv
    injection h with h
    subst h
    subst hS6
    show St.le _ _
    exact le_sparse rfl ⟨lR _, trivial⟩ trivial rfl
  ·replace h := of_br_f b15 h
   cbv
   injection h with h
   subst h
   subst hS6
   show St.le _ _
   exact le_sparse rfl ⟨lR _, trivial⟩ trivial rfl
 ·clear hy2
  subst hS6
  replace h := of_let h
  obtain ⟨w7, hw7, h⟩ := h
  have hw7 : w7 = y1 := hw7
  subst hw7
  cbv
  injection h with h
  subst h
  refine ⟨(sparse 16 [(2, .c (.v (.bool w7)))] []), ?_, ?_⟩
  ·exact le_sparse rfl ⟨lR _, trivial⟩ trivial rfl
  ·exact ⟨lR _, trivial, rfl⟩

/-- impl.validInstance -/
noncomputable def F_impl_validInstance (a0 : TInstance) (a1 : Int) : Option (Bool) :=
 ((
    (F_impl_within a0.fCell 0 (std.sub .i64 a1 1)).bind fun y8 =>
    br y8
    ((F_impl_IsValidTransform a0.fPlace).bind fun y10 =>
    br y10
    ((F_impl_within a0.fColumns 1 4).bind fun y12 =>
    br y12
    ((F_impl_within a0.fRows 1 4).bind fun y14 =>
    br y14
    ((F_impl_within a0.fStepX (-80) 80).bind fun y16 =>
    br y16
    ((F_impl_within a0.fStepY (-80) 80).bind fun y18 =>
    br y18
    (br (std.eq a0.fStepX 0)
    (br (std.eq a0.fStepY 0)
    (some true)
    (some (std.lt 1 a0.fRows)))
    (br (std.lt 1 a0.fColumns)
    (br (std.eq a0.fStepY 0)
    (some true)
    (some (std.lt 1 a0.fRows)))
    (some false)))
    (some false))
    (some false))
    (some false))
    (some false))
    (some false))
    (some false)
  ) : Option (Bool)).bind fun y1 =>
 letO y1 fun w7 =>
 some w7
theorem run_impl_validInstance (a0 : TInstance) (a1 : Int) (r : Bool) (h : F_impl_validInstance a0 a1 = some r) : Fun Try.prog 207 [.agg [.v (.int .i64 a0.fCell), .v (.int .i64 a0.fPlace.fOrientation), .v (.int .i64 a0.fPlace.fX), .v (.int .i64 a0.fPlace.fY), .v (.int .i64 a0.fColumns), .v (.int .i64 a0.fRows), .v (.int .i64 a0.fStepX), .v (.int .i64 a0.fStepY)], .c (.v (.int .i64 a1))] [] (.c (.v (.bool r))) [] true := by
 refine Fun.of_wp (oneOf [1]) tok mixed Try.func207 (by kernel_rfl) rfl Try.ntmps207 rfl trivial (fun _ => ⟨trivial, trivial⟩) ?_
 unfold F_impl_validInstance at h
 have hf_impl_IsValidTransform := @run_impl_IsValidTransform
 have hf_impl_within := @run_impl_within
 generalize hLEN : @len = LEN at *
 generalize hGD : @gd = GD at *
 generalize hA : std = A at *
 generalize hP : Try.prog = P at *
 cbv
 replace h := of_bind h
 obtain ⟨y1, hy2, h⟩ := h
 obtain ⟨S5, hS6⟩ : ∃ S, S = (sparse 55 [(4, .c (.v (.bool y1)))] []) := ⟨_, rfl⟩
 refine ⟨S5, ?_, ?_⟩
 ·clear h
  have h := hy2
  clear hy2
  cbv
  replace h := of_bind h
  obtain ⟨y8, hy9, h⟩ := h
  refine ⟨{ args := [.c (.v (.int .i64 a0.fCell)), .c (.v (.int .i64 0)), .c (.v (.int .i64 (A.sub .i64 a1 1)))], o0 := [], r := .c (.v (.bool y8)), o1 := [], fl := true, σ := [], τ := [] }, hf_impl_within _ _ _ _ hy9, ⟨les_cons (lR _) (les_cons (lR _) (les_cons (lR _) (les_nil))), trivial, rfl, rfl, rfl, rfl, trivial, rfl⟩, ?_⟩
  cbv
  refine fork (fun b29 => ?_) (fun b29 => ?_)
  ·replace h := of_br_t b29 h
   cbv
   replace h := of_bind h
   obtain ⟨y10, hy11, h⟩ := h
   refine ⟨{ args := [.agg [.v (.int .i64 a0.fPlace.fOrientation), .v (.int .i64 a0.fPlace.fX), .v (.int .i64 a0.fPlace.fY)]], o0 := [], r := .c (.v (.bool y10)), o1 := [], fl := true, σ := [], τ := [] }, hf_impl_IsValidTransform _ _ hy11, ⟨les_cons (lR _) (les_nil), trivial, rfl, rfl, rfl, rfl, trivial, rfl⟩, ?_⟩
   cbv
   refine fork (fun b28 => ?_) (fun b28 => ?_)
   ·replace h := of_br_t b28 h
    cbv
    replace h := of_bind h
    obtain ⟨y12, hy13, h⟩ := h
    refine ⟨{ args := [.c (.v (.int .i64 a0.fColumns)), .c (.v (.int .i64 1)), .c (.v (.int .i64 4))], o0 := [], r := .c (.v (.bool y12)), o1 := [], fl := true, σ := [], τ := [] }, hf_impl_within _ _ _ _ hy13, ⟨les_cons (lR _) (les_cons (lR _) (les_cons (lR _) (les_nil))), trivial, rfl, rfl, rfl, rfl, trivial, rfl⟩, ?_⟩
    cbv
    refine fork (fun b27 => ?_) (fun b27 => ?_)
    ·replace h := of_br_t b27 h
     cbv
     replace h := of_bind h
     obtain ⟨y14, hy15, h⟩ := h
     refine ⟨{ args := [.c (.v (.int .i64 a0.fRows)), .c (.v (.int .i64 1)), .c (.v (.int .i64 4))], o0 := [], r := .c (.v (.bool y14)), o1 := [], fl := true, σ := [], τ := [] }, hf_impl_within _ _ _ _ hy15, ⟨les_cons (lR _) (les_cons (lR _) (les_cons (lR _) (les_nil))), trivial, rfl, rfl, rfl, rfl, trivial, rfl⟩, ?_⟩
     cbv
     refine fork (fun b26 => ?_) (fun b26 => ?_)
     ·replace h := of_br_t b26 h
      cbv
      replace h := of_bind h
      obtain ⟨y16, hy17, h⟩ := h
      refine ⟨{ args := [.c (.v (.int .i64 a0.fStepX)), .c (.v (.int .i64 (-80))), .c (.v (.int .i64 80))], o0 := [], r := .c (.v (.bool y16)), o1 := [], fl := true, σ := [], τ := [] }, hf_impl_within _ _ _ _ hy17, ⟨les_cons (lR _) (les_cons (lR _) (les_cons (lR _) (les_nil))), trivial, rfl, rfl, rfl, rfl, trivial, rfl⟩, ?_⟩
      cbv
      refine fork (fun b25 => ?_) (fun b25 => ?_)
      ·replace h := of_br_t b25 h
       cbv
       replace h := of_bind h
       obtain ⟨y18, hy19, h⟩ := h
       refine ⟨{ args := [.c (.v (.int .i64 a0.fStepY)), .c (.v (.int .i64 (-80))), .c (.v (.int .i64 80))], o0 := [], r := .c (.v (.bool y18)), o1 := [], fl := true, σ := [], τ := [] }, hf_impl_within _ _ _ _ hy19, ⟨les_cons (lR _) (les_cons (lR _) (les_cons (lR _) (les_nil))), trivial, rfl, rfl, rfl, rfl, trivial, rfl⟩, ?_⟩
       cbv
       refine fork (fun b24 => ?_) (fun b24 => ?_)
       ·replace h := of_br_t b24 h
        cbv
        refine fork (fun b23 => ?_) (fun b23 => ?_)
        ·replace h := of_br_t b23 h
         cbv
         refine fork (fun b22 => ?_) (fun b22 => ?_)
         ·replace h := of_br_t b22 h
          cbv
          injection h with h
          subst h
          subst hS6
          show St.le _ _
          exact le_sparse rfl ⟨lR _, trivial⟩ trivial rfl
         ·replace h := of_br_f b22 h
          cbv
          injection h with h
          subst h
          subst hS6
          show St.le _ _
          exact le_sparse rfl ⟨lR _, trivial⟩ trivial rfl
        ·replace h := of_br_f b23 h
         cbv
         refine fork (fun b21 => ?_) (fun b21 => ?_)
         ·replace h := of_br_t b21 h
          cbv
          refine fork (fun b20 => ?_) (fun b20 => ?_)
          ·replace h := of_br_t b20 h
           cbv
           injection h with h
           subst h
           subst hS6
           show St.le _ _
           exact le_sparse rfl ⟨lR _, trivial⟩ trivial rfl
          ·replace h := of_br_f b20 h
           cbv
           injection h with h
           subst h
           subst hS6
           show St.le _ _
           exact le_sparse rfl ⟨lR _, trivial⟩ trivial rfl
         ·replace h := of_br_f b21 h
          cbv
          injection h with h
          subst h
          subst hS6
          show St.le _ _
          exact le_sparse rfl ⟨lR _, trivial⟩ trivial rfl
       ·replace h := of_br_f b24 h
        cbv
        injection h with h
        subst h
        subst hS6
        show St.le _ _
        exact le_sparse rfl ⟨lR _, trivial⟩ trivial rfl
      ·replace h := of_br_f b25 h
       cbv
       injection h with h
       subst h
       subst hS6
       show St.le _ _
       exact le_sparse rfl ⟨lR _, trivial⟩ trivial rfl
     ·replace h := of_br_f b26 h
      cbv
      injection h with h
      subst h
      subst hS6
      show St.le _ _
      exact le_sparse rfl ⟨lR _, trivial⟩ trivial rfl
    ·replace h := of_br_f b27 h
     cbv
     injection h with h
     subst h
     subst hS6
     show St.le _ _
     exact le_sparse rfl ⟨lR _, trivial⟩ trivial rfl
   ·replace h := of_br_f b28 h
    cbv
    injection h with h
    subst h
    subst hS6
    show St.le _ _
    exact le_sparse rfl ⟨lR _, trivial⟩ trivial rfl
  ·replace h := of_br_f b29 h
   cbv
   injection h with h
   subst h
   subst hS6
   show St.le _ _
   exact le_sparse rfl ⟨lR _, trivial⟩ trivial rfl
 ·clear hy2
  subst hS6
  replace h := of_let h
  obtain ⟨w7, hw7, h⟩ := h
  have hw7 : w7 = y1 := hw7
  subst hw7
  cbv
  injection h with h
  subst h
  refine ⟨(sparse 55 [(4, .c (.v (.bool w7)))] []), ?_, ?_⟩
  ·exact le_sparse rfl ⟨lR _, trivial⟩ trivial rfl
  ·exact ⟨lR _, trivial, rfl⟩

/-- impl.validCell$3 -/
noncomputable def F_impl_validCell_3_mbp (a0 : TInstance) (a1 : Int) : Option (Bool) :=
 (F_impl_validInstance (TInstance.mk a0.fCell a0.fPlace a0.fColumns a0.fRows a0.fStepX a0.fStepY) a1).bind fun y1 =>
 some (!(y1))
theorem run_impl_validCell_3_mbp (a0 : TInstance) (a1 : Int) (r : Bool) (h : F_impl_validCell_3_mbp a0 a1 = some r) : Fun Try.prog 206 [.agg [.v (.int .i64 a0.fCell), .v (.int .i64 a0.fPlace.fOrientation), .v (.int .i64 a0.fPlace.fX), .v (.int .i64 a0.fPlace.fY), .v (.int .i64 a0.fColumns), .v (.int .i64 a0.fRows), .v (.int .i64 a0.fStepX), .v (.int .i64 a0.fStepY)], .c (.bp 1 (encI .i64 a1))] [] (.c (.v (.bool r))) [] true := by
 refine Fun.of_wp (oneOf []) tok mixed Try.func206 (by kernel_rfl) rfl Try.ntmps206 rfl trivial (fun _ => ⟨trivial, trivial⟩) ?_
 unfold F_impl_validCell_3_mbp at h
 have hf_impl_validInstance := @run_impl_validInstance
 generalize hLEN : @len = LEN at *
 generalize hGD : @gd = GD at *
 generalize hA : std = A at *
 generalize hP : Try.prog = P at *
 cbv
 replace h := of_bind h
 obtain ⟨y1, hy2, h⟩ := h
 refine ⟨{ args := [.agg [.v (.int .i64 a0.fCell), .v (.int .i64 a0.fPlace.fOrientation), .v (.int .i64 a0.fPlace.fX), .v (.int .i64 a0.fPlace.fY), .v (.int .i64 a0.fColumns), .v (.int .i64 a0.fRows), .v (.int .i64 a0.fStepX), .v (.int .i64 a0.fStepY)], .c (.v (.int .i64 a1))], o0 := [], r := .c (.v (.bool y1)), o1 := [], fl := true, σ := [], τ := [] }, hf_impl_validInstance _ _ _ hy2, ⟨les_cons (lR _) (les_cons (lR _) (les_nil)), trivial, rfl, rfl, rfl, rfl, trivial, rfl⟩, ?_⟩
 cbv
 injection h with h
 subst h
 refine ⟨(sparse 8 [(3, .c (.v (.bool (!(y1)))))] []), ?_, ?_⟩
 ·exact le_sparse rfl ⟨lR _, trivial⟩ trivial rfl
 ·exact ⟨lR _, trivial, rfl⟩

noncomputable def L_slices_IndexFunc_Limpl_Instance_impl_Instance_mbFimpl_validCell_3p_x2 (a0 : List TInstance) (a1_0 : Int) : (Int) → Option ((Int) ⊕ ((Int) ⊕ (Unit))) := fun x2 =>
 letO x2 fun v1 =>
 br (std.lt v1 (std.ofN (len a0)))
 (req (std.inR v1 (len a0)) <|
 (F_impl_validCell_3_mbp (gd a0 (std.toN v1)) a1_0).bind fun y15 =>
 br y15
 (some (.inr (.inl v1)))
 (some (.inl (std.add .i64 v1 1))))
 (some (.inr (.inr ())))
/-- impl.Instance] -/
noncomputable def F_slices_IndexFunc_Limpl_Instance_impl_Instance_mbFimpl_validCell_3p (a0 : List TInstance) (a1_0 : Int) : Option (Int) :=
 (whileP (σ := Int) (ρ := (Int) ⊕ (Unit)) (L_slices_IndexFunc_Limpl_Instance_impl_Instance_mbFimpl_validCell_3p_x2 a0 a1_0) 0).bind fun y3 =>
 (match y3 with
  | .inl y3k0 => (
    letO y3k0 fun w19 =>
    some w19)
  | .inr y3m0 =>
    some (-1))
theorem run_slices_IndexFunc_Limpl_Instance_impl_Instance_mbFimpl_validCell_3p (a0 : List TInstance) (a1_0 : Int) (r : Int) (h : F_slices_IndexFunc_Limpl_Instance_impl_Instance_mbFimpl_validCell_3p a0 a1_0 = some r) : Fun Try.prog 252 [.c (.bs (len a0) 8 (row gd (encInstance) a0)), .c (.fn 206 1 fun j => ([.bp 1 (encI .i64 a1_0)] : List AC).getD j .junk)] [] (.c (.v (.int .i64 r))) [] true := by
 refine Fun.of_wp (oneOf []) tok mixed Try.func252 (by kernel_rfl) rfl Try.ntmps252 rfl trivial (fun _ => ⟨trivial, trivial⟩) ?_
 unfold F_slices_IndexFunc_Limpl_Instance_impl_Instance_mbFimpl_validCell_3p at h
 unfold L_slices_IndexFunc_Limpl_Instance_impl_Instance_mbFimpl_validCell_3p_x2 at h
 have hf_impl_validCell_3_mbp := @run_impl_validCell_3_mbp
 generalize hLEN : @len = LEN at *
 generalize hGD : @gd = GD at *
 generalize hA : std = A at *
 generalize hP : Try.prog = P at *
 cbv
 replace h := of_bind h
 obtain ⟨y3, hr4, hN5⟩ := h
 refine loop_cut hr4 (fun x => (sparse 19 [(0, .c (.bs (LEN a0) 8 (row GD (encInstance) a0))), (1, .c (.fn 206 1 fun j => ([.bp 1 (encI .i64 a1_0)] : List AC).getD j .junk)), (7, .c (.v (.int .i64 (A.ofN (LEN a0))))), (8, .c (.v (.int .i64 x)))] [])) ?_ (fun y e s => (match y with | .inl w => e = .ret ∧ s.le (sparse 19 [(4, .c (.v (.int .i64 w)))] []) | .inr w0 => (fun (w : Unit) => e = .exit 0 ∧ s.le (sparse 19 [] [])) w0)) ?_ ?_
 ·clear hr4 hN5
  show St.le _ _
  exact le_sparse rfl ⟨lR _, lR _, lR _, lR _, trivial⟩ trivial rfl
 ·clear hr4 hN5
  intro x z9 h K7 hK8 hY6
  replace h := of_let h
  obtain ⟨v1, hv1, h⟩ := h
  have hv1 : v1 = x := hv1
  subst hv1
  cbv
  refine fork (fun b18 => ?_) (fun b18 => ?_)
  ·replace h := of_br_t b18 h
   cbv
   replace h := of_req h
   obtain ⟨c14, h⟩ := h
   refine ⟨⟨c14, trivial⟩, ?_⟩
   replace h := of_bind h
   obtain ⟨y15, hy16, h⟩ := h
   refine ⟨{ args := [.agg [.v (.int .i64 (GD a0 (A.toN v1)).fCell), .v (.int .i64 (GD a0 (A.toN v1)).fPlace.fOrientation), .v (.int .i64 (GD a0 (A.toN v1)).fPlace.fX), .v (.int .i64 (GD a0 (A.toN v1)).fPlace.fY), .v (.int .i64 (GD a0 (A.toN v1)).fColumns), .v (.int .i64 (GD a0 (A.toN v1)).fRows), .v (.int .i64 (GD a0 (A.toN v1)).fStepX), .v (.int .i64 (GD a0 (A.toN v1)).fStepY)], .c (.bp 1 (encI .i64 a1_0))], o0 := [], r := .c (.v (.bool y15)), o1 := [], fl := true, σ := [], τ := [] }, hf_impl_validCell_3_mbp _ _ _ hy16, ⟨les_cons (lR _) (les_cons (le_bp (show 1 ≤ 1 from by decide) (by intro j hj; match j, hj with | 0, _ => exact rle_refl _ | (j_ + 1), h_ => exact absurd h_ (by omega))) (les_nil)), trivial, rfl, rfl, rfl, rfl, trivial, rfl⟩, ?_⟩
   cbv
   refine fork (fun b17 => ?_) (fun b17 => ?_)
   ·replace h := of_br_t b17 h
    cbv
    injection h with h
    refine hY6 _ h.symm _ _ (And.intro rfl ?_) (by intro hh; cases hh)
    exact le_sparse rfl ⟨lR _, trivial⟩ trivial rfl
   ·replace h := of_br_f b17 h
    cbv
    injection h with h
    refine hK8 _ h.symm _ ?_
    exact le_sparse rfl ⟨lR _, lR _, lR _, lR _, trivial⟩ trivial rfl
  ·replace h := of_br_f b18 h
   cbv
   injection h with h
   refine hY6 _ h.symm _ _ (And.intro rfl ?_) (by intro hh; cases hh)
   exact le_sparse rfl trivial trivial rfl
 ·clear hr4
  have h := hN5
  clear hN5
  intro e12 s13 q11 hne
  rcases y3 with y3k0 | y3m0
  ·replace h := h
   obtain ⟨rfl, q11⟩ := q11
   replace h := of_let h
   obtain ⟨w19, hw19, h⟩ := h
   have hw19 : w19 = y3k0 := hw19
   subst hw19
   cbv
   injection h with h
   subst h
   refine ⟨(sparse 19 [(4, .c (.v (.int .i64 w19)))] []), ?_, ?_⟩
   ·refine St.le_trans q11 ?_
    exact le_sparse rfl ⟨lR _, trivial⟩ trivial rfl
   ·exact ⟨lR _, trivial, rfl⟩
  ·obtain ⟨rfl, q11⟩ := q11
   cbv
   refine ⟨_, q11, ?_⟩
   cbv
   injection h with h
   subst h
   refine ⟨(sparse 19 [(4, .c (.v (.int .i64 (-1))))] []), ?_, ?_⟩
   ·exact le_sparse rfl ⟨lR _, trivial⟩ trivial rfl
   ·exact ⟨lR _, trivial, rfl⟩
/-- impl.Instance] -/
noncomputable def F_slices_ContainsFunc_Limpl_Instance_impl_Instance_mbFimpl_validCell_3p (a0 : List TInstance) (a1_0 : Int) : Option (Bool) :=
 (F_slices_IndexFunc_Limpl_Instance_impl_Instance_mbFimpl_validCell_3p a0 a1_0).bind fun y1 =>
 some (std.le 0 y1)
theorem run_slices_ContainsFunc_Limpl_Instance_impl_Instance_mbFimpl_validCell_3p (a0 : List TInstance) (a1_0 : Int) (r : Bool) (h : F_slices_ContainsFunc_Limpl_Instance_impl_Instance_mbFimpl_validCell_3p a0 a1_0 = some r) : Fun Try.prog 205 [.c (.bs (len a0) 8 (row gd (encInstance) a0)), .c (.fn 206 1 fun j => ([.bp 1 (encI .i64 a1_0)] : List AC).getD j .junk)] [] (.c (.v (.bool r))) [] true := by
 refine Fun.of_wp (oneOf []) tok mixed Try.func205 (by kernel_rfl) rfl Try.ntmps205 rfl trivial (fun _ => ⟨trivial, trivial⟩) ?_
 unfold F_slices_ContainsFunc_Limpl_Instance_impl_Instance_mbFimpl_validCell_3p at h
 have hf_slices_IndexFunc_Limpl_Instance_impl_Instance_mbFimpl_validCell_3p := @run_slices_IndexFunc_Limpl_Instance_impl_Instance_mbFimpl_validCell_3p
 generalize hLEN : @len = LEN at *
 generalize hGD : @gd = GD at *
 generalize hA : std = A at *
 generalize hP : Try.prog = P at *
 cbv
 replace h := of_bind h
 obtain ⟨y1, hy2, h⟩ := h
 refine ⟨{ args := [.c (.bs (LEN a0) 8 (row GD (encInstance) a0)), .c (.fn 206 1 fun j => ([.bp 1 (encI .i64 a1_0)] : List AC).getD j .junk)], o0 := [], r := .c (.v (.int .i64 y1)), o1 := [], fl := true, σ := [], τ := [] }, hf_slices_IndexFunc_Limpl_Instance_impl_Instance_mbFimpl_validCell_3p _ _ _ hy2, ⟨les_cons (lR _) (les_cons (le_fn (by intro j hj; match j, hj with | 0, _ => exact le_bp (show 1 ≤ 1 from by decide) (by intro j hj; match j, hj with | 0, _ => exact rle_refl _ | (j_ + 1), h_ => exact absurd h_ (by omega)) | (j_ + 1), h_ => exact absurd h_ (by omega))) (les_nil)), trivial, rfl, rfl, rfl, rfl, trivial, rfl⟩, ?_⟩
 cbv
 injection h with h
 subst h
 refine ⟨(sparse 9 [(4, .c (.v (.bool (A.le 0 y1))))] []), ?_, ?_⟩
 ·exact le_sparse rfl ⟨lR _, trivial⟩ trivial rfl
 ·exact ⟨lR _, trivial, rfl⟩

/-- impl.validCell -/
noncomputable def F_impl_validCell (a0 : TCell) (a1 : Int) : Option (Bool) :=
 ((
    (F_impl_IsName a0.fName).bind fun y8 =>
    br (!(y8))
    (some true)
    (br (std.lt 24 (std.ofN (len a0.fShapes)))
    (some true)
    (br (std.lt 8 (std.ofN (len a0.fLabels)))
    (some true)
    (some (std.lt 8 (std.ofN (len a0.fInstances))))))
  ) : Option (Bool)).bind fun y1 =>
 letO y1 fun w7 =>
 br w7
 (some false)
 (((
    (F_slices_ContainsFunc_Limpl_Shape_impl_Shape_mbFimpl_validCell_1 a0.fShapes).bind fun y20 =>
    br (!(y20))
    ((F_slices_ContainsFunc_Limpl_Label_impl_Label_mbFimpl_validCell_2 a0.fLabels).bind fun y22 =>
    br (!(y22))
    ((F_slices_ContainsFunc_Limpl_Instance_impl_Instance_mbFimpl_validCell_3p a0.fInstances a1).bind fun y24 =>
    some (!(y24)))
    (some false))
    (some false)
  ) : Option (Bool)).bind fun y13 =>
 letO y13 fun w19 =>
 some w19)
theorem run_impl_validCell (a0 : TCell) (a1 : Int) (r : Bool) (h : F_impl_validCell a0 a1 = some r) : Fun Try.prog 144 [.agg [.v (.string a0.fName), .bs (len a0.fShapes) 5 (row gd (encShape) a0.fShapes), .bs (len a0.fLabels) 4 (row gd (encLabel) a0.fLabels), .bs (len a0.fInstances) 8 (row gd (encInstance) a0.fInstances)], .c (.v (.int .i64 a1))] [] (.c (.v (.bool r))) [] true := by
 refine Fun.of_wp (oneOf [1, 3]) tok mixed Try.func144 (by kernel_rfl) rfl Try.ntmps144 rfl trivial (fun _ => ⟨trivial, trivial⟩) ?_
 unfold F_impl_validCell at h
 have hf_impl_IsName := @run_impl_IsName
 have hf_slices_ContainsFunc_Limpl_Instance_impl_Instance_mbFimpl_validCell_3p := @run_slices_ContainsFunc_Limpl_Instance_impl_Instance_mbFimpl_validCell_3p
 have hf_slices_ContainsFunc_Limpl_Label_impl_Label_mbFimpl_validCell_2 := @run_slices_ContainsFunc_Limpl_Label_impl_Label_mbFimpl_validCell_2
 have hf_slices_ContainsFunc_Limpl_Shape_impl_Shape_mbFimpl_validCell_1 := @run_slices_ContainsFunc_Limpl_Shape_impl_Shape_mbFimpl_validCell_1
 generalize hLEN : @len = LEN at *
 generalize hGD : @gd = GD at *
 generalize hA : std = A at *
 generalize hP : Try.prog = P at *
 cbv
 replace h := of_bind h
 obtain ⟨y1, hy2, h⟩ := h
 obtain ⟨S5, hS6⟩ : ∃ S, S = (sparse 44 [(2, .c (.ptr 128 0)), (3, .c (.ptr 192 0)), (26, .c (.v (.bool y1)))] [(128, .var [.v (.string a0.fName), .bs (LEN a0.fShapes) 5 (row GD (encShape) a0.fShapes), .bs (LEN a0.fLabels) 4 (row GD (encLabel) a0.fLabels), .bs (LEN a0.fInstances) 8 (row GD (encInstance) a0.fInstances)]), (192, .var [.v (.int .i64 a1)])]) := ⟨_, rfl⟩
 refine ⟨S5, ?_, ?_⟩
 ·clear h
  have h := hy2
  clear hy2
  cbv
  replace h := of_bind h
  obtain ⟨y8, hy9, h⟩ := h
  refine ⟨{ args := [.c (.v (.string a0.fName))], o0 := [], r := .c (.v (.bool y8)), o1 := [], fl := true, σ := [], τ := [] }, hf_impl_IsName _ _ hy9, ⟨les_cons (lR _) (les_nil), trivial, rfl, rfl, rfl, rfl, trivial, rfl⟩, ?_⟩
  cbv
  refine fork (fun b12 => ?_) (fun b12 => ?_)
  ·replace h := of_br_t b12 h
   cbv
   injection h with h
   subst h
   subst hS6
   show St.le _ _
   exact le_sparse rfl ⟨lR _, lR _, lR _, trivial⟩ ⟨rfl, rfl, trivial⟩ rfl
  ·replace h := of_br_f b12 h
   cbv
   refine fork (fun b11 => ?_) (fun b11 => ?_)
   ·replace h := of_br_t b11 h
    cbv
    injection h with h
    subst h
    subst hS6
    show St.le _ _
    exact le_sparse rfl ⟨lR _, lR _, lR _, trivial⟩ ⟨rfl, rfl, trivial⟩ rfl
   ·replace h := of_br_f b11 h
    cbv
    refine fork (fun b10 => ?_) (fun b10 => ?_)
    ·replace h := of_br_t b10 h
     cbv
     injection h with h
     subst h
     subst hS6
     show St.le _ _
     exact le_sparse rfl ⟨lR _, lR _, lR _, trivial⟩ ⟨rfl, rfl, trivial⟩ rfl
    ·replace h := of_br_f b10 h
     cbv
     injection h with h
     subst h
     subst hS6
     show St.le _ _
     exact le_sparse rfl ⟨lR _, lR _, lR _, trivial⟩ ⟨rfl, rfl, trivial⟩ rfl
 ·clear hy2
  subst hS6
  replace h := of_let h
  obtain ⟨w7, hw7, h⟩ := h
  have hw7 : w7 = y1 := hw7
  subst hw7
  cbv
  refine fork (fun b28 => ?_) (fun b28 => ?_)
  ·replace h := of_br_t b28 h
   cbv
   injection h with h
   subst h
   refine ⟨(sparse 44 [(4, .c (.v (.bool false)))] []), ?_, ?_⟩
   ·exact le_sparse rfl ⟨lR _, trivial⟩ trivial rfl
   ·exact ⟨lR _, trivial, rfl⟩
  ·replace h := of_br_f b28 h
   cbv
   replace h := of_bind h
   obtain ⟨y13, hy14, h⟩ := h
   obtain ⟨S17, hS18⟩ : ∃ S, S = (sparse 44 [(4, .c (.v (.bool y13)))] []) := ⟨_, rfl⟩
   refine ⟨S17, ?_, ?_⟩
   ·clear h
    have h := hy14
    clear hy14
    cbv
    replace h := of_bind h
    obtain ⟨y20, hy21, h⟩ := h
    refine ⟨{ args := [.c (.bs (LEN a0.fShapes) 5 (row GD (encShape) a0.fShapes)), .c (.fn 200 0 fun _ => .junk)], o0 := [], r := .c (.v (.bool y20)), o1 := [], fl := true, σ := [], τ := [] }, hf_slices_ContainsFunc_Limpl_Shape_impl_Shape_mbFimpl_validCell_1 _ _ hy21, ⟨les_cons (lR _) (les_cons (lR _) (les_nil)), trivial, rfl, rfl, rfl, rfl, trivial, rfl⟩, ?_⟩
    cbv
    refine fork (fun b27 => ?_) (fun b27 => ?_)
    ·replace h := of_br_t b27 h
     cbv
     replace h := of_bind h
     obtain ⟨y22, hy23, h⟩ := h
     refine ⟨{ args := [.c (.bs (LEN a0.fLabels) 4 (row GD (encLabel) a0.fLabels)), .c (.fn 203 0 fun _ => .junk)], o0 := [], r := .c (.v (.bool y22)), o1 := [], fl := true, σ := [], τ := [] }, hf_slices_ContainsFunc_Limpl_Label_impl_Label_mbFimpl_validCell_2 _ _ hy23, ⟨les_cons (lR _) (les_cons (lR _) (les_nil)), trivial, rfl, rfl, rfl, rfl, trivial, rfl⟩, ?_⟩
     cbv
     refine fork (fun b26 => ?_) (fun b26 => ?_)
     ·replace h := of_br_t b26 h
      cbv
      replace h := of_bind h
      obtain ⟨y24, hy25, h⟩ := h
      refine ⟨{ args := [.c (.bs (LEN a0.fInstances) 8 (row GD (encInstance) a0.fInstances)), .c (.fn 206 1 fun j => ([.bp 1 (encI .i64 a1)] : List AC).getD j .junk)], o0 := [], r := .c (.v (.bool y24)), o1 := [], fl := true, σ := [], τ := [] }, hf_slices_ContainsFunc_Limpl_Instance_impl_Instance_mbFimpl_validCell_3p _ _ _ hy25, ⟨les_cons (lR _) (les_cons (le_fn (by intro j hj; match j, hj with | 0, _ => exact le_bp (show 1 ≤ 1 from by decide) (by intro j hj; match j, hj with | 0, _ => exact rle_refl _ | (j_ + 1), h_ => exact absurd h_ (by omega)) | (j_ + 1), h_ => exact absurd h_ (by omega))) (les_nil)), trivial, rfl, rfl, rfl, rfl, trivial, rfl⟩, ?_⟩
      cbv
      injection h with h
      subst h
      subst hS18
      show St.le _ _
      exact le_sparse rfl ⟨lR _, trivial⟩ trivial rfl
     ·replace h := of_br_f b26 h
      cbv
      injection h with h
      subst h
      subst hS18
      show St.le _ _
      exact le_sparse rfl ⟨lR _, trivial⟩ trivial rfl
    ·replace h := of_br_f b27 h
     cbv
     injection h with h
     subst h
     subst hS18
     show St.le _ _
     exact le_sparse rfl ⟨lR _, trivial⟩ trivial rfl
   ·clear hy14
    subst hS18
    replace h := of_let h
    obtain ⟨w19, hw19, h⟩ := h
    have hw19 : w19 = y13 := hw19
    subst hw19
    cbv
    injection h with h
    subst h
    refine ⟨(sparse 44 [(4, .c (.v (.bool w19)))] []), ?_, ?_⟩
    ·exact le_sparse rfl ⟨lR _, trivial⟩ trivial rfl
    ·exact ⟨lR _, trivial, rfl⟩

/-- impl.named$1 -/
noncomputable def F_impl_named_1_mbp (a0 : TCell) (a1 : ByteArray) : Option (Bool) :=
 some (std.seq a0.fName a1)
theorem run_impl_named_1_mbp (a0 : TCell) (a1 : ByteArray) (r : Bool) (h : F_impl_named_1_mbp a0 a1 = some r) : Fun Try.prog 209 [.agg [.v (.string a0.fName), .bs (len a0.fShapes) 5 (row gd (encShape) a0.fShapes), .bs (len a0.fLabels) 4 (row gd (encLabel) a0.fLabels), .bs (len a0.fInstances) 8 (row gd (encInstance) a0.fInstances)], .c (.bp 1 (encS a1))] [] (.c (.v (.bool r))) [] true := by
 refine Fun.of_wp (oneOf []) tok mixed Try.func209 (by kernel_rfl) rfl Try.ntmps209 rfl trivial (fun _ => ⟨trivial, trivial⟩) ?_
 unfold F_impl_named_1_mbp at h
 generalize hLEN : @len = LEN at *
 generalize hGD : @gd = GD at *
 generalize hA : std = A at *
 generalize hP : Try.prog = P at *
 cbv
 injection h with h
 subst h
 refine ⟨(sparse 8 [(3, .c (.v (.bool (A.seq a0.fName a1))))] []), ?_, ?_⟩
 ·exact le_sparse rfl ⟨lR _, trivial⟩ trivial rfl
 ·exact ⟨lR _, trivial, rfl⟩

noncomputable def L_slices_IndexFunc_Limpl_Cell_impl_Cell_mbFimpl_named_1p_x2 (a0 : List TCell) (a1_0 : ByteArray) : (Int) → Option ((Int) ⊕ ((Int) ⊕ (Unit))) := fun x2 =>
 letO x2 fun v1 =>
 br (std.lt v1 (std.ofN (len a0)))
 (req (std.inR v1 (len a0)) <|
 (F_impl_named_1_mbp (gd a0 (std.toN v1)) a1_0).bind fun y15 =>
 br y15
 (some (.inr (.inl v1)))
 (some (.inl (std.add .i64 v1 1))))
 (some (.inr (.inr ())))
/-- impl.Cell] -/
noncomputable def F_slices_IndexFunc_Limpl_Cell_impl_Cell_mbFimpl_named_1p (a0 : List TCell) (a1_0 : ByteArray) : Option (Int) :=
 (whileP (σ := Int) (ρ := (Int) ⊕ (Unit)) (L_slices_IndexFunc_Limpl_Cell_impl_Cell_mbFimpl_named_1p_x2 a0 a1_0) 0).bind fun y3 =>
 (match y3 with
  | .inl y3k0 => (
    letO y3k0 fun w19 =>
    some w19)
  | .inr y3m0 =>
    some (-1))
theorem run_slices_IndexFunc_Limpl_Cell_impl_Cell_mbFimpl_named_1p (a0 : List TCell) (a1_0 : ByteArray) (r : Int) (h : F_slices_IndexFunc_Limpl_Cell_impl_Cell_mbFimpl_named_1p a0 a1_0 = some r) : Fun Try.prog 208 [.c (.bs (len a0) 4 (row gd (encCell len gd) a0)), .c (.fn 209 1 fun j => ([.bp 1 (encS a1_0)] : List AC).getD j .junk)] [] (.c (.v (.int .i64 r))) [] true := by
 refine Fun.of_wp (oneOf []) tok mixed Try.func208 (by kernel_rfl) rfl Try.ntmps208 rfl trivial (fun _ => ⟨trivial, trivial⟩) ?_
 unfold F_slices_IndexFunc_Limpl_Cell_impl_Cell_mbFimpl_named_1p at h
 unfold L_slices_IndexFunc_Limpl_Cell_impl_Cell_mbFimpl_named_1p_x2 at h
 have hf_impl_named_1_mbp := @run_impl_named_1_mbp
 generalize hLEN : @len = LEN at *
 generalize hGD : @gd = GD at *
 generalize hA : std = A at *
 generalize hP : Try.prog = P at *
 cbv
 replace h := of_bind h
 obtain ⟨y3, hr4, hN5⟩ := h
 refine loop_cut hr4 (fun x => (sparse 19 [(0, .c (.bs (LEN a0) 4 (row GD (encCell LEN GD) a0))), (1, .c (.fn 209 1 fun j => ([.bp 1 (encS a1_0)] : List AC).getD j .junk)), (7, .c (.v (.int .i64 (A.ofN (LEN a0))))), (8, .c (.v (.int .i64 x)))] [])) ?_ (fun y e s => (match y with | .inl w => e = .ret ∧ s.le (sparse 19 [(4, .c (.v (.int .i64 w)))] []) | .inr w0 => (fun (w : Unit) => e = .exit 0 ∧ s.le (sparse 19 [] [])) w0)) ?_ ?_
 ·clear hr4 hN5
  show St.le _ _
  exact le_sparse rfl ⟨lR _, lR _, lR _, lR _, trivial⟩ trivial rfl
 ·clear hr4 hN5
  intro x z9 h K7 hK8 hY6
  replace h := of_let h
  obtain ⟨v1, hv1, h⟩ := h
  have hv1 : v1 = x := hv1
  subst hv1
  cbv
  refine fork (fun b18 => ?_) (fun b18 => ?_)
  ·replace h := of_br_t b18 h
   cbv
   replace h := of_req h
   obtain ⟨c14, h⟩ := h
   refine ⟨⟨c14, trivial⟩, ?_⟩
   replace h := of_bind h
   obtain ⟨y15, hy16, h⟩ := h
   refine ⟨{ args := [.agg [.v (.string (GD a0 (A.toN v1)).fName), .bs (LEN (GD a0 (A.toN v1)).fShapes) 5 (row GD (encShape) (GD a0 (A.toN v1)).fShapes), .bs (LEN (GD a0 (A.toN v1)).fLabels) 4 (row GD (encLabel) (GD a0 (A.toN v1)).fLabels), .bs (LEN (GD a0 (A.toN v1)).fInstances) 8 (row GD (encInstance) (GD a0 (A.toN v1)).fInstances)], .c (.bp 1 (encS a1_0))], o0 := [], r := .c (.v (.bool y15)), o1 := [], fl := true, σ := [], τ := [] }, hf_impl_named_1_mbp _ _ _ hy16, ⟨les_cons (lR _) (les_cons (le_bp (show 1 ≤ 1 from by decide) (by intro j hj; match j, hj with | 0, _ => exact rle_refl _ | (j_ + 1), h_ => exact absurd h_ (by omega))) (les_nil)), trivial, rfl, rfl, rfl, rfl, trivial, rfl⟩, ?_⟩
   cbv
   refine fork (fun b17 => ?_) (fun b17 => ?_)
   ·replace h := of_br_t b17 h
    cbv
    injection h with h
    refine hY6 _ h.symm _ _ (And.intro rfl ?_) (by intro hh; cases hh)
    exact le_sparse rfl ⟨lR _, trivial⟩ trivial rfl
   ·replace h := of_br_f b17 h
    cbv
    injection h with h
    refine hK8 _ h.symm _ ?_
    exact le_sparse rfl ⟨lR _, lR _, lR _, lR _, trivial⟩ trivial rfl
  ·replace h := of_br_f b18 h
   cbv
   injection h with h
   refine hY6 _ h.symm _ _ (And.intro rfl ?_) (by intro hh; cases hh)
   exact le_sparse rfl trivial trivial rfl
 ·clear hr4
  have h := hN5
  clear hN5
  intro e12 s13 q11 hne
  rcases y3 with y3k0 | y3m0
  ·replace h := h
   obtain ⟨rfl, q11⟩ := q11
   replace h := of_let h
   obtain ⟨w19, hw19, h⟩ := h
   have hw19 : w19 = y3k0 := hw19
   subst hw19
   cbv
   injection h with h
   subst h
   refine ⟨(sparse 19 [(4, .c (.v (.int .i64 w19)))] []), ?_, ?_⟩
   ·refine St.le_trans q11 ?_
    exact le_sparse rfl ⟨lR _, trivial⟩ trivial rfl
   ·exact ⟨lR _, trivial, rfl⟩
  ·obtain ⟨rfl, q11⟩ := q11
   cbv
   refine ⟨_, q11, ?_⟩
   cbv
   injection h with h
   subst h
   refine ⟨(sparse 19 [(4, .c (.v (.int .i64 (-1))))] []), ?_, ?_⟩
   ·exact le_sparse rfl ⟨lR _, trivial⟩ trivial rfl
   ·exact ⟨lR _, trivial, rfl⟩

/-- impl.named -/
noncomputable def F_impl_named (a0 : TLibrary) (a1 : ByteArray) : Option (Int) :=
 (F_slices_IndexFunc_Limpl_Cell_impl_Cell_mbFimpl_named_1p a0.fCells a1).bind fun y1 =>
 some y1
theorem run_impl_named (a0 : TLibrary) (a1 : ByteArray) (r : Int) (h : F_impl_named a0 a1 = some r) : Fun Try.prog 145 [.agg [.bs (len a0.fCells) 4 (row gd (encCell len gd) a0.fCells)], .c (.v (.string a1))] [] (.c (.v (.int .i64 r))) [] true := by
 refine Fun.of_wp (oneOf []) tok mixed Try.func145 (by kernel_rfl) rfl Try.ntmps145 rfl trivial (fun _ => ⟨trivial, trivial⟩) ?_
 unfold F_impl_named at h
 have hf_slices_IndexFunc_Limpl_Cell_impl_Cell_mbFimpl_named_1p := @run_slices_IndexFunc_Limpl_Cell_impl_Cell_mbFimpl_named_1p
 generalize hLEN : @len = LEN at *
 generalize hGD : @gd = GD at *
 generalize hA : std = A at *
 generalize hP : Try.prog = P at *
 cbv
 replace h := of_bind h
 obtain ⟨y1, hy2, h⟩ := h
 refine ⟨{ args := [.c (.bs (LEN a0.fCells) 4 (row GD (encCell LEN GD) a0.fCells)), .c (.fn 209 1 fun j => ([.bp 1 (encS a1)] : List AC).getD j .junk)], o0 := [], r := .c (.v (.int .i64 y1)), o1 := [], fl := true, σ := [], τ := [] }, hf_slices_IndexFunc_Limpl_Cell_impl_Cell_mbFimpl_named_1p _ _ _ hy2, ⟨les_cons (lR _) (les_cons (le_fn (by intro j hj; match j, hj with | 0, _ => exact le_bp (show 1 ≤ 1 from by decide) (by intro j hj; match j, hj with | 0, _ => exact rle_refl _ | (j_ + 1), h_ => exact absurd h_ (by omega)) | (j_ + 1), h_ => exact absurd h_ (by omega))) (les_nil)), trivial, rfl, rfl, rfl, rfl, trivial, rfl⟩, ?_⟩
 cbv
 injection h with h
 subst h
 refine ⟨(sparse 9 [(4, .c (.v (.int .i64 y1)))] []), ?_, ?_⟩
 ·exact le_sparse rfl ⟨lR _, trivial⟩ trivial rfl
 ·exact ⟨lR _, trivial, rfl⟩

noncomputable def L_impl_IsValidLibrary_x10 (a0 : TLibrary) : (Int) → Option ((Int) ⊕ ((Bool) ⊕ (Unit))) := fun x10 =>
 letO x10 fun v9 =>
 br (std.lt v9 (std.ofN (len a0.fCells)))
 (req (std.inR v9 (len a0.fCells)) <|
 ((
    (F_impl_validCell (gd a0.fCells (std.toN v9)) v9).bind fun y30 =>
    br (!(y30))
    (some true)
    ((F_impl_named (TLibrary.mk a0.fCells) (gd a0.fCells (std.toN v9)).fName).bind fun y32 =>
    some (std.not (std.eq y32 v9)))
  ) : Option (Bool)).bind fun y23 =>
 letO y23 fun w29 =>
 br w29
 (some (.inr (.inl false)))
 (some (.inl (std.add .i64 v9 1))))
 (some (.inr (.inr ())))
/-- impl.IsValidLibrary -/
noncomputable def F_impl_IsValidLibrary (a0 : TLibrary) : Option (Bool) :=
 ((
    br (std.lt (std.ofN (len a0.fCells)) 1)
    (some true)
    (some (std.lt 8 (std.ofN (len a0.fCells))))
  ) : Option (Bool)).bind fun y1 =>
 letO y1 fun w7 =>
 br w7
 (some false)
 ((whileP (σ := Int) (ρ := (Bool) ⊕ (Unit)) (L_impl_IsValidLibrary_x10 a0) 0).bind fun y11 =>
 (match y11 with
  | .inl y11k0 => (
    letO y11k0 fun w37 =>
    some w37)
  | .inr y11m0 =>
    some true))
theorem run_impl_IsValidLibrary (a0 : TLibrary) (r : Bool) (h : F_impl_IsValidLibrary a0 = some r) : Fun Try.prog 94 [.agg [.bs (len a0.fCells) 4 (row gd (encCell len gd) a0.fCells)]] [] (.c (.v (.bool r))) [] true := by
 refine Fun.of_wp (oneOf [1, 6]) tok mixed Try.func94 (by kernel_rfl) rfl Try.ntmps94 rfl trivial (fun _ => ⟨trivial, trivial⟩) ?_
 unfold F_impl_IsValidLibrary at h
 unfold L_impl_IsValidLibrary_x10 at h
 have hf_impl_named := @run_impl_named
 have hf_impl_validCell := @run_impl_validCell
 generalize hLEN : @len = LEN at *
 generalize hGD : @gd = GD at *
 generalize hA : std = A at *
 generalize hP : Try.prog = P at *
 cbv
 replace h := of_bind h
 obtain ⟨y1, hy2, h⟩ := h
 obtain ⟨S5, hS6⟩ : ∃ S, S = (sparse 36 [(1, .c (.ptr 64 0)), (14, .c (.v (.bool y1)))] [(64, .var [.bs (LEN a0.fCells) 4 (row GD (encCell LEN GD) a0.fCells)])]) := ⟨_, rfl⟩
 refine ⟨S5, ?_, ?_⟩
 ·clear h
  have h := hy2
  clear hy2
  cbv
  refine fork (fun b8 => ?_) (fun b8 => ?_)
  ·replace h := of_br_t b8 h
   cbv
   injection h with h
   subst h
   subst hS6
   show St.le _ _
   exact le_sparse rfl ⟨lR _, lR _, trivial⟩ ⟨rfl, trivial⟩ rfl
  ·replace h := of_br_f b8 h
   cbv
   injection h with h
   subst h
   subst hS6
   show St.le _ _
   exact le_sparse rfl ⟨lR _, lR _, trivial⟩ ⟨rfl, trivial⟩ rfl
 ·clear hy2
  subst hS6
  replace h := of_let h
  obtain ⟨w7, hw7, h⟩ := h
  have hw7 : w7 = y1 := hw7
  subst hw7
  cbv
  refine fork (fun b38 => ?_) (fun b38 => ?_)
  ·replace h := of_br_t b38 h
   cbv
   injection h with h
   subst h
   refine ⟨(sparse 36 [(2, .c (.v (.bool false)))] []), ?_, ?_⟩
   ·exact le_sparse rfl ⟨lR _, trivial⟩ trivial rfl
   ·exact ⟨lR _, trivial, rfl⟩
  ·replace h := of_br_f b38 h
   cbv
   replace h := of_bind h
   obtain ⟨y11, hr12, hN13⟩ := h
   refine loop_cut hr12 (fun x => (sparse 36 [(1, .c (.ptr 64 0)), (16, .c (.bs (LEN a0.fCells) 4 (row GD (encCell LEN GD) a0.fCells))), (17, .c (.v (.int .i64 (A.ofN (LEN a0.fCells))))), (18, .c (.v (.int .i64 x)))] [(64, .var [.bs (LEN a0.fCells) 4 (row GD (encCell LEN GD) a0.fCells)])])) ?_ (fun y e s => (match y with | .inl w => e = .ret ∧ s.le (sparse 36 [(2, .c (.v (.bool w)))] []) | .inr w0 => (fun (w : Unit) => e = .exit 0 ∧ s.le (sparse 36 [] [])) w0)) ?_ ?_
   ·clear hr12 hN13
    show St.le _ _
    exact le_sparse rfl ⟨lR _, lR _, lR _, lR _, trivial⟩ ⟨rfl, trivial⟩ rfl
   ·clear hr12 hN13
    intro x z17 h K15 hK16 hY14
    replace h := of_let h
    obtain ⟨v9, hv9, h⟩ := h
    have hv9 : v9 = x := hv9
    subst hv9
    cbv
    refine fork (fun b36 => ?_) (fun b36 => ?_)
    ·replace h := of_br_t b36 h
     cbv
     replace h := of_req h
     obtain ⟨c22, h⟩ := h
     refine ⟨⟨c22, trivial⟩, ?_⟩
     replace h := of_bind h
     obtain ⟨y23, hy24, h⟩ := h
     obtain ⟨S27, hS28⟩ : ∃ S, S = (sparse 36 [(1, .c (.ptr 64 0)), (16, .c (.bs (LEN a0.fCells) 4 (row GD (encCell LEN GD) a0.fCells))), (17, .c (.v (.int .i64 (A.ofN (LEN a0.fCells))))), (18, .c (.v (.int .i64 v9))), (34, .c (.v (.bool y23)))] [(64, .var [.bs (LEN a0.fCells) 4 (row GD (encCell LEN GD) a0.fCells)])]) := ⟨_, rfl⟩
     refine ⟨S27, ?_, ?_⟩
     ·clear h
      have h := hy24
      clear hy24
      cbv
      replace h := of_bind h
      obtain ⟨y30, hy31, h⟩ := h
      refine ⟨{ args := [.agg [.v (.string (GD a0.fCells (A.toN v9)).fName), .bs (LEN (GD a0.fCells (A.toN v9)).fShapes) 5 (row GD (encShape) (GD a0.fCells (A.toN v9)).fShapes), .bs (LEN (GD a0.fCells (A.toN v9)).fLabels) 4 (row GD (encLabel) (GD a0.fCells (A.toN v9)).fLabels), .bs (LEN (GD a0.fCells (A.toN v9)).fInstances) 8 (row GD (encInstance) (GD a0.fCells (A.toN v9)).fInstances)], .c (.v (.int .i64 v9))], o0 := [], r := .c (.v (.bool y30)), o1 := [], fl := true, σ := [], τ := [] }, hf_impl_validCell _ _ _ hy31, ⟨les_cons (lR _) (les_cons (lR _) (les_nil)), trivial, rfl, rfl, rfl, rfl, trivial, rfl⟩, ?_⟩
      cbv
      refine fork (fun b34 => ?_) (fun b34 => ?_)
      ·replace h := of_br_t b34 h
       cbv
       injection h with h
       subst h
       subst hS28
       show St.le _ _
       exact le_sparse rfl ⟨lR _, lR _, lR _, lR _, lR _, trivial⟩ ⟨rfl, trivial⟩ rfl
      ·replace h := of_br_f b34 h
       cbv
       replace h := of_bind h
       obtain ⟨y32, hy33, h⟩ := h
       refine ⟨{ args := [.agg [.bs (LEN a0.fCells) 4 (row GD (encCell LEN GD) a0.fCells)], .c (.v (.string (GD a0.fCells (A.toN v9)).fName))], o0 := [], r := .c (.v (.int .i64 y32)), o1 := [], fl := true, σ := [], τ := [] }, hf_impl_named _ _ _ hy33, ⟨les_cons (lR _) (les_cons (lR _) (les_nil)), trivial, rfl, rfl, rfl, rfl, trivial, rfl⟩, ?_⟩
       cbv
       injection h with h
       subst h
       subst hS28
       show St.le _ _
       exact le_sparse rfl ⟨lR _, lR _, lR _, lR _, lR _, trivial⟩ ⟨rfl, trivial⟩ rfl
     ·clear hy24
      subst hS28
      replace h := of_let h
      obtain ⟨w29, hw29, h⟩ := h
      have hw29 : w29 = y23 := hw29
      subst hw29
      cbv
      refine fork (fun b35 => ?_) (fun b35 => ?_)
      ·replace h := of_br_t b35 h
       cbv
       injection h with h
       refine hY14 _ h.symm _ _ (And.intro rfl ?_) (by intro hh; cases hh)
       exact le_sparse rfl ⟨lR _, trivial⟩ trivial rfl
      ·replace h := of_br_f b35 h
       cbv
       injection h with h
       refine hK16 _ h.symm _ ?_
       exact le_sparse rfl ⟨lR _, lR _, lR _, lR _, trivial⟩ ⟨rfl, trivial⟩ rfl
    ·replace h := of_br_f b36 h
     cbv
     injection h with h
     refine hY14 _ h.symm _ _ (And.intro rfl ?_) (by intro hh; cases hh)
     exact le_sparse rfl trivial trivial rfl
   ·clear hr12
    have h := hN13
    clear hN13
    intro e20 s21 q19 hne
    rcases y11 with y11k0 | y11m0
    ·replace h := h
     obtain ⟨rfl, q19⟩ := q19
     replace h := of_let h
     obtain ⟨w37, hw37, h⟩ := h
     have hw37 : w37 = y11k0 := hw37
     subst hw37
     cbv
     injection h with h
     subst h
     refine ⟨(sparse 36 [(2, .c (.v (.bool w37)))] []), ?_, ?_⟩
     ·refine St.le_trans q19 ?_
      exact le_sparse rfl ⟨lR _, trivial⟩ trivial rfl
     ·exact ⟨lR _, trivial, rfl⟩
    ·obtain ⟨rfl, q19⟩ := q19
     cbv
     refine ⟨_, q19, ?_⟩
     cbv
     injection h with h
     subst h
     refine ⟨(sparse 36 [(2, .c (.v (.bool true)))] []), ?_, ?_⟩
     ·exact le_sparse rfl ⟨lR _, trivial⟩ trivial rfl
     ·exact ⟨lR _, trivial, rfl⟩
/-- impl.cellCode -/
noncomputable def F_impl_cellCode (a0 : TLibrary) (a1 : Int) : Option (Int) :=
 (F_impl_IsValidLibrary (TLibrary.mk a0.fCells)).bind fun y1 =>
 br (!(y1))
 (some 1)
 ((F_impl_within a1 0 (std.sub .i64 (std.ofN (len a0.fCells)) 1)).bind fun y3 =>
 br (!(y3))
 (some 5)
 (some 0))
theorem run_impl_cellCode (a0 : TLibrary) (a1 : Int) (r : Int) (h : F_impl_cellCode a0 a1 = some r) : Fun Try.prog 68 [.agg [.bs (len a0.fCells) 4 (row gd (encCell len gd) a0.fCells)], .c (.v (.int .i64 a1))] [] (.c (.v (.int .i64 r))) [] true := by
 refine Fun.of_wp (oneOf []) tok mixed Try.func68 (by kernel_rfl) rfl Try.ntmps68 rfl trivial (fun _ => ⟨trivial, trivial⟩) ?_
 unfold F_impl_cellCode at h
 have hf_impl_IsValidLibrary := @run_impl_IsValidLibrary
 have hf_impl_within := @run_impl_within
 generalize hLEN : @len = LEN at *
 generalize hGD : @gd = GD at *
 generalize hA : std = A at *
 generalize hP : Try.prog = P at *
 cbv
 replace h := of_bind h
 obtain ⟨y1, hy2, h⟩ := h
 refine ⟨{ args := [.agg [.bs (LEN a0.fCells) 4 (row GD (encCell LEN GD) a0.fCells)]], o0 := [], r := .c (.v (.bool y1)), o1 := [], fl := true, σ := [], τ := [] }, hf_impl_IsValidLibrary _ _ hy2, ⟨les_cons (lR _) (les_nil), trivial, rfl, rfl, rfl, rfl, trivial, rfl⟩, ?_⟩
 cbv
 refine fork (fun b6 => ?_) (fun b6 => ?_)
 ·replace h := of_br_t b6 h
  cbv
  injection h with h
  subst h
  refine ⟨(sparse 17 [(4, .c (.v (.int .i64 1)))] []), ?_, ?_⟩
  ·exact le_sparse rfl ⟨lR _, trivial⟩ trivial rfl
  ·exact ⟨lR _, trivial, rfl⟩
 ·replace h := of_br_f b6 h
  cbv
  replace h := of_bind h
  obtain ⟨y3, hy4, h⟩ := h
  refine ⟨{ args := [.c (.v (.int .i64 a1)), .c (.v (.int .i64 0)), .c (.v (.int .i64 (A.sub .i64 (A.ofN (LEN a0.fCells)) 1)))], o0 := [], r := .c (.v (.bool y3)), o1 := [], fl := true, σ := [], τ := [] }, hf_impl_within _ _ _ _ hy4, ⟨les_cons (lR _) (les_cons (lR _) (les_cons (lR _) (les_nil))), trivial, rfl, rfl, rfl, rfl, trivial, rfl⟩, ?_⟩
  cbv
  refine fork (fun b5 => ?_) (fun b5 => ?_)
  ·replace h := of_br_t b5 h
   cbv
   injection h with h
   subst h
   refine ⟨(sparse 17 [(4, .c (.v (.int .i64 5)))] []), ?_, ?_⟩
   ·exact le_sparse rfl ⟨lR _, trivial⟩ trivial rfl
   ·exact ⟨lR _, trivial, rfl⟩
  ·replace h := of_br_f b5 h
   cbv
   injection h with h
   subst h
   refine ⟨(sparse 17 [(4, .c (.v (.int .i64 0)))] []), ?_, ?_⟩
   ·exact le_sparse rfl ⟨lR _, trivial⟩ trivial rfl
   ·exact ⟨lR _, trivial, rfl⟩

noncomputable def L_impl_elementCount_x23 (l3 : List TCell) (v7 : List Int) (v6 : Int) : (Int × Int) → Option ((Int × Int) ⊕ ((Int))) := fun x23 =>
 letO x23.1 fun v21 =>
 letO x23.2 fun v22 =>
 br (std.lt v22 (std.ofN (len (gd l3 (std.toN v6)).fInstances)))
 (req (std.inR v22 (len (gd l3 (std.toN v6)).fInstances)) <|
 req (std.inR (gd (gd l3 (std.toN v6)).fInstances (std.toN v22)).fCell (len v7)) <|
 some (.inl (std.add .i64 v21 (std.mul .i64 (std.mul .i64 (gd (gd l3 (std.toN v6)).fInstances (std.toN v22)).fColumns (gd (gd l3 (std.toN v6)).fInstances (std.toN v22)).fRows) (gd v7 (std.nadd 0 (std.toN (gd (gd l3 (std.toN v6)).fInstances (std.toN v22)).fCell)))), std.add .i64 v22 1)))
 (some (.inr v21))
noncomputable def L_impl_elementCount_x8 (l3 : List TCell) : (Int × (List Int)) → Option ((Int × (List Int)) ⊕ (((List Int)))) := fun x8 =>
 letO x8.1 fun v6 =>
 letO x8.2 fun v7 =>
 br (std.lt v6 (std.ofN (len l3)))
 (req (std.inR v6 (len l3)) <|
 (whileP (σ := Int × Int) (ρ := (Int)) (L_impl_elementCount_x23 l3 v7 v6) (1, 0)).bind fun y24 =>
 letO y24 fun y24k0 =>
 letO y24k0 fun w38 =>
 letO ([w38] : List Int) fun l39 =>
 req (std.room (std.nadd (len v7) (len l39)) 8) <|
 letO (v7 ++ l39) fun l41 =>
 some (.inl (std.add .i64 v6 1, l41)))
 (some (.inr v7))
/-- impl.elementCount -/
noncomputable def F_impl_elementCount (a0 : TLibrary) (a1 : Int) : Option (Int) :=
 letO ([] : List Int) fun l1 =>
 req (std.upTo (std.add .i64 a1 1) (len a0.fCells)) <|
 req (std.upTo 0 (std.toN (std.add .i64 a1 1))) <|
 letO (subL a0.fCells (std.toN 0) (std.toN (std.add .i64 a1 1))) fun l3 =>
 (whileP (σ := Int × (List Int)) (ρ := ((List Int))) (L_impl_elementCount_x8 l3) (0, l1)).bind fun y9 =>
 letO y9 fun y9k0 =>
 letO y9k0 fun w45 =>
 req (std.inR a1 (len w45)) <|
 some (gd w45 (std.nadd 0 (std.toN a1)))
theorem run_impl_elementCount (a0 : TLibrary) (a1 : Int) (r : Int) (h : F_impl_elementCount a0 a1 = some r) : Fun Try.prog 77 [.agg [.bs (len a0.fCells) 4 (row gd (encCell len gd) a0.fCells)], .c (.v (.int .i64 a1))] [] (.c (.v (.int .i64 r))) [] true := by
 refine Fun.of_wp (oneOf []) tok mixed Try.func77 (by kernel_rfl) rfl Try.ntmps77 rfl trivial (fun _ => ⟨trivial, trivial⟩) ?_
 unfold F_impl_elementCount at h
 unfold L_impl_elementCount_x8 at h
 unfold L_impl_elementCount_x23 at h
 generalize hLEN : @len = LEN at *
 generalize hGD : @gd = GD at *
 generalize hA : std = A at *
 generalize hP : Try.prog = P at *
 cbv
 replace h := of_let h
 obtain ⟨l1, hl1, h⟩ := h
 have e2 : 0 = LEN l1 := by subst hl1 hLEN; rfl
 refine ⟨_, congrArg (fun n => AV.c (AC.os 704 0 n)) e2, _, row GD (encI .i64) l1, e2, wkOf ?_, ?_⟩
 ·intro i hi j hj
  rw [← e2] at hi
  subst hl1
  subst hGD
  omega
 cbv
 replace h := of_req h
 obtain ⟨c4, h⟩ := h
 replace h := of_req h
 obtain ⟨c5, h⟩ := h
 replace h := of_let h
 obtain ⟨l3, hl3, h⟩ := h
 refine And.intro (by first | exact ⟨c4, c5, trivial⟩ | exact ⟨c4, c5⟩) ?_
 refine ⟨.c (.bs (LEN l3) 4 (row GD (encCell LEN GD) l3)), ?_, ?_⟩
 ·subst hGD hLEN hA
  exact le_sub c4 c5 hl3
 cbv
 replace h := of_bind h
 obtain ⟨y9, hr10, hN11⟩ := h
 refine loop_cut hr10 (fun x => (sparse 52 [(1, .c (.v (.int .i64 a1))), (5, .c (.os 704 0 (LEN x.2))), (16, .c (.bs (LEN l3) 4 (row GD (encCell LEN GD) l3))), (17, .c (.v (.int .i64 (A.ofN (LEN l3))))), (18, .c (.v (.int .i64 x.1)))] [(704, .arr .rw [] (LEN x.2) 1 (row GD (encI .i64) x.2))])) ?_ (fun y e s => (fun (w : (List Int)) => e = .exit 0 ∧ s.le (sparse 52 [(1, .c (.v (.int .i64 a1))), (5, .c (.os 704 0 (LEN w)))] [(704, .arr .rw [] (LEN w) 1 (row GD (encI .i64) w))])) y) ?_ ?_
 ·clear hr10 hN11
  show St.le _ _
  exact le_sparse rfl ⟨lR _, lR _, lR _, lR _, lR _, trivial⟩ ⟨oS, trivial⟩ rfl
 ·clear hr10 hN11
  intro x z15 h K13 hK14 hY12
  obtain ⟨x0_, x1_⟩ := x
  replace h := of_let h
  obtain ⟨v6, hv6, h⟩ := h
  have hv6 : v6 = x0_ := hv6
  subst hv6
  replace h := of_let h
  obtain ⟨v7, hv7, h⟩ := h
  have hv7 : v7 = x1_ := hv7
  subst hv7
  cbv
  refine fork (fun b44 => ?_) (fun b44 => ?_)
  ·replace h := of_br_t b44 h
   cbv
   replace h := of_req h
   obtain ⟨c20, h⟩ := h
   refine ⟨⟨c20, trivial⟩, ?_⟩
   replace h := of_bind h
   obtain ⟨y24, hr25, hN26⟩ := h
   refine loop_cut hr25 (fun x => (sparse 52 [(1, .c (.v (.int .i64 a1))), (5, .c (.os 704 0 (LEN v7))), (8, .c (.v (.int .i64 x.1))), (16, .c (.bs (LEN l3) 4 (row GD (encCell LEN GD) l3))), (17, .c (.v (.int .i64 (A.ofN (LEN l3))))), (18, .c (.v (.int .i64 v6))), (23, .c (.bs (LEN (GD l3 (A.toN v6)).fInstances) 8 (row GD (encInstance) (GD l3 (A.toN v6)).fInstances))), (24, .c (.v (.int .i64 (A.ofN (LEN (GD l3 (A.toN v6)).fInstances))))), (25, .c (.v (.int .i64 x.2)))] [(704, .arr .rw [] (LEN v7) 1 (row GD (encI .i64) v7))])) ?_ (fun y e s => (fun (w : Int) => e = .exit 2 ∧ s.le (sparse 52 [(1, .c (.v (.int .i64 a1))), (5, .c (.os 704 0 (LEN v7))), (8, .c (.v (.int .i64 w))), (16, .c (.bs (LEN l3) 4 (row GD (encCell LEN GD) l3))), (17, .c (.v (.int .i64 (A.ofN (LEN l3))))), (18, .c (.v (.int .i64 v6)))] [(704, .arr .rw [] (LEN v7) 1 (row GD (encI .i64) v7))])) y) ?_ ?_
   ·clear hr25 hN26
    show St.le _ _
    exact le_sparse rfl ⟨lR _, lR _, lR _, lR _, lR _, lR _, lR _, lR _, lR _, trivial⟩ ⟨oS, trivial⟩ rfl
   ·clear hr25 hN26
    intro x z30 h K28 hK29 hY27
    obtain ⟨x0_, x1_⟩ := x
    replace h := of_let h
    obtain ⟨v21, hv21, h⟩ := h
    have hv21 : v21 = x0_ := hv21
    subst hv21
    replace h := of_let h
    obtain ⟨v22, hv22, h⟩ := h
    have hv22 : v22 = x1_ := hv22
    subst hv22
    cbv
    refine fork (fun b37 => ?_) (fun b37 => ?_)
    ·replace h := of_br_t b37 h
     cbv
     replace h := of_req h
     obtain ⟨c35, h⟩ := h
     refine ⟨⟨c35, trivial⟩, ?_⟩
     replace h := of_req h
     obtain ⟨c36, h⟩ := h
     refine ⟨⟨c36, trivial⟩, ?_⟩
     refine And.intro (by first | exact (by subst hA; exact idx_lt c36) | (refine And.intro (by subst hA; exact idx_lt c36) ?_; first | trivial | exact ⟨trivial, trivial⟩)) ?_
     injection h with h
     refine hK29 _ h.symm _ ?_
     exact le_sparse rfl ⟨lR _, lR _, lR _, lR _, lR _, lR _, lR _, lR _, lR _, trivial⟩ ⟨oS, trivial⟩ rfl
    ·replace h := of_br_f b37 h
     cbv
     injection h with h
     refine hY27 _ h.symm _ _ (And.intro rfl ?_) (by intro hh; cases hh)
     exact le_sparse rfl ⟨lR _, lR _, lR _, lR _, lR _, lR _, trivial⟩ ⟨oS, trivial⟩ rfl
   ·clear hr25
    have h := hN26
    clear hN26
    intro e33 s34 q32 hne
    replace h := of_let h
    obtain ⟨y24k0, hyk, h⟩ := h
    have hyk : y24k0 = y24 := hyk
    subst hyk
    obtain ⟨rfl, q32⟩ := q32
    replace h := of_let h
    obtain ⟨w38, hw38, h⟩ := h
    have hw38 : w38 = y24k0 := hw38
    subst hw38
    cbv
    refine ⟨_, q32, ?_⟩
    cbv
    replace h := of_let h
    obtain ⟨l39, hl39, h⟩ := h
    have e40 : 1 = LEN l39 := by subst hl39 hLEN; rfl
    refine ⟨_, congrArg (fun n => AV.c (AC.os 2880 0 n)) e40, _, row GD (encI .i64) l39, e40, wkOf ?_, ?_⟩
    ·intro i hi j hj
     rw [← e40] at hi
     subst hl39
     subst hGD
     obtain rfl : i = 0 := (by omega)
     all_goals obtain rfl : j = 0 := by omega
     all_goals rfl
    cbv
    replace h := of_req h
    obtain ⟨c43, h⟩ := h
    replace h := of_let h
    obtain ⟨l41, hl41, h⟩ := h
    have e42 : A.nadd (LEN v7) (LEN l39) = LEN l41 := by subst hl41 hLEN hA; simp [std, len]
    refine ⟨c43, _, congrArg (fun n => AV.c (AC.os 704 0 n)) e42, _, row GD (encI .i64) l41, e42, wkOf ?_, ?_⟩
    ·subst hGD hLEN hA
     exact app_os (off := 0) (fun _ _ => rfl) hl41 (Nat.le_refl _)
    cbv
    injection h with h
    refine hK14 _ h.symm _ ?_
    exact le_sparse rfl ⟨lR _, lR _, lR _, lR _, lR _, trivial⟩ ⟨oS, trivial⟩ rfl
  ·replace h := of_br_f b44 h
   cbv
   injection h with h
   refine hY12 _ h.symm _ _ (And.intro rfl ?_) (by intro hh; cases hh)
   exact le_sparse rfl ⟨lR _, lR _, trivial⟩ ⟨oS, trivial⟩ rfl
 ·clear hr10
  have h := hN11
  clear hN11
  intro e18 s19 q17 hne
  replace h := of_let h
  obtain ⟨y9k0, hyk, h⟩ := h
  have hyk : y9k0 = y9 := hyk
  subst hyk
  obtain ⟨rfl, q17⟩ := q17
  replace h := of_let h
  obtain ⟨w45, hw45, h⟩ := h
  have hw45 : w45 = y9k0 := hw45
  subst hw45
  cbv
  refine ⟨_, q17, ?_⟩
  cbv
  replace h := of_req h
  obtain ⟨c46, h⟩ := h
  refine ⟨⟨c46, trivial⟩, ?_⟩
  refine And.intro (by first | exact (by subst hA; exact idx_lt c46) | (refine And.intro (by subst hA; exact idx_lt c46) ?_; first | trivial | exact ⟨trivial, trivial⟩)) ?_
  injection h with h
  subst h
  refine ⟨(sparse 52 [(4, .c (.v (.int .i64 (GD w45 (A.nadd 0 (A.toN a1))))))] []), ?_, ?_⟩
  ·exact le_sparse rfl ⟨lR _, trivial⟩ trivial rfl
  ·exact ⟨lR _, trivial, rfl⟩

/-- impl.elementPlace -/
noncomputable def F_impl_elementPlace (a0 : TInstance) (a1 : Int) (a2 : Int) : Option (TTransform) :=
 some (TTransform.mk a0.fPlace.fOrientation (std.add .i64 a0.fPlace.fX (std.mul .i64 a1 a0.fStepX)) (std.add .i64 a0.fPlace.fY (std.mul .i64 a2 a0.fStepY)))
theorem run_impl_elementPlace (a0 : TInstance) (a1 : Int) (a2 : Int) (r : TTransform) (h : F_impl_elementPlace a0 a1 a2 = some r) : Fun Try.prog 131 [.agg [.v (.int .i64 a0.fCell), .v (.int .i64 a0.fPlace.fOrientation), .v (.int .i64 a0.fPlace.fX), .v (.int .i64 a0.fPlace.fY), .v (.int .i64 a0.fColumns), .v (.int .i64 a0.fRows), .v (.int .i64 a0.fStepX), .v (.int .i64 a0.fStepY)], .c (.v (.int .i64 a1)), .c (.v (.int .i64 a2))] [] (.agg [.v (.int .i64 r.fOrientation), .v (.int .i64 r.fX), .v (.int .i64 r.fY)]) [] true := by
 refine Fun.of_wp (oneOf []) tok mixed Try.func131 (by kernel_rfl) rfl Try.ntmps131 rfl trivial (fun _ => ⟨(by simp [AV.flat, AV.flat1, AC.flat]), trivial⟩) ?_
 unfold F_impl_elementPlace at h
 generalize hLEN : @len = LEN at *
 generalize hGD : @gd = GD at *
 generalize hA : std = A at *
 generalize hP : Try.prog = P at *
 cbv
 injection h with h
 subst h
 refine ⟨(sparse 27 [(6, .c (.ptr 384 0))] [(384, .var [.v (.int .i64 a0.fPlace.fOrientation), .v (.int .i64 (A.add .i64 a0.fPlace.fX (A.mul .i64 a1 a0.fStepX))), .v (.int .i64 (A.add .i64 a0.fPlace.fY (A.mul .i64 a2 a0.fStepY)))])]), ?_, ?_⟩
 ·exact le_sparse rfl ⟨lR _, trivial⟩ ⟨rfl, trivial⟩ rfl
 ·exact ⟨lR _, trivial, rfl⟩

noncomputable def L_impl_elements_x34 (a0 : TCell) (v18 : Int) (v3 : Int) : (Int × (List Telement)) → Option ((Int × (List Telement)) ⊕ (((List Telement)))) := fun x34 =>
 letO x34.1 fun v32 =>
 letO x34.2 fun v33 =>
 br (std.lt v32 (gd a0.fInstances (std.toN v3)).fColumns)
 ((F_impl_elementPlace (gd a0.fInstances (std.toN v3)) v32 v18).bind fun y46 =>
 letO ([(Telement.mk (gd a0.fInstances (std.toN v3)).fCell y46)] : List Telement) fun l48 =>
 req (std.room (std.nadd (len v33) (len l48)) 32) <|
 letO (v33 ++ l48) fun l50 =>
 some (.inl (std.add .i64 v32 1, l50)))
 (some (.inr v33))
noncomputable def L_impl_elements_x20 (a0 : TCell) (v3 : Int) : (Int × (List Telement)) → Option ((Int × (List Telement)) ⊕ (((List Telement)))) := fun x20 =>
 letO x20.1 fun v18 =>
 letO x20.2 fun v19 =>
 br (std.lt v18 (gd a0.fInstances (std.toN v3)).fRows)
 ((whileP (σ := Int × (List Telement)) (ρ := ((List Telement))) (L_impl_elements_x34 a0 v18 v3) (0, v19)).bind fun y35 =>
 letO y35 fun y35k0 =>
 letO y35k0 fun w54 =>
 some (.inl (std.add .i64 v18 1, w54)))
 (some (.inr v19))
noncomputable def L_impl_elements_x5 (a0 : TCell) : (Int × (List Telement)) → Option ((Int × (List Telement)) ⊕ (((List Telement)))) := fun x5 =>
 letO x5.1 fun v3 =>
 letO x5.2 fun v4 =>
 br (std.lt v3 (std.ofN (len a0.fInstances)))
 (req (std.inR v3 (len a0.fInstances)) <|
 (whileP (σ := Int × (List Telement)) (ρ := ((List Telement))) (L_impl_elements_x20 a0 v3) (0, v4)).bind fun y21 =>
 letO y21 fun y21k0 =>
 letO y21k0 fun w56 =>
 some (.inl (std.add .i64 v3 1, w56)))
 (some (.inr v4))
/-- impl.elements -/
noncomputable def F_impl_elements (a0 : TCell) : Option (List Telement) :=
 letO ([] : List Telement) fun l1 =>
 (whileP (σ := Int × (List Telement)) (ρ := ((List Telement))) (L_impl_elements_x5 a0) (0, l1)).bind fun y6 =>
 letO y6 fun y6k0 =>
 letO y6k0 fun w58 =>
 some w58
theorem run_impl_elements (a0 : TCell) (r : List Telement) (h : F_impl_elements a0 = some r) : Fun Try.prog 70 [.agg [.v (.string a0.fName), .bs (len a0.fShapes) 5 (row gd (encShape) a0.fShapes), .bs (len a0.fLabels) 4 (row gd (encLabel) a0.fLabels), .bs (len a0.fInstances) 8 (row gd (encInstance) a0.fInstances)]] [] (.c (.os 64000 0 (len r))) [(64000, .arr .rw [] (len r) 4 (row gd (encelement) r))] true := by
 refine Fun.of_wp (oneOf []) tok mixed Try.func70 (by kernel_rfl) rfl Try.ntmps70 rfl trivial (fun _ => ⟨trivial, ⟨fun i _ j _ => val_flat (vl_encelement _ _), trivial⟩⟩) ?_
 unfold F_impl_elements at h
 unfold L_impl_elements_x5 at h
 unfold L_impl_elements_x20 at h
 unfold L_impl_elements_x34 at h
 have hf_impl_elementPlace := @run_impl_elementPlace
 generalize hLEN : @len = LEN at *
 generalize hGD : @gd = GD at *
 generalize hA : std = A at *
 generalize hP : Try.prog = P at *
 cbv
 replace h := of_let h
 obtain ⟨l1, hl1, h⟩ := h
 have e2 : 0 = LEN l1 := by subst hl1 hLEN; rfl
 refine ⟨_, congrArg (fun n => AV.c (AC.os 512 0 n)) e2, _, row GD (encelement) l1, e2, wkOf ?_, ?_⟩
 ·intro i hi j hj
  rw [← e2] at hi
  subst hl1
  subst hGD
  omega
 cbv
 replace h := of_bind h
 obtain ⟨y6, hr7, hN8⟩ := h
 refine loop_cut hr7 (fun x => (sparse 40 [(3, .c (.os 512 0 (LEN x.2))), (10, .c (.bs (LEN a0.fInstances) 8 (row GD (encInstance) a0.fInstances))), (11, .c (.v (.int .i64 (A.ofN (LEN a0.fInstances))))), (12, .c (.v (.int .i64 x.1)))] [(512, .arr .rw [] (LEN x.2) 4 (row GD (encelement) x.2))])) ?_ (fun y e s => (fun (w : (List Telement)) => e = .exit 0 ∧ s.le (sparse 40 [(3, .c (.os 512 0 (LEN w)))] [(512, .arr .rw [] (LEN w) 4 (row GD (encelement) w))])) y) ?_ ?_
 ·clear hr7 hN8
  show St.le _ _
  exact le_sparse rfl ⟨lR _, lR _, lR _, lR _, trivial⟩ ⟨oS, trivial⟩ rfl
 ·clear hr7 hN8
  intro x z12 h K10 hK11 hY9
  obtain ⟨x0_, x1_⟩ := x
  replace h := of_let h
  obtain ⟨v3, hv3, h⟩ := h
  have hv3 : v3 = x0_ := hv3
  subst hv3
  replace h := of_let h
  obtain ⟨v4, hv4, h⟩ := h
  have hv4 : v4 = x1_ := hv4
  subst hv4
  cbv
  refine fork (fun b57 => ?_) (fun b57 => ?_)
  ·replace h := of_br_t b57 h
   cbv
   replace h := of_req h
   obtain ⟨c17, h⟩ := h
   refine ⟨⟨c17, trivial⟩, ?_⟩
   replace h := of_bind h
   obtain ⟨y21, hr22, hN23⟩ := h
   refine loop_cut hr22 (fun x => (sparse 40 [(3, .c (.os 512 0 (LEN x.2))), (5, .c (.ptr 320 0)), (10, .c (.bs (LEN a0.fInstances) 8 (row GD (encInstance) a0.fInstances))), (11, .c (.v (.int .i64 (A.ofN (LEN a0.fInstances))))), (12, .c (.v (.int .i64 v3))), (17, .c (.v (.int .i64 (GD a0.fInstances (A.toN v3)).fRows))), (18, .c (.v (.int .i64 x.1)))] [(512, .arr .rw [] (LEN x.2) 4 (row GD (encelement) x.2)), (320, .var [.v (.int .i64 (GD a0.fInstances (A.toN v3)).fCell), .v (.int .i64 (GD a0.fInstances (A.toN v3)).fPlace.fOrientation), .v (.int .i64 (GD a0.fInstances (A.toN v3)).fPlace.fX), .v (.int .i64 (GD a0.fInstances (A.toN v3)).fPlace.fY), .v (.int .i64 (GD a0.fInstances (A.toN v3)).fColumns), .v (.int .i64 (GD a0.fInstances (A.toN v3)).fRows), .v (.int .i64 (GD a0.fInstances (A.toN v3)).fStepX), .v (.int .i64 (GD a0.fInstances (A.toN v3)).fStepY)])])) ?_ (fun y e s => (fun (w : (List Telement)) => e = .exit 2 ∧ s.le (sparse 40 [(3, .c (.os 512 0 (LEN w))), (10, .c (.bs (LEN a0.fInstances) 8 (row GD (encInstance) a0.fInstances))), (11, .c (.v (.int .i64 (A.ofN (LEN a0.fInstances))))), (12, .c (.v (.int .i64 v3)))] [(512, .arr .rw [] (LEN w) 4 (row GD (encelement) w))])) y) ?_ ?_
   ·clear hr22 hN23
    show St.le _ _
    exact le_sparse rfl ⟨lR _, lR _, lR _, lR _, lR _, lR _, lR _, trivial⟩ ⟨oS, rfl, trivial⟩ rfl
   ·clear hr22 hN23
    intro x z27 h K25 hK26 hY24
    obtain ⟨x0_, x1_⟩ := x
    replace h := of_let h
    obtain ⟨v18, hv18, h⟩ := h
    have hv18 : v18 = x0_ := hv18
    subst hv18
    replace h := of_let h
    obtain ⟨v19, hv19, h⟩ := h
    have hv19 : v19 = x1_ := hv19
    subst hv19
    cbv
    refine fork (fun b55 => ?_) (fun b55 => ?_)
    ·replace h := of_br_t b55 h
     cbv
     replace h := of_bind h
     obtain ⟨y35, hr36, hN37⟩ := h
     refine loop_cut hr36 (fun x => (sparse 40 [(3, .c (.os 512 0 (LEN x.2))), (5, .c (.ptr 320 0)), (6, .c (.v (.int .i64 v18))), (10, .c (.bs (LEN a0.fInstances) 8 (row GD (encInstance) a0.fInstances))), (11, .c (.v (.int .i64 (A.ofN (LEN a0.fInstances))))), (12, .c (.v (.int .i64 v3))), (17, .c (.v (.int .i64 (GD a0.fInstances (A.toN v3)).fRows))), (18, .c (.v (.int .i64 v18))), (22, .c (.v (.int .i64 (GD a0.fInstances (A.toN v3)).fColumns))), (23, .c (.v (.int .i64 x.1)))] [(512, .arr .rw [] (LEN x.2) 4 (row GD (encelement) x.2)), (320, .var [.v (.int .i64 (GD a0.fInstances (A.toN v3)).fCell), .v (.int .i64 (GD a0.fInstances (A.toN v3)).fPlace.fOrientation), .v (.int .i64 (GD a0.fInstances (A.toN v3)).fPlace.fX), .v (.int .i64 (GD a0.fInstances (A.toN v3)).fPlace.fY), .v (.int .i64 (GD a0.fInstances (A.toN v3)).fColumns), .v (.int .i64 (GD a0.fInstances (A.toN v3)).fRows), .v (.int .i64 (GD a0.fInstances (A.toN v3)).fStepX), .v (.int .i64 (GD a0.fInstances (A.toN v3)).fStepY)])])) ?_ (fun y e s => (fun (w : (List Telement)) => e = .exit 4 ∧ s.le (sparse 40 [(3, .c (.os 512 0 (LEN w))), (5, .c (.ptr 320 0)), (10, .c (.bs (LEN a0.fInstances) 8 (row GD (encInstance) a0.fInstances))), (11, .c (.v (.int .i64 (A.ofN (LEN a0.fInstances))))), (12, .c (.v (.int .i64 v3))), (17, .c (.v (.int .i64 (GD a0.fInstances (A.toN v3)).fRows))), (18, .c (.v (.int .i64 v18)))] [(512, .arr .rw [] (LEN w) 4 (row GD (encelement) w)), (320, .var [.v (.int .i64 (GD a0.fInstances (A.toN v3)).fCell), .v (.int .i64 (GD a0.fInstances (A.toN v3)).fPlace.fOrientation), .v (.int .i64 (GD a0.fInstances (A.toN v3)).fPlace.fX), .v (.int .i64 (GD a0.fInstances (A.toN v3)).fPlace.fY), .v (.int .i64 (GD a0.fInstances (A.toN v3)).fColumns), .v (.int .i64 (GD a0.fInstances (A.toN v3)).fRows), .v (.int .i64 (GD a0.fInstances (A.toN v3)).fStepX), .v (.int .i64 (GD a0.fInstances (A.toN v3)).fStepY)])])) y) ?_ ?_
     ·clear hr36 hN37
      show St.le _ _
      exact le_sparse rfl ⟨lR _, lR _, lR _, lR _, lR _, lR _, lR _, lR _, lR _, lR _, trivial⟩ ⟨oS, rfl, trivial⟩ rfl
     ·clear hr36 hN37
      intro x z41 h K39 hK40 hY38
      obtain ⟨x0_, x1_⟩ := x
      replace h := of_let h
      obtain ⟨v32, hv32, h⟩ := h
      have hv32 : v32 = x0_ := hv32
      subst hv32
      replace h := of_let h
      obtain ⟨v33, hv33, h⟩ := h
      have hv33 : v33 = x1_ := hv33
      subst hv33
      cbv
      refine fork (fun b53 => ?_) (fun b53 => ?_)
      ·replace h := of_br_t b53 h
       cbv
       replace h := of_bind h
       obtain ⟨y46, hy47, h⟩ := h
       refine ⟨{ args := [.agg [.v (.int .i64 (GD a0.fInstances (A.toN v3)).fCell), .v (.int .i64 (GD a0.fInstances (A.toN v3)).fPlace.fOrientation), .v (.int .i64 (GD a0.fInstances (A.toN v3)).fPlace.fX), .v (.int .i64 (GD a0.fInstances (A.toN v3)).fPlace.fY), .v (.int .i64 (GD a0.fInstances (A.toN v3)).fColumns), .v (.int .i64 (GD a0.fInstances (A.toN v3)).fRows), .v (.int .i64 (GD a0.fInstances (A.toN v3)).fStepX), .v (.int .i64 (GD a0.fInstances (A.toN v3)).fStepY)], .c (.v (.int .i64 v32)), .c (.v (.int .i64 v18))], o0 := [], r := .agg [.v (.int .i64 y46.fOrientation), .v (.int .i64 y46.fX), .v (.int .i64 y46.fY)], o1 := [], fl := true, σ := [], τ := [] }, hf_impl_elementPlace _ _ _ _ hy47, ⟨les_cons (lR _) (les_cons (lR _) (les_cons (lR _) (les_nil))), trivial, rfl, rfl, rfl, rfl, trivial, rfl⟩, ?_⟩
       cbv
       replace h := of_let h
       obtain ⟨l48, hl48, h⟩ := h
       have e49 : 1 = LEN l48 := by subst hl48 hLEN; rfl
       refine ⟨_, congrArg (fun n => AV.c (AC.os 2176 0 n)) e49, _, row GD (encelement) l48, e49, wkOf ?_, ?_⟩
       ·intro i hi j hj
        rw [← e49] at hi
        subst hl48
        subst hGD
        obtain rfl : i = 0 := (by omega) <;> obtain rfl | rfl | rfl | rfl : j = 0 ∨ j = 1 ∨ j = 2 ∨ j = 3 := (by omega)
        all_goals rfl
       cbv
       replace h := of_req h
       obtain ⟨c52, h⟩ := h
       replace h := of_let h
       obtain ⟨l50, hl50, h⟩ := h
       have e51 : A.nadd (LEN v33) (LEN l48) = LEN l50 := by subst hl50 hLEN hA; simp [std, len]
       refine ⟨c52, _, congrArg (fun n => AV.c (AC.os 512 0 n)) e51, _, row GD (encelement) l50, e51, wkOf ?_, ?_⟩
       ·subst hGD hLEN hA
        exact app_os (off := 0) (pl_encelement) hl50 (Nat.le_refl _)
       cbv
       injection h with h
       refine hK40 _ h.symm _ ?_
       exact le_sparse rfl ⟨lR _, lR _, lR _, lR _, lR _, lR _, lR _, lR _, lR _, lR _, trivial⟩ ⟨oS, rfl, trivial⟩ rfl
      ·replace h := of_br_f b53 h
       cbv
       injection h with h
       refine hY38 _ h.symm _ _ (And.intro rfl ?_) (by intro hh; cases hh)
       exact le_sparse rfl ⟨lR _, lR _, lR _, lR _, lR _, lR _, lR _, trivial⟩ ⟨oS, rfl, trivial⟩ rfl
     ·clear hr36
      have h := hN37
      clear hN37
      intro e44 s45 q43 hne
      replace h := of_let h
      obtain ⟨y35k0, hyk, h⟩ := h
      have hyk : y35k0 = y35 := hyk
      subst hyk
      obtain ⟨rfl, q43⟩ := q43
      replace h := of_let h
      obtain ⟨w54, hw54, h⟩ := h
      have hw54 : w54 = y35k0 := hw54
      subst hw54
      cbv
      refine ⟨_, q43, ?_⟩
      cbv
      injection h with h
      refine hK26 _ h.symm _ ?_
      exact le_sparse rfl ⟨lR _, lR _, lR _, lR _, lR _, lR _, lR _, trivial⟩ ⟨oS, rfl, trivial⟩ rfl
    ·replace h := of_br_f b55 h
     cbv
     injection h with h
     refine hY24 _ h.symm _ _ (And.intro rfl ?_) (by intro hh; cases hh)
     exact le_sparse rfl ⟨lR _, lR _, lR _, lR _, trivial⟩ ⟨oS, trivial⟩ rfl
   ·clear hr22
    have h := hN23
    clear hN23
    intro e30 s31 q29 hne
    replace h := of_let h
    obtain ⟨y21k0, hyk, h⟩ := h
    have hyk : y21k0 = y21 := hyk
    subst hyk
    obtain ⟨rfl, q29⟩ := q29
    replace h := of_let h
    obtain ⟨w56, hw56, h⟩ := h
    have hw56 : w56 = y21k0 := hw56
    subst hw56
    cbv
    refine ⟨_, q29, ?_⟩
    cbv
    injection h with h
    refine hK11 _ h.symm _ ?_
    exact le_sparse rfl ⟨lR _, lR _, lR _, lR _, trivial⟩ ⟨oS, trivial⟩ rfl
  ·replace h := of_br_f b57 h
   cbv
   injection h with h
   refine hY9 _ h.symm _ _ (And.intro rfl ?_) (by intro hh; cases hh)
   exact le_sparse rfl ⟨lR _, trivial⟩ ⟨oS, trivial⟩ rfl
 ·clear hr7
  have h := hN8
  clear hN8
  intro e15 s16 q14 hne
  replace h := of_let h
  obtain ⟨y6k0, hyk, h⟩ := h
  have hyk : y6k0 = y6 := hyk
  subst hyk
  obtain ⟨rfl, q14⟩ := q14
  replace h := of_let h
  obtain ⟨w58, hw58, h⟩ := h
  have hw58 : w58 = y6k0 := hw58
  subst hw58
  cbv
  refine ⟨_, q14, ?_⟩
  cbv
  injection h with h
  subst h
  refine ⟨(sparse 40 [(2, .c (.os 64000 0 (LEN w58)))] [(64000, .arr .rw [] (LEN w58) 4 (row GD (encelement) w58))]), ?_, ?_⟩
  ·refine St.le_trans (le_ren 512 64000 (by decide) rfl) ?_
   exact le_sparse rfl ⟨lR _, trivial⟩ ⟨oS, trivial⟩ rfl
  ·exact ⟨lR _, ⟨oS, trivial⟩, rfl⟩

/-- slices.Clone[[]int64,int64] -/
noncomputable def F_slices_Clone_Lint64_int64 (a0 : List Int) : Option (List Int) :=
 nilB (len a0)
 (some ([] : List Int))
 (letO ([] : List Int) fun l1 =>
 req (std.room (std.nadd (len l1) (len a0)) 8) <|
 letO (l1 ++ a0) fun l3 =>
 some l3)
theorem run_slices_Clone_Lint64_int64 (a0 : List Int) (r : List Int) (h : F_slices_Clone_Lint64_int64 a0 = some r) : Fun Try.prog 69 [.c (.bs (len a0) 1 (row gd (encI .i64) a0))] [] (.c (.os 64000 0 (len r))) [(64000, .arr .rw [] (len r) 1 (row gd (encI .i64) r))] true := by
 refine Fun.of_wp (oneOf []) tok mixed Try.func69 (by kernel_rfl) rfl Try.ntmps69 rfl trivial (fun _ => ⟨trivial, ⟨fun i _ j _ => val_flat (rfl), trivial⟩⟩) ?_
 unfold F_slices_Clone_Lint64_int64 at h
 generalize hLEN : @len = LEN at *
 generalize hGD : @gd = GD at *
 generalize hA : std = A at *
 generalize hP : Try.prog = P at *
 cbv
 replace h := of_nilB h
 obtain ⟨h, hz7⟩ := h
 refine And.intro (fun hn6 => ?_) ?_
 ·have h := hz7 hn6
  clear hz7
  cbv
  injection h with h
  subst h
  refine ⟨(sparse 8 [(2, .c (.os 64000 0 (LEN ([] : List Int))))] [(64000, .arr .rw [] (LEN ([] : List Int)) 1 (row GD (encI .i64) ([] : List Int)))]), ?_, ?_⟩
  ·refine St.le_trans (le_nilT 2 64000 1 (row GD (encI .i64) ([] : List Int)) (by decide) rfl) ?_
   subst hLEN
   exact le_sparse rfl ⟨lR _, trivial⟩ ⟨oS, trivial⟩ rfl
  ·subst hLEN
   exact ⟨lR _, ⟨oS, trivial⟩, rfl⟩
 ·clear hz7
  cbv
  replace h := of_let h
  obtain ⟨l1, hl1, h⟩ := h
  have e2 : 0 = LEN l1 := by subst hl1 hLEN; rfl
  refine ⟨_, congrArg (fun n => AV.c (AC.os 320 0 n)) e2, _, row GD (encI .i64) l1, e2, wkOf ?_, ?_⟩
  ·intro i hi j hj
   rw [← e2] at hi
   subst hl1
   subst hGD
   omega
  cbv
  replace h := of_req h
  obtain ⟨c5, h⟩ := h
  replace h := of_let h
  obtain ⟨l3, hl3, h⟩ := h
  have e4 : A.nadd (LEN l1) (LEN a0) = LEN l3 := by subst hl3 hLEN hA; simp [std, len]
  refine ⟨c5, _, congrArg (fun n => AV.c (AC.os 320 0 n)) e4, _, row GD (encI .i64) l3, e4, wkOf ?_, ?_⟩
  ·subst hGD hLEN hA
   exact app_bs (fun _ _ => rfl) hl3 (Nat.le_refl _)
  cbv
  injection h with h
  subst h
  refine ⟨(sparse 8 [(2, .c (.os 64000 0 (LEN l3)))] [(64000, .arr .rw [] (LEN l3) 1 (row GD (encI .i64) l3))]), ?_, ?_⟩
  ·refine St.le_trans (le_ren 320 64000 (by decide) rfl) ?_
   exact le_sparse rfl ⟨lR _, trivial⟩ ⟨oS, trivial⟩ rfl
  ·exact ⟨lR _, ⟨oS, trivial⟩, rfl⟩

noncomputable def L_impl_turn_x13  : (Int × Int × Int) → Option ((Int × Int × Int) ⊕ ((Int × Int))) := fun x13 =>
 letO x13.1 fun v10 =>
 letO x13.2.1 fun v11 =>
 letO x13.2.2 fun v12 =>
 br (std.lt 0 v10)
 (some (.inl (std.sub .i64 v10 1, std.sub .i64 0 v12, v11)))
 (some (.inr (v11, v12)))
/-- impl.turn -/
noncomputable def F_impl_turn (a0 : Int) (a1 : TPoint) : Option (TPoint) :=
 ((
    br (std.le 4 a0)
    (some (std.sub .i64 0 a1.fY))
    (some a1.fY)
  ) : Option (Int)).bind fun y1 =>
 letO y1 fun w7 =>
 req (std.nz 4) <|
 (whileP (σ := Int × Int × Int) (ρ := (Int × Int)) L_impl_turn_x13 (std.rem a0 4, a1.fX, w7)).bind fun y14 =>
 letO y14 fun y14k0 =>
 letO y14k0.1 fun w26 =>
 letO y14k0.2 fun w27 =>
 some (TPoint.mk w26 w27)
theorem run_impl_turn (a0 : Int) (a1 : TPoint) (r : TPoint) (h : F_impl_turn a0 a1 = some r) : Fun Try.prog 191 [.c (.v (.int .i64 a0)), .agg [.v (.int .i64 a1.fX), .v (.int .i64 a1.fY)]] [] (.agg [.v (.int .i64 r.fX), .v (.int .i64 r.fY)]) [] true := by
 refine Fun.of_wp (oneOf [100007]) tok mixed Try.func191 (by kernel_rfl) rfl Try.ntmps191 rfl trivial (fun _ => ⟨(by simp [AV.flat, AV.flat1, AC.flat]), trivial⟩) ?_
 unfold F_impl_turn at h
 unfold L_impl_turn_x13 at h
 generalize hLEN : @len = LEN at *
 generalize hGD : @gd = GD at *
 generalize hA : std = A at *
 generalize hP : Try.prog = P at *
 cbv
 replace h := of_bind h
 obtain ⟨y1, hy2, h⟩ := h
 obtain ⟨S5, hS6⟩ : ∃ S, S = some (sparse 25 [(0, .c (.v (.int .i64 a0))), (3, .c (.ptr 192 0)), (4, .c (.ptr 256 0))] [(192, .var [.v (.int .i64 a1.fX), .v (.int .i64 y1)]), (256, .var [.v (.int .i64 0), .v (.int .i64 0)])]) := ⟨_, rfl⟩
 refine ⟨S5, ?_, ?_⟩
 ·clear h
  have h := hy2
  clear hy2
  cbv
  refine fork (fun b8 => ?_) (fun b8 => ?_)
  ·replace h := of_br_t b8 h
   cbv
   injection h with h
   subst h
   subst hS6
   show St.le _ _
   exact le_sparse rfl ⟨lR _, lR _, lR _, trivial⟩ ⟨rfl, rfl, trivial⟩ rfl
  ·replace h := of_br_f b8 h
   cbv
   injection h with h
   subst h
   subst hS6
   show St.le _ _
   exact le_sparse rfl ⟨lR _, lR _, lR _, trivial⟩ ⟨rfl, rfl, trivial⟩ rfl
 ·clear hy2
  subst hS6
  replace h := of_let h
  obtain ⟨w7, hw7, h⟩ := h
  have hw7 : w7 = y1 := hw7
  subst hw7
  cbv
  replace h := of_req h
  obtain ⟨c9, h⟩ := h
  refine ⟨c9, ?_⟩
  replace h := of_bind h
  obtain ⟨y14, hr15, hN16⟩ := h
  refine loop_cut hr15 (fun x => (sparse 25 [(3, .c (.ptr 192 0)), (4, .c (.ptr 256 0)), (5, .c (.v (.int .i64 x.1)))] [(192, .var [.v (.int .i64 x.2.1), .v (.int .i64 x.2.2)]), (256, .var [.v (.int .i64 0), .v (.int .i64 0)])])) ?_ (fun y e s => (fun (w : Int × Int) => e = .exit 0 ∧ s.le (sparse 25 [(3, .c (.ptr 192 0)), (4, .c (.ptr 256 0))] [(192, .var [.v (.int .i64 w.1), .v (.int .i64 w.2)]), (256, .var [.v (.int .i64 0), .v (.int .i64 0)])])) y) ?_ ?_
  ·clear hr15 hN16
   show St.le _ _
   exact le_sparse rfl ⟨lR _, lR _, lR _, trivial⟩ ⟨rfl, rfl, trivial⟩ rfl
  ·clear hr15 hN16
   intro x z20 h K18 hK19 hY17
   obtain ⟨x0_, x1_, x2_⟩ := x
   replace h := of_let h
   obtain ⟨v10, hv10, h⟩ := h
   have hv10 : v10 = x0_ := hv10
   subst hv10
   replace h := of_let h
   obtain ⟨v11, hv11, h⟩ := h
   have hv11 : v11 = x1_ := hv11
   subst hv11
   replace h := of_let h
   obtain ⟨v12, hv12, h⟩ := h
   have hv12 : v12 = x2_ := hv12
   subst hv12
   cbv
   refine fork (fun b25 => ?_) (fun b25 => ?_)
   ·replace h := of_br_t b25 h
    cbv
    injection h with h
    refine hK19 _ h.symm _ ?_
    exact le_sparse rfl ⟨lR _, lR _, lR _, trivial⟩ ⟨rfl, rfl, trivial⟩ rfl
   ·replace h := of_br_f b25 h
    cbv
    injection h with h
    refine hY17 _ h.symm _ _ (And.intro rfl ?_) (by intro hh; cases hh)
    exact le_sparse rfl ⟨lR _, lR _, trivial⟩ ⟨rfl, rfl, trivial⟩ rfl
  ·clear hr15
   have h := hN16
   clear hN16
   intro e23 s24 q22 hne
   replace h := of_let h
   obtain ⟨y14k0, hyk, h⟩ := h
   have hyk : y14k0 = y14 := hyk
   subst hyk
   obtain ⟨rfl, q22⟩ := q22
   obtain ⟨y14k0_0, y14k0_1⟩ := y14k0
   replace h := of_let h
   obtain ⟨w26, hw26, h⟩ := h
   have hw26 : w26 = y14k0_0 := hw26
   subst hw26
   replace h := of_let h
   obtain ⟨w27, hw27, h⟩ := h
   have hw27 : w27 = y14k0_1 := hw27
   subst hw27
   cbv
   refine ⟨_, q22, ?_⟩
   cbv
   injection h with h
   subst h
   refine ⟨(sparse 25 [(4, .c (.ptr 256 0))] [(256, .var [.v (.int .i64 w26), .v (.int .i64 w27)])]), ?_, ?_⟩
   ·exact le_sparse rfl ⟨lR _, trivial⟩ ⟨rfl, trivial⟩ rfl
   ·exact ⟨lR _, trivial, rfl⟩
end Go.Proofs.Ytlenieingkfjaaa.AM
