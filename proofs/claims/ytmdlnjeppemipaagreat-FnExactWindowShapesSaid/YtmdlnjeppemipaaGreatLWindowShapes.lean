/-
  THE LAW FnExactWindowShapes, PROVED AS STATED: for every argument the call returns true and each argument reads afterwards as before. No condition.
-/
import Derived.Test.YtmdlnjeppemipaaGreatRows
import Derived.WalkKit
import Derived.ProofKit
import Derived.OpenShut
import Derived.ShutString
import Derived.ChangeOld
import Derived.Below
import Derived.Test.YtmdlnjeppemipaaGreatAmZWindowShapes
namespace Go.Proofs.YtmdlnjeppemipaaGreat.fnExactWindowShapes
open Go.ChangeShapes Go.WideShapes Go.ChangeAt Go.RowKit
open Go.ChangeMaps (open_string shut_string)
set_option linter.unusedVariables false

theorem own : ownKnob Tryz.prog.godebug = none := by kernel_rfl
theorem laidOut : laidOutB Tryz.prog = true := by kernel_rfl

theorem walk (e0 : AM.TLibrary) (v0 : Value) (w0 : (AM.wfLibrary) e0) (e1 : Int) (v1 : Value) (w1 : (Lit.int .i64 e1).wf = true) (e2 : Int) (v2 : Value) (w2 : (Lit.int .i64 e2).wf = true) (e3 : AM.TRect) (v3 : Value) (w3 : (AM.wfRect) e3) (W : World) (r0 : AM.RelV (AM.RelI (fun b => b < W.heap.size) W) (.agg [.bs (AM.len e0.fCells) 4 (AM.row AM.gd (AM.encCell AM.len AM.gd) e0.fCells)]) v0) (r1 : AM.RelV (AM.RelI (fun b => b < W.heap.size) W) (.c (.v (.int .i64 e1))) v1) (r2 : AM.RelV (AM.RelI (fun b => b < W.heap.size) W) (.c (.v (.int .i64 e2))) v2) (r3 : AM.RelV (AM.RelI (fun b => b < W.heap.size) W) (.agg [.v (.int .i64 e3.fX0), .v (.int .i64 e3.fY0), .v (.int .i64 e3.fX1), .v (.int .i64 e3.fY1)]) v3) :
    Calls Tryz.prog 4 #[v0, v1, v2, v3] W fun e w' => e = .returned (.bool true) ∧ Below W.heap.size W w' :=
  (AM.run_laws_FnExactWindowShapes e0 e1 e2 e3 true (AM.lawW_WindowShapes e0 e1 e2 e3 w0 w1 w2 w3)).yes (AM.relT_cons r0 (AM.relT_cons r1 (AM.relT_cons r2 (AM.relT_cons r3 AM.relT_nil))))

set_option maxRecDepth 100000 in
theorem lifted (os : Os) (started : os.Started) (H : Type) (enc : TypeId × Value → H) :
    ReturnsInHanded {} Tryz.checked os 4 .any (Rows.fnExactWindowShapesSpec.pre6 enc Tryz.prog Tryz.f4 Rows.fnExactWindowShapesRow.domain false) (Rows.fnExactWindowShapesSpec.post enc Tryz.prog Tryz.f4 false true false false) := by
  refine returnsInHanded_of_change (C := Tryz.checked) own started (by kernel_rfl) Tryz.func4
    (ChangeSpec.witness6 (enc := enc) (C := Tryz.checked) false ⟨#[], #[.agg #[.slice none 0 0], .int .i64 0, .int .i64 0, .agg #[.int .i64 0, .int .i64 0, .int .i64 0, .int .i64 0]], []⟩ 8 (by kernel_rfl) (by kernel_rfl) (by kernel_rfl) (by kernel_rfl)) ?_
  intro W base args ds gs before hval0 hW hcnd _
  have hval : ∀ (j : Nat) t v, Tryz.f4.params[j]? = some t → args[j]? = some v → Value.okWide Tryz.prog W .any base t v := hval0
  have hW' := hW
  obtain ⟨p, q, hA0, hV, rfl, hfz, hnd⟩ := hW
  have hA : DataW.TrodAll enc Tryz.prog W 0 (fun _ => true) true Tryz.f4.params.toList args.toList ds p := hA0
  rw [Tryz.params4] at hA hval
  obtain ⟨v0, vs0, d0, ds0, p0, q0, hargs, rfl, rfl, h0, r0⟩ := trodAll_cons hA
  obtain ⟨v1, vs1, d1, ds1, p1, q1, rfl, rfl, rfl, h1, r1⟩ := trodAll_cons r0
  obtain ⟨v2, vs2, d2, ds2, p2, q2, rfl, rfl, rfl, h2, r2⟩ := trodAll_cons r1
  obtain ⟨v3, vs3, d3, ds3, p3, q3, rfl, rfl, rfl, h3, r3⟩ := trodAll_cons r2
  obtain ⟨rfl, rfl, rfl⟩ := trodAll_nil r3
  obtain rfl : args = #[v0, v1, v2, v3] := by cases args; simp_all
  obtain ⟨rfl, rfl⟩ := trodVars_none hV
  have k0 := h0
  have lt0 : ∀ x ∈ p0, x.block < W.heap.size := by obtain ⟨m, hm⟩ := k0; exact DataW.trod_lt m _ _ _ hm
  have k1 := h1
  have lt1 : ∀ x ∈ p1, x.block < W.heap.size := by obtain ⟨m, hm⟩ := k1; exact DataW.trod_lt m _ _ _ hm
  have k2 := h2
  have lt2 : ∀ x ∈ p2, x.block < W.heap.size := by obtain ⟨m, hm⟩ := k2; exact DataW.trod_lt m _ _ _ hm
  have k3 := h3
  have lt3 : ∀ x ∈ p3, x.block < W.heap.size := by obtain ⟨m, hm⟩ := k3; exact DataW.trod_lt m _ _ _ hm
  obtain ⟨e0, w0, rr0⟩ := AM.open_24 (hval 0 24 v0 rfl rfl) h0
  obtain ⟨e1, rfl, rfl, rfl, w1⟩ := open_int Tryz.underlying2 (hval 1 2 v1 rfl rfl) h1
  obtain ⟨e2, rfl, rfl, rfl, w2⟩ := open_int Tryz.underlying2 (hval 2 2 v2 rfl rfl) h2
  obtain ⟨e3, w3, rr3⟩ := AM.open_26 (hval 3 26 v3 rfl rfl) h3
  clear hA0 hval0
  refine (walk e0 v0 w0 e1 (.int .i64 e1) w1 e2 (.int .i64 e2) w2 e3 v3 w3 W rr0 ⟨rfl, rfl⟩ ⟨rfl, rfl⟩ rr3).mono fun e W' ⟨he, bel⟩ => ?_
  subst he
  exact ⟨_, rfl, _, _, _, [], _, [], hW', trodAll_mk1 (shut_bool Tryz.underlying4 _), (trodAll_cons_mk (Below.trod laidOut (by kernel_rfl) (of_decide_eq_true (by kernel_rfl)) k0 bel lt0) (trodAll_cons_mk (Below.trod laidOut (by kernel_rfl) (of_decide_eq_true (by kernel_rfl)) k1 bel lt1) (trodAll_cons_mk (Below.trod laidOut (by kernel_rfl) (of_decide_eq_true (by kernel_rfl)) k2 bel lt2) (trodAll_cons_mk (Below.trod laidOut (by kernel_rfl) (of_decide_eq_true (by kernel_rfl)) k3 bel lt3) trodAll_mk0)))), rfl, bel.frame _, fun h => by cases h⟩

theorem named : Tryz.pinned.checked.prog.funcNamed Rows.fnExactWindowShapesRow.func = some 4 := by kernel_rfl
theorem joined : joinedFacts Tryz.pinned.checked.prog 4 Tryz.f4 Rows.fnExactWindowShapesSpec Rows.fnExactWindowShapesRow = true := (of_decide_eq_true (by kernel_rfl))
theorem wrapped : Tryz.f4.isWrapper Tryz.pinned.checked.prog Rows.fnExactWindowShapesRow.wrapper Rows.fnExactWindowShapesRow.mainSum := (by unfold Func.isWrapper; first | (rw [if_pos (by decide +kernel)]; kernel_rfl) | (rw [if_neg (by decide +kernel)]; exact ⟨rfl, rfl⟩))
theorem over : Rows.fnExactWindowShapesRow.holds Tryz.pinned (OpenSpec.ofChange Rows.fnExactWindowShapesSpec) :=
  OpenClaim.holds_of_wide 4 Tryz.f4 rfl rfl rfl rfl rfl rfl rfl ⟨rfl, rfl, rfl, rfl, rfl⟩ rfl rfl rfl rfl rfl named Tryz.func4 joined
    (of_decide_eq_true (by kernel_rfl)) wrapped
    (fun os started H enc _ => lifted os started H enc)

theorem proved : Rows.FnExactWindowShapesSaid :=
  over
#print axioms proved
end Go.Proofs.YtmdlnjeppemipaaGreat.fnExactWindowShapes
