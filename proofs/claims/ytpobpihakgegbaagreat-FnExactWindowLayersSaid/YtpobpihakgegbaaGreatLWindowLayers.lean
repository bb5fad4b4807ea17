/-
  THE LAW FnExactWindowLayers, PROVED AS STATED: for every argument the call returns true and each argument reads afterwards as before. No condition.
-/
import Derived.Test.YtpobpihakgegbaaGreatRows
import Derived.WalkKit
import Derived.ProofKit
import Derived.OpenShut
import Derived.ShutString
import Derived.ChangeOld
import Derived.Below
import Derived.Test.YtpobpihakgegbaaGreatAmZWindowLayers
namespace Go.Proofs.YtpobpihakgegbaaGreat.fnExactWindowLayers
open Go.ChangeShapes Go.WideShapes Go.ChangeAt Go.RowKit
open Go.ChangeMaps (open_string shut_string)
set_option linter.unusedVariables false

theorem own : ownKnob Tryz.prog.godebug = none := by kernel_rfl
theorem laidOut : laidOutB Tryz.prog = true := by kernel_rfl

theorem walk (e0 : AM.TLibrary) (v0 : Value) (w0 : (AM.wfLibrary) e0) (e1 : Int) (v1 : Value) (w1 : (Lit.int .i64 e1).wf = true) (e2 : AM.TRect) (v2 : Value) (w2 : (AM.wfRect) e2) (W : World) (r0 : AM.RelV (AM.RelI (fun b => b < W.heap.size) W) (.agg [.bs (AM.len e0.fCells) 4 (AM.row AM.gd (AM.encCell AM.len AM.gd) e0.fCells)]) v0) (r1 : AM.RelV (AM.RelI (fun b => b < W.heap.size) W) (.c (.v (.int .i64 e1))) v1) (r2 : AM.RelV (AM.RelI (fun b => b < W.heap.size) W) (.agg [.v (.int .i64 e2.fX0), .v (.int .i64 e2.fY0), .v (.int .i64 e2.fX1), .v (.int .i64 e2.fY1)]) v2) :
    Calls Tryz.prog 3 #[v0, v1, v2] W fun e w' => e = .returned (.bool true) ∧ Below W.heap.size W w' :=
  (AM.run_laws_FnExactWindowLayers e0 e1 e2 true (AM.lawW_EWindowLayers e0 e1 e2 w0 w1 w2)).yes (AM.relT_cons r0 (AM.relT_cons r1 (AM.relT_cons r2 AM.relT_nil))) (AM.glo_nil rfl)

set_option maxRecDepth 100000 in
theorem lifted (os : Os) (started : os.Started) (H : Type) (enc : TypeId × Value → H) :
    ReturnsInHanded {} Tryz.checked os 3 .any (Rows.fnExactWindowLayersSpec.pre6 enc Tryz.prog Tryz.f3 Rows.fnExactWindowLayersRow.domain false) (Rows.fnExactWindowLayersSpec.post enc Tryz.prog Tryz.f3 false true false false) := by
  refine returnsInHanded_of_change (C := Tryz.checked) own started (by kernel_rfl) Tryz.func3
    (ChangeSpec.witness6 (enc := enc) (C := Tryz.checked) false ⟨#[], #[.agg #[.slice none 0 0], .int .i64 0, .agg #[.int .i64 0, .int .i64 0, .int .i64 0, .int .i64 0]], []⟩ 8 (by kernel_rfl) (by kernel_rfl) (by kernel_rfl) (by kernel_rfl)) ?_
  intro W base args ds gs before hval0 hW hcnd _
  have hval : ∀ (j : Nat) t v, Tryz.f3.params[j]? = some t → args[j]? = some v → Value.okWide Tryz.prog W .any base t v := hval0
  have hW' := hW
  obtain ⟨p, q, hA0, hV, rfl, hfz, hnd⟩ := hW
  have hA : DataW.TrodAll enc Tryz.prog W 0 (fun _ => true) true Tryz.f3.params.toList args.toList ds p := hA0
  rw [Tryz.params3] at hA hval
  obtain ⟨v0, vs0, d0, ds0, p0, q0, hargs, rfl, rfl, h0, r0⟩ := trodAll_cons hA
  obtain ⟨v1, vs1, d1, ds1, p1, q1, rfl, rfl, rfl, h1, r1⟩ := trodAll_cons r0
  obtain ⟨v2, vs2, d2, ds2, p2, q2, rfl, rfl, rfl, h2, r2⟩ := trodAll_cons r1
  obtain ⟨rfl, rfl, rfl⟩ := trodAll_nil r2
  obtain rfl : args = #[v0, v1, v2] := by cases args; simp_all
  obtain ⟨rfl, rfl⟩ := trodVars_none hV
  have k0 := h0
  have lt0 : ∀ x ∈ p0, x.block < W.heap.size := by obtain ⟨m, hm⟩ := k0; exact DataW.trod_lt m _ _ _ hm
  have k1 := h1
  have lt1 : ∀ x ∈ p1, x.block < W.heap.size := by obtain ⟨m, hm⟩ := k1; exact DataW.trod_lt m _ _ _ hm
  have k2 := h2
  have lt2 : ∀ x ∈ p2, x.block < W.heap.size := by obtain ⟨m, hm⟩ := k2; exact DataW.trod_lt m _ _ _ hm
  obtain ⟨e0, w0, rr0⟩ := AM.open_24 (hval 0 24 v0 rfl rfl) h0
  obtain ⟨e1, rfl, rfl, rfl, w1⟩ := open_int Tryz.underlying2 (hval 1 2 v1 rfl rfl) h1
  obtain ⟨e2, w2, rr2⟩ := AM.open_26 (hval 2 26 v2 rfl rfl) h2
  clear hA0 hval0
  refine (walk e0 v0 w0 e1 (.int .i64 e1) w1 e2 v2 w2 W rr0 ⟨rfl, rfl⟩ rr2).mono fun e W' ⟨he, bel⟩ => ?_
  subst he
  exact ⟨_, rfl, _, _, _, [], _, [], hW', trodAll_mk1 (shut_bool Tryz.underlying4 _), (trodAll_cons_mk (Below.trod laidOut (by kernel_rfl) (of_decide_eq_true (by kernel_rfl)) k0 bel lt0) (trodAll_cons_mk (Below.trod laidOut (by kernel_rfl) (of_decide_eq_true (by kernel_rfl)) k1 bel lt1) (trodAll_cons_mk (Below.trod laidOut (by kernel_rfl) (of_decide_eq_true (by kernel_rfl)) k2 bel lt2) trodAll_mk0))), rfl, bel.frame _, fun h => by cases h⟩

theorem named : Tryz.pinned.checked.prog.funcNamed Rows.fnExactWindowLayersRow.func = some 3 := by kernel_rfl
theorem and_t {a b : Bool} (ha : a = true) (hb : b = true) : (a && b) = true := by rw [ha, hb]; rfl
set_option maxRecDepth 100000 in
set_option maxHeartbeats 4000000 in
theorem joined : joinedFacts Tryz.pinned.checked.prog 3 Tryz.f3 Rows.fnExactWindowLayersSpec Rows.fnExactWindowLayersRow = true := by
  unfold joinedFacts
  repeat' (with_reducible refine and_t ?_ ?_)
  all_goals (as_aux_lemma => kernel_rfl)
theorem wrapped : Tryz.f3.isWrapper Tryz.pinned.checked.prog Rows.fnExactWindowLayersRow.wrapper Rows.fnExactWindowLayersRow.mainSum := (by unfold Func.isWrapper; first | (rw [if_pos (by decide +kernel)]; kernel_rfl) | (rw [if_neg (by decide +kernel)]; exact ⟨rfl, rfl⟩))
theorem over : Rows.fnExactWindowLayersRow.holds Tryz.pinned (OpenSpec.ofChange Rows.fnExactWindowLayersSpec) :=
  OpenClaim.holds_of_wide 3 Tryz.f3 rfl rfl rfl rfl rfl rfl rfl ⟨rfl, rfl, rfl, rfl, rfl⟩ rfl rfl rfl rfl rfl named Tryz.func3 joined
    (of_decide_eq_true (by kernel_rfl)) wrapped
    (fun os started H enc _ => lifted os started H enc)

theorem proved : Rows.FnExactWindowLayersSaid :=
  over
#print axioms proved
end Go.Proofs.YtpobpihakgegbaaGreat.fnExactWindowLayers
