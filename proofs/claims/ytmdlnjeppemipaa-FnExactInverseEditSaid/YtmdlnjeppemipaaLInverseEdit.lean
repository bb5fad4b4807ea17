/-
  THE LAW FnExactInverseEdit, PROVED AS STATED: for every argument the call returns true and each argument reads afterwards as before. No condition.
-/
import Derived.Test.YtmdlnjeppemipaaRows
import Derived.WalkKit
import Derived.ProofKit
import Derived.OpenShut
import Derived.ShutString
import Derived.ChangeOld
import Derived.Below
import Derived.Test.YtmdlnjeppemipaaAmZInverseEdit
namespace Go.Proofs.Ytmdlnjeppemipaa.fnExactInverseEdit
open Go.ChangeShapes Go.WideShapes Go.ChangeAt Go.RowKit
open Go.ChangeMaps (open_string shut_string)
set_option linter.unusedVariables false

theorem own : ownKnob Try.prog.godebug = none := by kernel_rfl
theorem laidOut : laidOutB Try.prog = true := by kernel_rfl

theorem walk (e0 : AM.TLibrary) (v0 : Value) (w0 : (AM.wfLibrary) e0) (e1 : AM.TEdit) (v1 : Value) (w1 : (AM.wfEdit) e1) (W : World) (r0 : AM.RelV (AM.RelI (fun b => b < W.heap.size) W) (.agg [.bs (AM.len e0.fCells) 4 (AM.row AM.gd (AM.encCell AM.len AM.gd) e0.fCells)]) v0) (r1 : AM.RelV (AM.RelI (fun b => b < W.heap.size) W) (.agg [.v (.int .i64 e1.fKind), .v (.int .i64 e1.fCell), .v (.int .i64 e1.fIndex), .v (.string e1.fName), .v (.int .i64 e1.fShape.fLayer), .v (.int .i64 e1.fShape.fBox.fX0), .v (.int .i64 e1.fShape.fBox.fY0), .v (.int .i64 e1.fShape.fBox.fX1), .v (.int .i64 e1.fShape.fBox.fY1), .v (.int .i64 e1.fLabel.fLayer), .v (.int .i64 e1.fLabel.fAt.fX), .v (.int .i64 e1.fLabel.fAt.fY), .v (.string e1.fLabel.fName), .v (.int .i64 e1.fInstance.fCell), .v (.int .i64 e1.fInstance.fPlace.fOrientation), .v (.int .i64 e1.fInstance.fPlace.fX), .v (.int .i64 e1.fInstance.fPlace.fY), .v (.int .i64 e1.fInstance.fColumns), .v (.int .i64 e1.fInstance.fRows), .v (.int .i64 e1.fInstance.fStepX), .v (.int .i64 e1.fInstance.fStepY)]) v1) :
    Calls Try.prog 8 #[v0, v1] W fun e w' => e = .returned (.bool true) ∧ Below W.heap.size W w' :=
  (AM.run_laws_FnExactInverseEdit e0 e1 true (AM.lawW_InverseEdit e0 e1 w0 w1)).yes (AM.relT_cons r0 (AM.relT_cons r1 AM.relT_nil))

set_option maxRecDepth 100000 in
theorem lifted (os : Os) (started : os.Started) (H : Type) (enc : TypeId × Value → H) :
    ReturnsInHanded {} Try.checked os 8 .any (Rows.fnExactInverseEditSpec.pre6 enc Try.prog Try.f8 Rows.fnExactInverseEditRow.domain false) (Rows.fnExactInverseEditSpec.post enc Try.prog Try.f8 false true false false) := by
  refine returnsInHanded_of_change (C := Try.checked) own started (by kernel_rfl) Try.func8
    (ChangeSpec.witness6 (enc := enc) (C := Try.checked) false ⟨#[], #[.agg #[.slice none 0 0], .agg #[.int .i64 0, .int .i64 0, .int .i64 0, .string ByteArray.empty, .int .i64 0, .int .i64 0, .int .i64 0, .int .i64 0, .int .i64 0, .int .i64 0, .int .i64 0, .int .i64 0, .string ByteArray.empty, .int .i64 0, .int .i64 0, .int .i64 0, .int .i64 0, .int .i64 0, .int .i64 0, .int .i64 0, .int .i64 0]], []⟩ 8 (by kernel_rfl) (by kernel_rfl) (by kernel_rfl) (by kernel_rfl)) ?_
  intro W base args ds gs before hval0 hW hcnd _
  have hval : ∀ (j : Nat) t v, Try.f8.params[j]? = some t → args[j]? = some v → Value.okWide Try.prog W .any base t v := hval0
  have hW' := hW
  obtain ⟨p, q, hA0, hV, rfl, hfz, hnd⟩ := hW
  have hA : DataW.TrodAll enc Try.prog W 0 (fun _ => true) true Try.f8.params.toList args.toList ds p := hA0
  rw [Try.params8] at hA hval
  obtain ⟨v0, vs0, d0, ds0, p0, q0, hargs, rfl, rfl, h0, r0⟩ := trodAll_cons hA
  obtain ⟨v1, vs1, d1, ds1, p1, q1, rfl, rfl, rfl, h1, r1⟩ := trodAll_cons r0
  obtain ⟨rfl, rfl, rfl⟩ := trodAll_nil r1
  obtain rfl : args = #[v0, v1] := by cases args; simp_all
  obtain ⟨rfl, rfl⟩ := trodVars_none hV
  have k0 := h0
  have lt0 : ∀ x ∈ p0, x.block < W.heap.size := by obtain ⟨m, hm⟩ := k0; exact DataW.trod_lt m _ _ _ hm
  have k1 := h1
  have lt1 : ∀ x ∈ p1, x.block < W.heap.size := by obtain ⟨m, hm⟩ := k1; exact DataW.trod_lt m _ _ _ hm
  obtain ⟨e0, w0, rr0⟩ := AM.open_36 (hval 0 36 v0 rfl rfl) h0
  obtain ⟨e1, w1, rr1⟩ := AM.open_65 (hval 1 65 v1 rfl rfl) h1
  clear hA0 hval0
  refine (walk e0 v0 w0 e1 v1 w1 W rr0 rr1).mono fun e W' ⟨he, bel⟩ => ?_
  subst he
  exact ⟨_, rfl, _, _, _, [], _, [], hW', trodAll_mk1 (shut_bool Try.underlying4 _), (trodAll_cons_mk (Below.trod laidOut (by kernel_rfl) (of_decide_eq_true (by kernel_rfl)) k0 bel lt0) (trodAll_cons_mk (Below.trod laidOut (by kernel_rfl) (of_decide_eq_true (by kernel_rfl)) k1 bel lt1) trodAll_mk0)), rfl, bel.frame _, fun h => by cases h⟩

theorem named : Try.pinned.checked.prog.funcNamed Rows.fnExactInverseEditRow.func = some 8 := by kernel_rfl
theorem joined : joinedFacts Try.pinned.checked.prog 8 Try.f8 Rows.fnExactInverseEditSpec Rows.fnExactInverseEditRow = true := (of_decide_eq_true (by kernel_rfl))
theorem wrapped : Try.f8.isWrapper Try.pinned.checked.prog Rows.fnExactInverseEditRow.wrapper Rows.fnExactInverseEditRow.mainSum := (by unfold Func.isWrapper; first | (rw [if_pos (by decide +kernel)]; kernel_rfl) | (rw [if_neg (by decide +kernel)]; exact ⟨rfl, rfl⟩))
theorem over : Rows.fnExactInverseEditRow.holds Try.pinned (OpenSpec.ofChange Rows.fnExactInverseEditSpec) :=
  OpenClaim.holds_of_wide 8 Try.f8 rfl rfl rfl rfl rfl rfl rfl ⟨rfl, rfl, rfl, rfl, rfl⟩ rfl rfl rfl rfl rfl named Try.func8 joined
    (of_decide_eq_true (by kernel_rfl)) wrapped
    (fun os started H enc _ => lifted os started H enc)

theorem proved : Rows.FnExactInverseEditSaid :=
  over
#print axioms proved
end Go.Proofs.Ytmdlnjeppemipaa.fnExactInverseEdit
