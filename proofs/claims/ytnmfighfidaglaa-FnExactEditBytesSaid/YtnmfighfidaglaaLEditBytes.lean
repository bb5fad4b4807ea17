/-
  THE LAW FnExactEditBytes, PROVED AS STATED: for every argument the call returns true and each argument reads afterwards as before. No condition.
-/
import Derived.Test.YtnmfighfidaglaaRows
import Derived.WalkKit
import Derived.ProofKit
import Derived.OpenShut
import Derived.ShutString
import Derived.ChangeOld
import Derived.Below
import Derived.Test.YtnmfighfidaglaaAmX
namespace Go.Proofs.Ytnmfighfidaglaa.fnExactEditBytes
open Go.ChangeShapes Go.WideShapes Go.ChangeAt Go.RowKit
open Go.ChangeMaps (open_string shut_string)
set_option linter.unusedVariables false

theorem own : ownKnob Try.prog.godebug = none := by kernel_rfl
theorem laidOut : laidOutB Try.prog = true := by kernel_rfl

theorem walk (e : AM.TEdit) (v : Value) (W : World) (h1 : e.fName.size ≤ maxLen) (h2 : e.fLabel.fName.size ≤ maxLen) (hr : AM.RelV (AM.RelI (fun b => b < W.heap.size) W) (.agg [.v (.int .i64 e.fKind), .v (.int .i64 e.fCell), .v (.int .i64 e.fIndex), .v (.string e.fName), .v (.int .i64 e.fShape.fLayer), .v (.int .i64 e.fShape.fBox.fX0), .v (.int .i64 e.fShape.fBox.fY0), .v (.int .i64 e.fShape.fBox.fX1), .v (.int .i64 e.fShape.fBox.fY1), .v (.int .i64 e.fLabel.fLayer), .v (.int .i64 e.fLabel.fAt.fX), .v (.int .i64 e.fLabel.fAt.fY), .v (.string e.fLabel.fName), .v (.int .i64 e.fInstance.fCell), .v (.int .i64 e.fInstance.fPlace.fOrientation), .v (.int .i64 e.fInstance.fPlace.fX), .v (.int .i64 e.fInstance.fPlace.fY), .v (.int .i64 e.fInstance.fColumns), .v (.int .i64 e.fInstance.fRows), .v (.int .i64 e.fInstance.fStepX), .v (.int .i64 e.fInstance.fStepY)]) v) :
    Calls Try.prog 5 #[v] W fun e w' => e = .returned (.bool true) ∧ Below W.heap.size W w' :=
  (AM.run5 e true (AM.F5_true e h1 h2)).yes (AM.relT_cons hr AM.relT_nil)

set_option maxRecDepth 100000 in
theorem lifted (os : Os) (started : os.Started) (H : Type) (enc : TypeId × Value → H) :
    ReturnsInHanded {} Try.checked os 5 .any (Rows.fnExactEditBytesSpec.pre6 enc Try.prog Try.f5 Rows.fnExactEditBytesRow.domain false) (Rows.fnExactEditBytesSpec.post enc Try.prog Try.f5 false true false false) := by
  refine returnsInHanded_of_change (C := Try.checked) own started (by kernel_rfl) Try.func5
    (ChangeSpec.witness6 (enc := enc) (C := Try.checked) false ⟨#[], #[.agg #[.int .i64 0, .int .i64 0, .int .i64 0, .string ByteArray.empty, .int .i64 0, .int .i64 0, .int .i64 0, .int .i64 0, .int .i64 0, .int .i64 0, .int .i64 0, .int .i64 0, .string ByteArray.empty, .int .i64 0, .int .i64 0, .int .i64 0, .int .i64 0, .int .i64 0, .int .i64 0, .int .i64 0, .int .i64 0]], []⟩ 8 (by kernel_rfl) (by kernel_rfl) (by kernel_rfl) (by kernel_rfl)) ?_
  intro W base args ds gs before hval0 hW hcnd _
  have hval : ∀ (j : Nat) t v, Try.f5.params[j]? = some t → args[j]? = some v → Value.okWide Try.prog W .any base t v := hval0
  have hW' := hW
  obtain ⟨p, q, hA0, hV, rfl, hfz, hnd⟩ := hW
  have hA : DataW.TrodAll enc Try.prog W 0 (fun _ => true) true Try.f5.params.toList args.toList ds p := hA0
  rw [Try.params5] at hA hval
  obtain ⟨v0, vs0, d0, ds0, p0, q0, hargs, rfl, rfl, h0, r0⟩ := trodAll_cons hA
  obtain ⟨rfl, rfl, rfl⟩ := trodAll_nil r0
  obtain rfl : args = #[v0] := by cases args; simp_all
  obtain ⟨rfl, rfl⟩ := trodVars_none hV
  have k0 := h0
  have lt0 : ∀ x ∈ p0, x.block < W.heap.size := by obtain ⟨m, hm⟩ := k0; exact DataW.trod_lt m _ _ _ hm
  obtain ⟨e0, w0, r0⟩ := AM.open_TEdit (hval 0 47 v0 rfl rfl) h0
  clear hA0 hval0
  refine (walk e0 v0 W w0.2.2.2.1 w0.2.2.2.2.2.2.2.2.2.2.2.2.1 r0).mono fun e W' ⟨he, bel⟩ => ?_
  subst he
  exact ⟨_, rfl, _, _, _, [], _, [], hW', trodAll_mk1 (shut_bool Try.underlying4 _), (trodAll_cons_mk (Below.trod laidOut (by kernel_rfl) (of_decide_eq_true (by kernel_rfl)) k0 bel lt0) trodAll_mk0), rfl, bel.frame _, fun h => by cases h⟩

theorem named : Try.pinned.checked.prog.funcNamed Rows.fnExactEditBytesRow.func = some 5 := by kernel_rfl
theorem joined : joinedFacts Try.pinned.checked.prog 5 Try.f5 Rows.fnExactEditBytesSpec Rows.fnExactEditBytesRow = true := (of_decide_eq_true (by kernel_rfl))
theorem wrapped : Try.f5.isWrapper Try.pinned.checked.prog Rows.fnExactEditBytesRow.wrapper Rows.fnExactEditBytesRow.mainSum := (by unfold Func.isWrapper; first | (rw [if_pos (by decide +kernel)]; kernel_rfl) | (rw [if_neg (by decide +kernel)]; exact ⟨rfl, rfl⟩))
theorem over : Rows.fnExactEditBytesRow.holds Try.pinned (OpenSpec.ofChange Rows.fnExactEditBytesSpec) :=
  OpenClaim.holds_of_wide 5 Try.f5 rfl rfl rfl rfl rfl rfl rfl ⟨rfl, rfl, rfl, rfl, rfl⟩ rfl rfl rfl rfl rfl named Try.func5 joined
    (of_decide_eq_true (by kernel_rfl)) wrapped
    (fun os started H enc _ => lifted os started H enc)

theorem proved : Rows.FnExactEditBytesSaid :=
  over
#print axioms proved
end Go.Proofs.Ytnmfighfidaglaa.fnExactEditBytes
