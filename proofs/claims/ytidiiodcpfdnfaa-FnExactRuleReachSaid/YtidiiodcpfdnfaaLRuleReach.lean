/-
  THE LAW FnExactRuleReach, PROVED AS STATED: for every argument the call returns true and each argument reads afterwards as before. No condition.
-/
import Derived.Test.YtidiiodcpfdnfaaRows
import Derived.WalkKit
import Derived.ProofKit
import Derived.OpenShut
import Derived.ShutString
import Derived.ChangeOld
import Derived.Below
import Derived.Test.YtidiiodcpfdnfaaOrule
namespace Go.Proofs.Ytidiiodcpfdnfaa.fnExactRuleReach
open Go.ChangeShapes Go.WideShapes Go.ChangeAt Go.RowKit
open Go.ChangeMaps (open_string shut_string)
set_option linter.unusedVariables false

theorem own : ownKnob Try.prog.godebug = none := by kernel_rfl
theorem laidOut : laidOutB Try.prog = true := by kernel_rfl

set_option maxHeartbeats 400000 in
theorem walk (k l o x q : Int) (w : World) :
    Calls Try.prog 7 #[ruleV k l o x q] w fun e w' => e = .returned (.bool true) ∧ Below w.heap.size w w' := by
  unfold ruleV
  go_enter Try.func7, Try.ntmps7
  go_wp2_with fail
  refine (toRule_any _ _ _ _ _ _).mono ?_
  rintro e w1 ⟨rfl, hb1⟩
  unfold ruleV
  go_wp2_with fail
  refine (RuleReach_spec _ _ _ _ _ _).mono ?_
  rintro e w2 ⟨rfl, hb2⟩
  have hB := (((Below.refl w.heap.size w).alloc (Nat.le_refl _) (.cells #[.int .i64 k, .int .i64 l, .int .i64 o, .int .i64 x, .int .i64 q] 27)).trans (hb1.mono (by simp))).trans (hb2.mono (by have := hb1.size; simp at this; omega))
  have hz1 := hb1.size
  have hz2 := hb2.size
  have c0 := (hb2.cell (p := ⟨w.heap.size, 0, none⟩) (by simp at hz1; simp; omega)).trans (hb1.cell (p := ⟨w.heap.size, 0, none⟩) (by simp))
  have c1 := (hb2.cell (p := ⟨w.heap.size, 1, none⟩) (by simp at hz1; simp; omega)).trans (hb1.cell (p := ⟨w.heap.size, 1, none⟩) (by simp))
  have c2 := (hb2.cell (p := ⟨w.heap.size, 2, none⟩) (by simp at hz1; simp; omega)).trans (hb1.cell (p := ⟨w.heap.size, 2, none⟩) (by simp))
  have c3 := (hb2.cell (p := ⟨w.heap.size, 3, none⟩) (by simp at hz1; simp; omega)).trans (hb1.cell (p := ⟨w.heap.size, 3, none⟩) (by simp))
  have c4 := (hb2.cell (p := ⟨w.heap.size, 4, none⟩) (by simp at hz1; simp; omega)).trans (hb1.cell (p := ⟨w.heap.size, 4, none⟩) (by simp))
  have HZ1 := Lib.hid hz1
  have HZ2 := Lib.hid hz2
  clear hz1 hz2
  go_wp2_with fail
  refine (toRule_any _ _ _ _ _ _).mono ?_
  rintro e w3 ⟨rfl, hb3⟩
  unfold ruleV
  go_wp2_with fail
  refine (RuleReach_impl _ _ _ _ _ _).mono ?_
  rintro e w4 ⟨rfl, hb4⟩
  go_wp2_with fail
  go_ret
  have z1 := HZ1.out
  have z2 := HZ2.out
  simp at z1
  exact ⟨rfl, (hB.trans (hb3.mono (by omega))).trans (hb4.mono (by have := hb3.size; omega))⟩

set_option maxRecDepth 100000 in
theorem lifted (os : Os) (started : os.Started) (H : Type) (enc : TypeId × Value → H) :
    ReturnsInHanded {} Try.checked os 7 .any (Rows.fnExactRuleReachSpec.pre6 enc Try.prog Try.f7 Rows.fnExactRuleReachRow.domain false) (Rows.fnExactRuleReachSpec.post enc Try.prog Try.f7 false true false false) := by
  refine returnsInHanded_of_change (C := Try.checked) own started (by kernel_rfl) Try.func7
    (ChangeSpec.witness6 (enc := enc) (C := Try.checked) false ⟨#[], #[.agg #[.int .i64 0, .int .i64 0, .int .i64 0, .int .i64 0, .int .i64 0]], []⟩ 8 (by kernel_rfl) (by kernel_rfl) (by kernel_rfl) (by kernel_rfl)) ?_
  intro W base args ds gs before hval0 hW hcnd _
  have hval : ∀ (j : Nat) t v, Try.f7.params[j]? = some t → args[j]? = some v → Value.okWide Try.prog W .any base t v := hval0
  have hW' := hW
  obtain ⟨p, q, hA0, hV, rfl, hfz, hnd⟩ := hW
  have hA : DataW.TrodAll enc Try.prog W 0 (fun _ => true) true Try.f7.params.toList args.toList ds p := hA0
  rw [Try.params7] at hA hval
  obtain ⟨v0, vs0, d0, ds0, p0, q0, hargs, rfl, rfl, h0, r0⟩ := trodAll_cons hA
  obtain ⟨rfl, rfl, rfl⟩ := trodAll_nil r0
  obtain rfl : args = #[v0] := by cases args; simp_all
  obtain ⟨rfl, rfl⟩ := trodVars_none hV
  have k0 := h0
  have lt0 : ∀ x ∈ p0, x.block < W.heap.size := by obtain ⟨m, hm⟩ := k0; exact DataW.trod_lt m _ _ _ hm
  obtain ⟨k, l, o, x, q, rfl, _⟩ := open_rule (hval 0 27 v0 rfl rfl) h0
  clear hA0 hval0
  refine (walk k l o x q W ).mono fun e W' ⟨he, bel⟩ => ?_
  subst he
  exact ⟨_, rfl, _, _, _, [], _, [], hW', trodAll_mk1 (shut_bool Try.underlying4 _), (trodAll_cons_mk (Below.trod laidOut (by kernel_rfl) (of_decide_eq_true (by kernel_rfl)) k0 bel lt0) trodAll_mk0), rfl, bel.frame _, fun h => by cases h⟩

theorem over : Rows.fnExactRuleReachRow.holds Try.pinned (OpenSpec.ofChange Rows.fnExactRuleReachSpec) :=
  OpenClaim.holds_of_wide 7 Try.f7 rfl rfl rfl rfl rfl rfl rfl ⟨rfl, rfl, rfl, rfl, rfl⟩ rfl rfl rfl rfl rfl (by kernel_rfl) Try.func7 (by kernel_rfl)
    (of_decide_eq_true (by kernel_rfl)) (by unfold Func.isWrapper; first | (rw [if_pos (by decide +kernel)]; kernel_rfl) | (rw [if_neg (by decide +kernel)]; exact ⟨rfl, rfl⟩))
    (fun os started H enc _ => lifted os started H enc)

theorem proved : Rows.FnExactRuleReachSaid :=
  over
#print axioms proved
end Go.Proofs.Ytidiiodcpfdnfaa.fnExactRuleReach
