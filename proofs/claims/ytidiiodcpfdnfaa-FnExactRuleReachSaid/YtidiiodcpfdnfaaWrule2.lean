/-
  THE WALKS of the functions on rules, continued: spec.IsValidRule, toRule, RuleReach.
-/
import Derived.Test.YtidiiodcpfdnfaaWrule
import Derived.BigGuardPart
namespace Go.Proofs.Ytidiiodcpfdnfaa
open Go.RowKit

set_option maxHeartbeats 2000000 in
theorem IsValidRule_spec (k l o v p : Int) (w : World) :
    Calls Try.prog 15 #[ruleV k l o v p] w fun e w' => e = .returned (.bool (vRule k l o v p)) ∧ Below w.heap.size w w' := by
  unfold ruleV
  go_enter Try.func15, Try.ntmps15
  go_wp2
  all_goals go_ret
  all_goals refine ⟨congrArg (fun b => Ending.returned (Value.bool b)) ?_, by first | exact (Below.refl _ _).alloc (Nat.le_refl _) _ | exact ((Below.refl _ _).alloc (Nat.le_refl _) _).alloc (by simp) _⟩
  all_goals (rw [Bool.eq_iff_iff]; simp [vRule] at * <;> omega)
end Go.Proofs.Ytidiiodcpfdnfaa
