/-
  THE WALKS of the functions on rules: each returns what vRule says of the rule's five numbers.
-/
import Derived.Test.YtidiiodcpfdnfaaBs
import Derived.BigGuardPart
namespace Go.Proofs.Ytidiiodcpfdnfaa
open Go.RowKit

/-- a rule's validity, read off its five numbers -/
def vPair (k : Int) : Bool := decide (k = 2 ∨ k = 3)
def vRule (k l o v p : Int) : Bool :=
  decide (0 ≤ k ∧ k ≤ 5 ∧ 0 ≤ l ∧ l ≤ 7 ∧ ((k = 2 ∨ k = 3) → 0 ≤ o ∧ o ≤ 7 ∧ o ≠ l) ∧ (¬ (k = 2 ∨ k = 3) → o = 0) ∧
    (k = 4 → 1 ≤ v ∧ v ≤ 6400 ∧ p = 0) ∧ (k = 5 → 4 ≤ v ∧ v ≤ 40 ∧ 1 ≤ p ∧ p ≤ 100) ∧ (k ≠ 4 ∧ k ≠ 5 → 1 ≤ v ∧ v ≤ 8 ∧ p = 0))
def ruleV (k l o v p : Int) : Value := .agg #[.int .i64 k, .int .i64 l, .int .i64 o, .int .i64 v, .int .i64 p]

set_option maxHeartbeats 1000000 in
theorem IsValidRule_impl (k l o v p : Int) (w : World) :
    Calls Try.prog 17 #[ruleV k l o v p] w fun e w' => e = .returned (.bool (vRule k l o v p)) ∧ Below w.heap.size w w' := by
  unfold ruleV
  go_enter Try.func17, Try.ntmps17
  go_wp2
  all_goals go_ret
  all_goals refine ⟨congrArg (fun b => Ending.returned (Value.bool b)) ?_, (Below.refl _ _).alloc (Nat.le_refl _) _⟩
  all_goals (rw [Bool.eq_iff_iff]; simp [vRule] at * <;> omega)
end Go.Proofs.Ytidiiodcpfdnfaa
