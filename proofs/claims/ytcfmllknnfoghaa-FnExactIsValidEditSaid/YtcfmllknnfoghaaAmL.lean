/-
  THE ABSTRACT MACHINE, 22: names for plain values, and the small laws of plain arithmetic that close a walk. No condition.
-/
import Derived.Test.YtcfmllknnfoghaaAmD
namespace Go.Proofs.Ytcfmllknnfoghaa.AM
open Go Go.RowKit
set_option linter.unusedVariables false
set_option linter.unusedSimpArgs false
set_option maxRecDepth 100000

def bv (b : Bool) : AV := .c (.v (.bool b))
def iv (x : Int) : AV := .c (.v (.int .i64 x))
def sv (s : ByteArray) : AV := .c (.v (.string s))
theorem bv_le {b c : Bool} (h : b = true ↔ c = true) : (AV.c (.v (.bool b))).le (bv c) := AV.le_of_eq (by rw [Bool.eq_iff_iff.2 h]; rfl)
theorem bvp_le {b : Bool} {p : Prop} [Decidable p] (h : b = true ↔ p) : (AV.c (.v (.bool b))).le (bv (decide p)) := bv_le (by rw [h, decide_eq_true_iff])
theorem wrap_in {x : Int} (h : -9223372036854775808 ≤ x) (h' : x < 9223372036854775808) : IntKind.i64.wrap x = x := by
  simp [IntKind.wrap, IntKind.bits, IntKind.signed]; omega
theorem wrap_succ {k n : Nat} (hk : k < n) (hn : n < 2 ^ 63) : IntKind.i64.wrap ((k : Int) + 1) = (k : Int) + 1 := wrap_in (by omega) (by omega)
theorem sat_lo (s : ByteArray) (i : Nat) : 0 ≤ std.sat s i ∧ std.sat s i < 256 := by
  simp only [std]
  have := (s[i]?.getD 0).toNat_lt
  omega
end Go.Proofs.Ytcfmllknnfoghaa.AM
