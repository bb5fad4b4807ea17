/-
  PLAIN: the checksum of a list of bytes, its bounds and its step. Nothing of the program is named here.
-/
import Derived.WalkKit
namespace Go.Proofs.Ytidiiodcpfdnfaa
open Go.RowKit

/-- the checksum -/
def ckStep (c : Int) (b : UInt8) : Int := (31 * c + (b.toNat : Int) + 1) % 65521
def ck (l : List UInt8) : Int := l.foldl ckStep 1
theorem ckStep_bd (c : Int) (b : UInt8) : 0 ≤ ckStep c b ∧ ckStep c b ≤ 65520 := by unfold ckStep; omega
theorem ck_snoc (l : List UInt8) (b : UInt8) : ck (l ++ [b]) = ckStep (ck l) b := by unfold ck; rw [List.foldl_append]; rfl
theorem ck_nil : ck [] = 1 := rfl
theorem ck_bd (l : List UInt8) : 0 ≤ ck l ∧ ck l ≤ 65520 := by
  rcases List.eq_nil_or_concat l with h | ⟨l', b, h⟩
  · subst h; exact ⟨by decide, by decide⟩
  · rw [h, List.concat_eq_append, ck_snoc]; exact ckStep_bd _ _
theorem take_snoc (s : ByteArray) (k : Nat) (h : k < s.size) : s.data.toList.take (k + 1) = s.data.toList.take k ++ [s[k]] := by
  rw [List.take_succ_eq_append_getElem (by simpa using h)]; rfl
theorem ret_int {k : IntKind} {a b : Int} (h : a = b) : Ending.returned (.int k a) = .returned (.int k b) := by rw [h]
theorem ck_take (s : ByteArray) (k : Nat) (h : k < s.size) : ck (s.data.toList.take (k + 1)) = (31 * ck (s.data.toList.take k) + (s[k].toNat : Int) + 1) % 65521 := by
  rw [take_snoc s k h, ck_snoc]; rfl
end Go.Proofs.Ytidiiodcpfdnfaa
