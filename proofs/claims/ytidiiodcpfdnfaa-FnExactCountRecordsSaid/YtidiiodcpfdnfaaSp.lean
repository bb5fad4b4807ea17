/-
  PLAIN: what SplitRecord reads off the rest of a stream. Nothing of the program is named here.
-/
import Derived.Test.YtidiiodcpfdnfaaCk
namespace Go.Proofs.Ytidiiodcpfdnfaa
open Go.RowKit

/-- the byte at a place, 0 beyond the end -/
def bt (r : ByteArray) (i : Nat) : Nat := (r.data.toList.getD i 0).toNat
theorem bt_eq (r : ByteArray) (i : Nat) (h : i < r.size) : r[i].toNat = bt r i := by
  have h' : i < r.data.size := h
  unfold bt
  rw [List.getD_eq_getElem?_getD, List.getElem?_eq_getElem (by simpa using h')]
  rfl
theorem bt_lt (r : ByteArray) (i : Nat) : bt r i < 256 := UInt8.toNat_lt _
def eS : ByteArray := ⟨#[]⟩
/-- kind, payload, next place, code -/
def splR (r : ByteArray) (k : Nat) : Nat × ByteArray × Nat × Int :=
  if r.size < 2 then (0, eS, 0, 7) else
  if bt r 0 * 256 + bt r 1 < 5 then (0, eS, 0, 4) else
  if r.size < bt r 0 * 256 + bt r 1 then (0, eS, 0, 7) else
  if ((bt r (bt r 0 * 256 + bt r 1 - 2) * 256 + bt r (bt r 0 * 256 + bt r 1 - 1) : Nat) : Int) ≠ ck (r.extract 0 (bt r 0 * 256 + bt r 1 - 2)).data.toList then (0, eS, 0, 8) else
  if 1 ≤ bt r 2 ∧ bt r 2 ≤ 7 ∧ bt r 0 * 256 + bt r 1 ≤ 205 then (bt r 2, r.extract 3 (bt r 0 * 256 + bt r 1 - 2), k + (bt r 0 * 256 + bt r 1), 0) else (0, eS, 0, 4)
def spl (s : ByteArray) (at_ : Int) : Nat × ByteArray × Nat × Int :=
  if 0 ≤ at_ ∧ at_ ≤ s.size then splR (s.extract at_.toNat s.size) at_.toNat else (0, eS, 0, 2)
def splV (x : Nat × ByteArray × Nat × Int) : Value := .tuple #[.int .i64 (x.1 : Int), .string x.2.1, .int .i64 (x.2.2.1 : Int), .int .i64 x.2.2.2]

section
variable {r : ByteArray} {k n m : Nat}
theorem splR_7a (h : r.size < 2) : splR r k = (0, eS, 0, 7) := by unfold splR; rw [if_pos h]
theorem splR_4a (h : 2 ≤ r.size) (hn : bt r 0 * 256 + bt r 1 = n) (h5 : n < 5) : splR r k = (0, eS, 0, 4) := by
  unfold splR; rw [if_neg (by omega), hn, if_pos h5]
theorem splR_7b (h : 2 ≤ r.size) (hn : bt r 0 * 256 + bt r 1 = n) (h5 : 5 ≤ n) (h6 : r.size < n) : splR r k = (0, eS, 0, 7) := by
  unfold splR; rw [if_neg (by omega), hn, if_neg (by omega), if_pos h6]
theorem splR_8 (hn : bt r 0 * 256 + bt r 1 = n) (h5 : 5 ≤ n) (h6 : n ≤ r.size) (hm : bt r (n - 2) * 256 + bt r (n - 1) = m) (hc : (m : Int) ≠ ck (r.extract 0 (n - 2)).data.toList) : splR r k = (0, eS, 0, 8) := by
  unfold splR; rw [if_neg (by omega), hn, if_neg (by omega), if_neg (by omega), hm, if_pos hc]
theorem splR_4b (hn : bt r 0 * 256 + bt r 1 = n) (h5 : 5 ≤ n) (h6 : n ≤ r.size) (hm : bt r (n - 2) * 256 + bt r (n - 1) = m) (hc : (m : Int) = ck (r.extract 0 (n - 2)).data.toList)
    (h : ¬ (1 ≤ bt r 2 ∧ bt r 2 ≤ 7 ∧ n ≤ 205)) : splR r k = (0, eS, 0, 4) := by
  unfold splR; rw [if_neg (by omega), hn, if_neg (by omega), if_neg (by omega), hm, if_neg (by simpa using hc), if_neg h]
theorem splR_ok (hn : bt r 0 * 256 + bt r 1 = n) (h5 : 5 ≤ n) (h6 : n ≤ r.size) (hm : bt r (n - 2) * 256 + bt r (n - 1) = m) (hc : (m : Int) = ck (r.extract 0 (n - 2)).data.toList)
    (h : 1 ≤ bt r 2 ∧ bt r 2 ≤ 7 ∧ n ≤ 205) : splR r k = (bt r 2, r.extract 3 (n - 2), k + n, 0) := by
  unfold splR; rw [if_neg (by omega), hn, if_neg (by omega), if_neg (by omega), hm, if_neg (by simpa using hc), if_pos h]
end
theorem sub_facts (n : Nat) (m : Nat) (h : m ≤ n) (h' : n ≤ 1048576) : IntKind.i64.wrap ((n : Int) - (m : Int)) = (n : Int) - (m : Int) ∧ (0 : Int) ≤ (n : Int) - (m : Int) ∧ ((n : Int) - (m : Int)).toNat = n - m :=
  ⟨IntWalk.i64_in _ (by omega), by omega, by omega⟩
end Go.Proofs.Ytidiiodcpfdnfaa
