/-
  PLAIN: two bytes of a stream against a checksum's two bytes.
-/
import Derived.Test.YtidiiodcpfdnfaaSp
import Derived.Test.YtidiiodcpfdnfaaWby
import Derived.Lib.Strings
namespace Go.Proofs.Ytidiiodcpfdnfaa
open Go.RowKit

theorem two_at (l : List UInt8) (i : Nat) (h : i + 1 < l.length) : (l.drop i).take 2 = [l.getD i 0, l.getD (i + 1) 0] := by
  have h1 : l.drop i = l[i] :: l[i + 1] :: l.drop (i + 2) := by
    rw [List.drop_eq_getElem_cons (show i < l.length by omega), List.drop_eq_getElem_cons h]
  rw [h1, List.getD_eq_getElem?_getD, List.getD_eq_getElem?_getD, List.getElem?_eq_getElem (show i < l.length by omega), List.getElem?_eq_getElem h]
  rfl
theorem u8_eq (a b : UInt8) : a = b ↔ (a.toNat : Int) = (b.toNat : Int) := by
  rw [← UInt8.toNat_inj]
  omega
theorem sum_eq (r : ByteArray) (n m : Nat) (c : Int) (h0 : 0 ≤ c) (h1 : c ≤ 65520) (h5 : 5 ≤ n) (h6 : n ≤ r.size) (hm : bt r (n - 2) * 256 + bt r (n - 1) = m) :
    ((mkS (tw c)).toList == (r.extract (n - 2) n).toList) = decide ((m : Int) = c) := by
  have hl : r.data.toList.length = r.size := by rw [Array.length_toList]; rfl
  have e1 : (r.extract (n - 2) n).toList = [r.data.toList.getD (n - 2) 0, r.data.toList.getD (n - 1) 0] := by
    rw [Lib.extract_toList, show n - (n - 2) = 2 by omega, two_at _ _ (by omega), show n - 2 + 1 = n - 1 by omega]
  have e2 : (mkS (tw c)).toList = [byt (c / 256), byt c] := by rw [ByteArray.toList_eq, mkS_list]; rfl
  rw [e1, e2, Bool.eq_iff_iff, beq_iff_eq, decide_eq_true_eq]
  have k1 : bt r (n - 2) = (r.data.toList.getD (n - 2) 0).toNat := rfl
  have k2 : bt r (n - 1) = (r.data.toList.getD (n - 1) 0).toNat := rfl
  have k3 := bt_lt r (n - 2)
  have k4 := bt_lt r (n - 1)
  simp only [List.cons.injEq, and_true, u8_eq, byt_val]
  rw [← k1, ← k2]
  omega
end Go.Proofs.Ytidiiodcpfdnfaa
