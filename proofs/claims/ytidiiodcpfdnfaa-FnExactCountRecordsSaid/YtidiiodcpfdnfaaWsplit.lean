/-
  THE WALK of impl.SplitRecord: it returns what spl says. Condition: the stream has at most 1048576 bytes.
-/
import Derived.Test.YtidiiodcpfdnfaaWrec
import Derived.Test.YtidiiodcpfdnfaaSp
import Derived.WalkSpells
import Derived.Deep.QuietTactic
import Derived.BigQuiet
namespace Go.Proofs.Ytidiiodcpfdnfaa
open Go.RowKit

theorem results_tmp4 {fn : Func} {t u v x : Tmp} (h : fn.results = #[.tmp t, .tmp u, .tmp v, .tmp x]) (tmps : Array Value) (P : Program) (w : World) :
    (results fn tmps).run P w = .ok (.tuple #[tmps.getD t undef, tmps.getD u undef, tmps.getD v undef, tmps.getD x undef]) w := by simp [results, h]
theorem below_drewN {B : Nat} {a w : World} (h : Below B a w) (n : Nat) : Below B a (w.drewN n) := ⟨h.os, h.tape, h.output, h.size, h.block⟩

set_option maxHeartbeats 1000000 in
theorem SplitRecord_in (s : ByteArray) (k : Nat) (w : World) (hs : s.size ≤ 1048576) (hk : k ≤ s.size) :
    Calls Try.prog 19 #[.string s, .int .i64 k] w fun e w' => e = .returned (splV (splR (s.extract k s.size) k)) ∧ Below w.heap.size w w' := by
  by_cases h2 : s.size < k + 2
  · have HF := Lib.hid (splR_7a (r := s.extract k s.size) (k := k) (by simp; omega))
    go_enter Try.func19, Try.ntmps19
    go_wp2
    refine bodyPost_ret (results_tmp4 rfl _ _ _) rfl ?_
    rw [HF.out]
    exact ⟨rfl, Below.refl _ _⟩
  go_enter Try.func19, Try.ntmps19
  go_wp2
  have hrs : (s.extract k s.size).size = s.size - k := by simp
  generalize hR : s.extract k s.size = r at *
  have HR := Lib.hid hR
  have hr2 : 2 ≤ r.size := by omega
  have hr3 : r.size ≤ 1048576 := by omega
  clear hrs hR
  have q0 : 0 < r.size := by omega
  have q1 : (1 : Int) < (r.size : Int) := by omega
  have b0 : r[0].toNat < 256 := r[0].toNat_lt
  have b1 : r[1].toNat < 256 := r[1].toNat_lt
  go_quiet (fail)
  obtain ⟨n, hn⟩ : ∃ n : Nat, (r[0].toNat : Int) * (256 : Int) + (r[1].toNat : Int) = (n : Int) := ⟨r[0].toNat * 256 + r[1].toNat, by omega⟩
  rw [hn]
  have HN := Lib.hid (show bt r 0 * 256 + bt r 1 = n by rw [← bt_eq r 0 q0, ← bt_eq r 1 (by omega)]; omega)
  clear hn b0 b1
  by_cases h5 : n < 5
  · go_wp2
    refine bodyPost_ret (results_tmp4 rfl _ _ _) rfl ?_
    rw [HR.out, splR_4a hr2 HN.out h5]
    exact ⟨rfl, below_drewN (Below.refl _ _) _⟩
  by_cases h6 : r.size < n
  · go_wp2
    refine bodyPost_ret (results_tmp4 rfl _ _ _) rfl ?_
    rw [HR.out, splR_7b hr2 HN.out (by omega) h6]
    exact ⟨rfl, below_drewN (Below.refl _ _) _⟩
  go_wp2
  have q2 : 2 < r.size := by omega
  have x2 : (2 : Int) < (r.size : Int) := by omega
  have i1 : n - 1 < r.size := by omega
  have i2 : n - 2 < r.size := by omega
  have b1 : r[n - 2].toNat < 256 := r[n - 2].toNat_lt
  have b2 : r[n - 1].toNat < 256 := r[n - 1].toNat_lt
  have hn3 : n ≤ 1048576 := by omega
  have e7 : ((n : Int) - 2) < (r.size : Int) := by omega
  have e8 : ((n : Int) - 1) < (r.size : Int) := by omega
  have f1 := sub_facts n 2 (by omega) hn3
  have f2 := sub_facts n 1 (by omega) hn3
  have e1 : IntKind.i64.wrap ((n : Int) - 2) = (n : Int) - 2 := f1.1
  have e3 : (0 : Int) ≤ (n : Int) - 2 := f1.2.1
  have e5 : ((n : Int) - 2).toNat = n - 2 := f1.2.2
  have e2 : IntKind.i64.wrap ((n : Int) - 1) = (n : Int) - 1 := f2.1
  have e4 : (0 : Int) ≤ (n : Int) - 1 := f2.2.1
  have e6 : ((n : Int) - 1).toNat = n - 1 := f2.2.2
  clear f1 f2
  have g1 : (2 : Int) ≤ (n : Int) := by omega
  have g2 : (1 : Int) ≤ (n : Int) := by omega
  go_quiet (fail)
  obtain ⟨m, hm⟩ : ∃ m : Nat, (r[n - 2].toNat : Int) * (256 : Int) + (r[n - 1].toNat : Int) = (m : Int) := ⟨r[n - 2].toNat * 256 + r[n - 1].toNat, by omega⟩
  rw [hm]
  have HM := Lib.hid (show bt r (n - 2) * 256 + bt r (n - 1) = m by rw [← bt_eq r _ i1, ← bt_eq r _ i2]; omega)
  have hm2 : m < 65536 := by clear e1 e2; omega
  clear hm b1 b2
  have d1 : (3 : Int) ≤ (n : Int) - 2 := by clear e1 e2; omega
  have d2 : (n : Int) - 2 ≤ (r.size : Int) := by clear e1 e2; omega
  have d3 : (5 : Int) ≤ (n : Int) := by clear e1 e2; omega
  have b3 : r[2].toNat < 256 := r[2].toNat_lt
  go_wp2
  go_quiet (fail)
  clear e1 e2
  have hk2 : r[2].toNat = bt r 2 := bt_eq r 2 q2
  rw [hk2]
  clear b3
  have hk3 := bt_lt r 2
  clear hk2
  go_wp2_with fail
  refine (cksum_impl _ _ (by simp [maxLen]; omega)).mono ?_
  rintro e w1 ⟨rfl, rfl⟩
  generalize hC : ck (r.extract 0 (n - 2)).data.toList = c
  have HC := Lib.hid hC
  clear hC
  by_cases hc : (m : Int) = c
  · have hc1 : ((m : Int) != c) = false := by rw [← hc]; simp
    have HC1 := Lib.hid hc
    clear hc
    by_cases h7 : 1 ≤ bt r 2 ∧ bt r 2 ≤ 7 ∧ n ≤ 205
    · obtain ⟨h8, h9, h10⟩ := h7
      go_wp2
      refine bodyPost_ret (results_tmp4 rfl _ _ _) rfl ?_
      rw [HR.out, splR_ok HN.out (by omega) (by omega) HM.out (HC1.out.trans HC.out.symm) ⟨h8, h9, h10⟩]
      exact ⟨by simp [splV], below_drewN (Below.refl _ _) _⟩
    · have HF := Lib.hid (splR_4b (k := k) HN.out (by omega) (by omega) HM.out (HC1.out.trans HC.out.symm) h7)
      rcases (show bt r 2 < 1 ∨ (1 ≤ bt r 2 ∧ 7 < bt r 2) ∨ (1 ≤ bt r 2 ∧ bt r 2 ≤ 7 ∧ 205 < n) by omega) with h | ⟨h, h'⟩ | ⟨h, h', h''⟩
      all_goals
        go_wp2
        refine bodyPost_ret (results_tmp4 rfl _ _ _) rfl ?_
        rw [HR.out, HF.out]
        exact ⟨rfl, below_drewN (Below.refl _ _) _⟩
  · have hc1 : ((m : Int) != c) = true := by simpa using hc
    have HF := Lib.hid (splR_8 (k := k) HN.out (by omega) (by omega) HM.out (by rw [HC.out]; exact hc))
    clear hc
    go_wp2
    refine bodyPost_ret (results_tmp4 rfl _ _ _) rfl ?_
    rw [HR.out, HF.out]
    exact ⟨rfl, below_drewN (Below.refl _ _) _⟩
end Go.Proofs.Ytidiiodcpfdnfaa
