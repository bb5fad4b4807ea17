/-
  THE WALK of spec.SplitRecord: it returns what spl says. Condition: the stream has at most 1048576 bytes.
-/
import Derived.Test.YtidiiodcpfdnfaaWsplit
import Derived.Test.YtidiiodcpfdnfaaSp2
import Derived.Deep.RegionWith
import Derived.BigRegion
namespace Go.Proofs.Ytidiiodcpfdnfaa
open Go.RowKit

set_option maxHeartbeats 1000000 in
theorem SplitRecord_sp (s : ByteArray) (k : Nat) (w : World) (hs : s.size ≤ 1048576) (hk : k ≤ s.size) :
    Calls Try.prog 18 #[.string s, .int .i64 k] w fun e w' => e = .returned (splV (splR (s.extract k s.size) k)) ∧ Below w.heap.size w w' := by
  by_cases h2 : s.size < k + 2
  · have HF := Lib.hid (splR_7a (r := s.extract k s.size) (k := k) (by simp; omega))
    go_enter Try.func18, Try.ntmps18
    go_wp2
    refine bodyPost_ret (results_tmp4 rfl _ _ _) rfl ?_
    rw [HF.out]
    exact ⟨rfl, Below.refl _ _⟩
  go_enter Try.func18, Try.ntmps18
  go_wp2
  have hrs : (s.extract k s.size).size = s.size - k := by simp
  generalize hR : s.extract k s.size = r at *
  have HR := Lib.hid hR
  have hr2 : 2 ≤ r.size := by omega
  have hr3 : r.size ≤ 1048576 := by omega
  clear hrs hR
  have q0 : 0 < r.size := by omega
  have q1 : (1 : Int) < (r.size : Int) := by omega
  have b0 : r[0].toNat < 256 := r[0].toNat_lt
  have b1 : r[1].toNat < 256 := r[1].toNat_lt
  go_quiet (fail)
  obtain ⟨n, hn⟩ : ∃ n : Nat, (256 : Int) * (r[0].toNat : Int) + (r[1].toNat : Int) = (n : Int) := ⟨r[0].toNat * 256 + r[1].toNat, by omega⟩
  rw [hn]
  have HN := Lib.hid (show bt r 0 * 256 + bt r 1 = n by rw [← bt_eq r 0 q0, ← bt_eq r 1 (by omega)]; omega)
  clear hn b0 b1
  by_cases h5 : n < 5
  · go_wp2
    refine bodyPost_ret (results_tmp4 rfl _ _ _) rfl ?_
    rw [HR.out, splR_4a hr2 HN.out h5]
    exact ⟨rfl, below_drewN (Below.refl _ _) _⟩
  by_cases h6 : r.size < n
  · go_wp2
    refine bodyPost_ret (results_tmp4 rfl _ _ _) rfl ?_
    rw [HR.out, splR_7b hr2 HN.out (by omega) h6]
    exact ⟨rfl, below_drewN (Below.refl _ _) _⟩
  go_wp2
  have q2 : 2 < r.size := by omega
  have x2 : (2 : Int) < (r.size : Int) := by omega
  have hn3 : n ≤ 1048576 := by omega
  have e7 : ((n : Int) - 2) < (r.size : Int) := by omega
  have f1 := sub_facts n 2 (by omega) hn3
  have g1 : (2 : Int) ≤ (n : Int) := by omega
  have g3 : (n : Int) - 2 ≤ (n : Int) := by omega
  have g4 : (n : Int) ≤ (r.size : Int) := by omega
  have d1 : (3 : Int) ≤ (n : Int) - 2 := by omega
  have d2 : (n : Int) - 2 ≤ (r.size : Int) := by omega
  have d3 : (5 : Int) ≤ (n : Int) := by omega
  have e1 : IntKind.i64.wrap ((n : Int) - 2) = (n : Int) - 2 := f1.1
  have e3 : (0 : Int) ≤ (n : Int) - 2 := f1.2.1
  have e5 : ((n : Int) - 2).toNat = n - 2 := f1.2.2
  clear f1
  have hbq : Below w.heap.size w (w.drewN nq) := below_drewN (Below.refl _ _) _
  generalize w.drewN nq = wq at *
  have hsz : (r.extract 0 (n - 2)).size ≤ maxLen := by simp [maxLen]; omega
  go_region_with (first | (go_at_call 11; refine (cksum_spec _ _ hsz).mono ?_; rintro e w1 ⟨rfl, rfl⟩) | (go_at_call 45; refine (l13Two_spec _ _ (ck_bd _).1 (Int.le_trans (ck_bd _).2 (by decide))).mono ?_; rintro e w2 ⟨rfl, hb2⟩))
  have hBW : Below w.heap.size w w2 := hbq.drew.trans (hb2.mono hbq.drew.size)
  clear hb2 hbq e1
  generalize hC : ck (List.take (n - 2) r.data.toList) = c
  have hc1 := ck_bd (List.take (n - 2) r.data.toList)
  rw [hC] at hc1
  have HC := Lib.hid (show ck (r.extract 0 (n - 2)).data.toList = c by rw [← hC]; congr 1; simp)
  clear hC
  obtain ⟨m, hm⟩ : ∃ m : Nat, bt r (n - 2) * 256 + bt r (n - 1) = m := ⟨_, rfl⟩
  have HS := sum_eq r n m c hc1.1 hc1.2 (by omega) (by omega) hm
  rw [HS]
  clear HS
  have HM := Lib.hid hm
  clear hm
  by_cases hc : (m : Int) = c
  · have hd : decide ((m : Int) = c) = true := by simpa using hc
    rw [hd]
    clear hd
    have HC1 := Lib.hid hc
    clear hc
    have b3 : r[2].toNat < 256 := r[2].toNat_lt
    have hk2 := Lib.hid (bt_eq r 2 q2)
    have e1 : IntKind.i64.wrap ((n : Int) - 2) = (n : Int) - 2 := (sub_facts n 2 (by omega) hn3).1
    have HE1 := Lib.hid e1
    clear e1
    by_cases h7 : 1 ≤ r[2].toNat ∧ r[2].toNat ≤ 7 ∧ n ≤ 205
    · have HF := Lib.hid (splR_ok (k := k) HN.out (by omega) (by omega) HM.out (HC.out ▸ HC1.out) (by rw [← hk2.out]; exact h7))
      obtain ⟨h8, h9, h10⟩ := h7
      have e9 : IntKind.i64.wrap ((k : Int) + (n : Int)) = (k : Int) + (n : Int) := IntWalk.i64_in _ (by omega)
      have HE9 := Lib.hid e9
      clear e9
      go_wp2
      have e1 := HE1.out
      have e9 := HE9.out
      go_quiet (fail)
      clear e1 e9
      go_wp2
      refine bodyPost_ret (results_tmp4 rfl _ _ _) rfl ?_
      rw [HR.out, HF.out]
      exact ⟨by simp [splV, ← hk2.out], below_drewN hBW _⟩
    · have HF := Lib.hid (splR_4b (k := k) HN.out (by omega) (by omega) HM.out (HC.out ▸ HC1.out) (by rw [← hk2.out]; exact h7))
      rcases (show r[2].toNat < 1 ∨ (1 ≤ r[2].toNat ∧ 7 < r[2].toNat) ∨ (1 ≤ r[2].toNat ∧ r[2].toNat ≤ 7 ∧ 205 < n) by omega) with h | ⟨h, h'⟩ | ⟨h, h', h''⟩
      all_goals
        go_wp2
        refine bodyPost_ret (results_tmp4 rfl _ _ _) rfl ?_
        rw [HR.out, HF.out]
        exact ⟨rfl, hBW⟩
  · have hd : decide ((m : Int) = c) = false := by simpa using hc
    rw [hd]
    clear hd
    have HF := Lib.hid (splR_8 (k := k) HN.out (by omega) (by omega) HM.out (by rw [HC.out]; exact hc))
    clear hc
    go_wp2
    refine bodyPost_ret (results_tmp4 rfl _ _ _) rfl ?_
    rw [HR.out, HF.out]
    exact ⟨rfl, hBW⟩
end Go.Proofs.Ytidiiodcpfdnfaa
