/-
  Both SplitRecord functions, at every place: they return what spl says. Condition: the stream has at most 1048576 bytes.
-/
import Derived.Test.YtidiiodcpfdnfaaWsplit2
namespace Go.Proofs.Ytidiiodcpfdnfaa
open Go.RowKit

set_option maxHeartbeats 400000 in
theorem SplitRecord_impl (s : ByteArray) (a : Int) (w : World) (hs : s.size ≤ 1048576) :
    Calls Try.prog 19 #[.string s, .int .i64 a] w fun e w' => e = .returned (splV (spl s a)) ∧ Below w.heap.size w w' := by
  by_cases h : 0 ≤ a ∧ a ≤ s.size
  · obtain ⟨k, rfl⟩ := Int.eq_ofNat_of_zero_le h.1
    have hk : k ≤ s.size := by omega
    have hf : spl s (k : Int) = splR (s.extract k s.size) k := by unfold spl; rw [if_pos h]; rfl
    rw [hf]
    exact SplitRecord_in s k w hs hk
  · have HF := Lib.hid (show spl s a = (0, eS, 0, 2) by unfold spl; rw [if_neg h])
    rcases (show a < 0 ∨ (0 ≤ a ∧ (s.size : Int) < a) by omega) with h0 | ⟨h0, h1⟩
    all_goals
      clear h
      have hd : 0 ≤ a → decide (a ≤ (s.size : Int)) = false := fun _ => decide_eq_false (by omega)
      try have hd := hd h0
      go_enter Try.func19, Try.ntmps19
      go_wp2
      refine bodyPost_ret (results_tmp4 rfl _ _ _) rfl ?_
      rw [HF.out]
      exact ⟨rfl, Below.refl _ _⟩

set_option maxHeartbeats 400000 in
theorem SplitRecord_spec (s : ByteArray) (a : Int) (w : World) (hs : s.size ≤ 1048576) :
    Calls Try.prog 18 #[.string s, .int .i64 a] w fun e w' => e = .returned (splV (spl s a)) ∧ Below w.heap.size w w' := by
  by_cases h : 0 ≤ a ∧ a ≤ s.size
  · obtain ⟨k, rfl⟩ := Int.eq_ofNat_of_zero_le h.1
    have hk : k ≤ s.size := by omega
    have hf : spl s (k : Int) = splR (s.extract k s.size) k := by unfold spl; rw [if_pos h]; rfl
    rw [hf]
    exact SplitRecord_sp s k w hs hk
  · have HF := Lib.hid (show spl s a = (0, eS, 0, 2) by unfold spl; rw [if_neg h])
    rcases (show a < 0 ∨ (0 ≤ a ∧ (s.size : Int) < a) by omega) with h0 | ⟨h0, h1⟩
    all_goals
      clear h
      have hd : 0 ≤ a → decide (a ≤ (s.size : Int)) = false := fun _ => decide_eq_false (by omega)
      try have hd := hd h0
      go_enter Try.func18, Try.ntmps18
      go_wp2
      refine bodyPost_ret (results_tmp4 rfl _ _ _) rfl ?_
      rw [HF.out]
      exact ⟨rfl, Below.refl _ _⟩

end Go.Proofs.Ytidiiodcpfdnfaa
