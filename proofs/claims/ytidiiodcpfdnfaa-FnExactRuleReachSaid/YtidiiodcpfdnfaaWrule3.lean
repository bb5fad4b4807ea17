/-
  THE WALKS of the functions on rules, the last part: toRule, RuleReach.
-/
import Derived.Test.YtidiiodcpfdnfaaWrule2
namespace Go.Proofs.Ytidiiodcpfdnfaa
open Go.RowKit

set_option maxHeartbeats 400000 in
theorem toRule_any (k l o v p : Int) (w : World) :
    Calls Try.prog 16 #[ruleV k l o v p] w fun e w' => e = .returned (ruleV k l o v p) ∧ Below w.heap.size w w' := by
  unfold ruleV
  go_enter Try.func16, Try.ntmps16
  go_wp2
  exact bodyPost_ret (v := ruleV k l o v p) (by simp [results, Try.results16, go_sem, ruleV]) rfl ⟨rfl, (((Below.refl _ _).alloc (Nat.le_refl _) _).alloc (by simp) _).alloc (by simp; omega) _⟩

/-- how far a rule reaches -/
def vReach (k l o v p : Int) : Int := if vRule k l o v p = true ∧ k ≤ 3 then v else -1

set_option maxHeartbeats 400000 in
theorem RuleReach_impl (k l o v p : Int) (w : World) :
    Calls Try.prog 21 #[ruleV k l o v p] w fun e w' => e = .returned (.int .i64 (vReach k l o v p)) ∧ Below w.heap.size w w' := by
  unfold ruleV
  rcases hv : vRule k l o v p with _ | _
  · have HF := Lib.hid (show vReach k l o v p = -1 by unfold vReach; rw [if_neg (by rw [hv]; simp)])
    go_enter Try.func21, Try.ntmps21
    go_wp2_with fail
    refine (IsValidRule_impl _ _ _ _ _ _).mono ?_
    rintro e w1 ⟨rfl, hb1⟩
    go_wp2_with fail
    go_ret
    rw [HF.out]
    exact ⟨rfl, ((Below.refl _ _).alloc (Nat.le_refl _) _).trans (hb1.mono (by simp))⟩
  · by_cases hk : k ≤ 3
    · have HF := Lib.hid (show vReach k l o v p = v by unfold vReach; rw [if_pos ⟨hv, hk⟩])
      go_enter Try.func21, Try.ntmps21
      go_wp2_with fail
      refine (IsValidRule_impl _ _ _ _ _ _).mono ?_
      rintro e w1 ⟨rfl, hb1⟩
      have c0 := hb1.cell (p := ⟨w.heap.size, 0, none⟩) (by simp)
      have c3 := hb1.cell (p := ⟨w.heap.size, 3, none⟩) (by simp)
      go_wp2_with fail
      go_ret
      rw [HF.out]
      exact ⟨rfl, ((Below.refl _ _).alloc (Nat.le_refl _) _).trans (hb1.mono (by simp))⟩
    · have HF := Lib.hid (show vReach k l o v p = -1 by unfold vReach; rw [if_neg (by omega)])
      go_enter Try.func21, Try.ntmps21
      go_wp2_with fail
      refine (IsValidRule_impl _ _ _ _ _ _).mono ?_
      rintro e w1 ⟨rfl, hb1⟩
      have c0 := hb1.cell (p := ⟨w.heap.size, 0, none⟩) (by simp)
      go_wp2_with fail
      go_ret
      rw [HF.out]
      exact ⟨rfl, ((Below.refl _ _).alloc (Nat.le_refl _) _).trans (hb1.mono (by simp))⟩

set_option maxHeartbeats 400000 in
theorem RuleReach_spec (k l o v p : Int) (w : World) :
    Calls Try.prog 20 #[ruleV k l o v p] w fun e w' => e = .returned (.int .i64 (vReach k l o v p)) ∧ Below w.heap.size w w' := by
  unfold ruleV
  rcases hv : vRule k l o v p with _ | _
  · have HF := Lib.hid (show vReach k l o v p = -1 by unfold vReach; rw [if_neg (by rw [hv]; simp)])
    go_enter Try.func20, Try.ntmps20
    go_wp2_with fail
    refine (IsValidRule_spec _ _ _ _ _ _).mono ?_
    rintro e w1 ⟨rfl, hb1⟩
    go_wp2_with fail
    go_ret
    rw [HF.out]
    exact ⟨rfl, ((Below.refl _ _).alloc (Nat.le_refl _) _).trans (hb1.mono (by simp))⟩
  · by_cases hk : k ≤ 3
    · have HF := Lib.hid (show vReach k l o v p = v by unfold vReach; rw [if_pos ⟨hv, hk⟩])
      go_enter Try.func20, Try.ntmps20
      go_wp2_with fail
      refine (IsValidRule_spec _ _ _ _ _ _).mono ?_
      rintro e w1 ⟨rfl, hb1⟩
      have c0 := hb1.cell (p := ⟨w.heap.size, 0, none⟩) (by simp)
      have c3 := hb1.cell (p := ⟨w.heap.size, 3, none⟩) (by simp)
      go_wp2_with fail
      go_ret
      rw [HF.out]
      exact ⟨rfl, ((Below.refl _ _).alloc (Nat.le_refl _) _).trans (hb1.mono (by simp))⟩
    · have HF := Lib.hid (show vReach k l o v p = -1 by unfold vReach; rw [if_neg (by omega)])
      go_enter Try.func20, Try.ntmps20
      go_wp2_with fail
      refine (IsValidRule_spec _ _ _ _ _ _).mono ?_
      rintro e w1 ⟨rfl, hb1⟩
      have c0 := hb1.cell (p := ⟨w.heap.size, 0, none⟩) (by simp)
      go_wp2_with fail
      go_ret
      rw [HF.out]
      exact ⟨rfl, ((Below.refl _ _).alloc (Nat.le_refl _) _).trans (hb1.mono (by simp))⟩
end Go.Proofs.Ytidiiodcpfdnfaa
