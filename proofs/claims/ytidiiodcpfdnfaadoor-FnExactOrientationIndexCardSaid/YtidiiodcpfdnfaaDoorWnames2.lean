/-
  THE WALKS of the functions on names: the index of a string in a slice of strings (slices.Index, l16Find), the lists of names that spec makes, the name at an index.
-/
import Derived.Test.YtidiiodcpfdnfaaDoorRows
import Derived.Test.YtidiiodcpfdnfaaDoorNames
import Derived.Test.YtidiiodcpfdnfaaDoorWnames
import Derived.WalkKit
import Derived.WalkSpells
import Derived.Laws.IdiomStrings
namespace Go.Proofs.YtidiiodcpfdnfaaDoor
open Go.RowKit

set_option maxHeartbeats 400000 in
theorem LayerName_impl (a : Int) (w : World) (hc : ∀ j, j < 8 → w.cell? ⟨0, j, none⟩ = some (.string (mkS (layerL.getD j [])))) :
    Calls Tryd.prog 8 #[.int .i64 a] w fun e w' => e = .returned (.string (nameAt layerL a)) ∧ w = w' := by
  by_cases h : 0 ≤ a ∧ a < 8
  · obtain ⟨k, rfl⟩ := Int.eq_ofNat_of_zero_le h.1
    have hk : k < 8 := by omega
    have HF := Lib.hid (show nameAt layerL (k : Int) = mkS (layerL.getD k []) by unfold nameAt; rw [if_pos (by exact h)]; rfl)
    have c := hc k hk
    generalize layerL.getD k [] = x at c HF
    have hd : decide ((k : Int) ≤ 7) = true := by simp; omega
    clear hc h
    go_enter Tryd.func8, Tryd.ntmps8
    go_wp2
    go_ret
    exact ⟨by rw [HF.out]; rfl, rfl⟩
  · have HF := Lib.hid (show nameAt layerL a = eS by unfold nameAt; rw [if_neg (by exact h)])
    clear hc
    rcases (show a < 0 ∨ (0 ≤ a ∧ 7 < a) by omega) with h1 | ⟨h1, h2⟩
    · clear h
      go_enter Tryd.func8, Tryd.ntmps8
      go_wp2
      go_ret
      exact ⟨by rw [HF.out]; rfl, rfl⟩
    · have hd : decide (a ≤ 7) = false := by simp; omega
      clear h
      go_enter Tryd.func8, Tryd.ntmps8
      go_wp2
      go_ret
      exact ⟨by rw [HF.out]; rfl, rfl⟩

set_option maxHeartbeats 400000 in
theorem LayerName_spec (a : Int) (w : World) :
    Calls Tryd.prog 7 #[.int .i64 a] w fun e w' => e = .returned (.string (nameAt layerL a)) ∧ Below w.heap.size w w' := by
  by_cases h : 0 ≤ a ∧ a < 8
  · obtain ⟨k, rfl⟩ := Int.eq_ofNat_of_zero_le h.1
    have hk : k < 8 := by omega
    have HF := Lib.hid (show nameAt layerL (k : Int) = mkS (layerL.getD k []) by unfold nameAt; rw [if_pos (by exact h)]; rfl)
    have hd : decide ((k : Int) ≤ 7) = true := by simp; omega
    clear h
    go_enter Tryd.func7, Tryd.ntmps7
    go_wp2_with (first | (go_at_call 16; refine (l16Names_any _).mono ?_; rintro e w1 ⟨rfl, hc, hb⟩; have c := hc k hk; generalize layerL.getD k [] = x at c HF; rw [Nat.zero_add] at c; clear hc) | go_in)
    go_ret
    exact ⟨by rw [HF.out]; rfl, by assumption⟩
  · have HF := Lib.hid (show nameAt layerL a = eS by unfold nameAt; rw [if_neg (by exact h)])
    rcases (show a < 0 ∨ (0 ≤ a ∧ 7 < a) by omega) with h1 | ⟨h1, h2⟩
    · clear h
      go_enter Tryd.func7, Tryd.ntmps7
      go_wp2
      go_ret
      exact ⟨by rw [HF.out]; rfl, Below.refl _ _⟩
    · have hd : decide (a ≤ 7) = false := by simp; omega
      clear h
      go_enter Tryd.func7, Tryd.ntmps7
      go_wp2
      go_ret
      exact ⟨by rw [HF.out]; rfl, Below.refl _ _⟩

set_option maxHeartbeats 400000 in
theorem OrientationName_impl (a : Int) (w : World) (hc : ∀ j, j < 8 → w.cell? ⟨1, j, none⟩ = some (.string (mkS (oriL.getD j [])))) :
    Calls Tryd.prog 10 #[.int .i64 a] w fun e w' => e = .returned (.string (nameAt oriL a)) ∧ w = w' := by
  by_cases h : 0 ≤ a ∧ a < 8
  · obtain ⟨k, rfl⟩ := Int.eq_ofNat_of_zero_le h.1
    have hk : k < 8 := by omega
    have HF := Lib.hid (show nameAt oriL (k : Int) = mkS (oriL.getD k []) by unfold nameAt; rw [if_pos (by exact h)]; rfl)
    have c := hc k hk
    generalize oriL.getD k [] = x at c HF
    have hd : decide ((k : Int) ≤ 7) = true := by simp; omega
    clear hc h
    go_enter Tryd.func10, Tryd.ntmps10
    go_wp2
    go_ret
    exact ⟨by rw [HF.out]; rfl, rfl⟩
  · have HF := Lib.hid (show nameAt oriL a = eS by unfold nameAt; rw [if_neg (by exact h)])
    clear hc
    rcases (show a < 0 ∨ (0 ≤ a ∧ 7 < a) by omega) with h1 | ⟨h1, h2⟩
    · clear h
      go_enter Tryd.func10, Tryd.ntmps10
      go_wp2
      go_ret
      exact ⟨by rw [HF.out]; rfl, rfl⟩
    · have hd : decide (a ≤ 7) = false := by simp; omega
      clear h
      go_enter Tryd.func10, Tryd.ntmps10
      go_wp2
      go_ret
      exact ⟨by rw [HF.out]; rfl, rfl⟩

set_option maxHeartbeats 400000 in
theorem OrientationName_spec (a : Int) (w : World) :
    Calls Tryd.prog 9 #[.int .i64 a] w fun e w' => e = .returned (.string (nameAt oriL a)) ∧ Below w.heap.size w w' := by
  by_cases h : 0 ≤ a ∧ a < 8
  · obtain ⟨k, rfl⟩ := Int.eq_ofNat_of_zero_le h.1
    have hk : k < 8 := by omega
    have HF := Lib.hid (show nameAt oriL (k : Int) = mkS (oriL.getD k []) by unfold nameAt; rw [if_pos (by exact h)]; rfl)
    have hd : decide ((k : Int) ≤ 7) = true := by simp; omega
    clear h
    go_enter Tryd.func9, Tryd.ntmps9
    go_wp2_with (first | (go_at_call 19; refine (l15Orientations_any _).mono ?_; rintro e w1 ⟨rfl, hc, hb⟩; have c := hc k hk; generalize oriL.getD k [] = x at c HF; rw [Nat.zero_add] at c; clear hc) | go_in)
    go_ret
    exact ⟨by rw [HF.out]; rfl, by assumption⟩
  · have HF := Lib.hid (show nameAt oriL a = eS by unfold nameAt; rw [if_neg (by exact h)])
    rcases (show a < 0 ∨ (0 ≤ a ∧ 7 < a) by omega) with h1 | ⟨h1, h2⟩
    · clear h
      go_enter Tryd.func9, Tryd.ntmps9
      go_wp2
      go_ret
      exact ⟨by rw [HF.out]; rfl, Below.refl _ _⟩
    · have hd : decide (a ≤ 7) = false := by simp; omega
      clear h
      go_enter Tryd.func9, Tryd.ntmps9
      go_wp2
      go_ret
      exact ⟨by rw [HF.out]; rfl, Below.refl _ _⟩
end Go.Proofs.YtidiiodcpfdnfaaDoor
