/-
  THE WALKS of LayerIndex and OrientationIndex, in impl and spec: the index of a name in its table. Condition: the name has at most 1048576 bytes.
-/
import Derived.Test.YtidiiodcpfdnfaaDoorWnames2
namespace Go.Proofs.YtidiiodcpfdnfaaDoor
open Go.RowKit

set_option maxHeartbeats 400000 in
theorem LayerIndex_impl (v : ByteArray) (w : World) (hc : ∀ j, j < 8 → w.cell? ⟨0, j, none⟩ = some (.string (mkS (layerL.getD j [])))) :
    Calls Tryd.prog 14 #[.string v] w fun e w' => e = .returned (.int .i64 (idx layerL v.toList)) ∧ w = w' := by
  have hc1 : ∀ j, j < layerL.length → w.cell? ⟨0, 0 + j, none⟩ = some (.string (mkS (layerL.getD j []))) := fun j hj => by rw [Nat.zero_add]; exact hc j hj
  have HC := Lib.hid hc1
  clear hc hc1
  have hb := idx_bd layerL v.toList
  go_enter Tryd.func14, Tryd.ntmps14
  go_wp2_with fail
  refine (slicesIndex 0 0 8 layerL _ _ (by decide) (by decide) HC.out).mono ?_
  rintro e w1 ⟨rfl, rfl⟩
  go_wp2_with fail
  go_ret
  exact ⟨rfl, rfl⟩

set_option maxHeartbeats 400000 in
theorem OrientationIndex_impl (v : ByteArray) (w : World) (hc : ∀ j, j < 8 → w.cell? ⟨1, j, none⟩ = some (.string (mkS (oriL.getD j [])))) :
    Calls Tryd.prog 12 #[.string v] w fun e w' => e = .returned (.int .i64 (idx oriL v.toList)) ∧ w = w' := by
  have hc1 : ∀ j, j < oriL.length → w.cell? ⟨1, 0 + j, none⟩ = some (.string (mkS (oriL.getD j []))) := fun j hj => by rw [Nat.zero_add]; exact hc j hj
  have HC := Lib.hid hc1
  clear hc hc1
  have hb := idx_bd oriL v.toList
  go_enter Tryd.func12, Tryd.ntmps12
  go_wp2_with fail
  refine (slicesIndex 1 0 8 oriL _ _ (by decide) (by decide) HC.out).mono ?_
  rintro e w1 ⟨rfl, rfl⟩
  go_wp2_with fail
  go_ret
  exact ⟨rfl, rfl⟩

set_option maxHeartbeats 400000 in
theorem LayerIndex_spec (v : ByteArray) (w : World) :
    Calls Tryd.prog 13 #[.string v] w fun e w' => e = .returned (.int .i64 (idx layerL v.toList)) ∧ Below w.heap.size w w' := by
  go_enter Tryd.func13, Tryd.ntmps13
  go_wp2_with fail
  refine (l16Names_any _).mono ?_
  rintro e w1 ⟨rfl, hc, hb⟩
  have HC := Lib.hid hc
  clear hc
  go_wp2_with fail
  refine (l16Find_any _ 0 8 layerL _ _ (by decide) (by decide) HC.out).mono ?_
  rintro e w2 ⟨rfl, rfl⟩
  go_wp2_with fail
  go_ret
  exact ⟨rfl, hb⟩

set_option maxHeartbeats 400000 in
theorem OrientationIndex_spec (v : ByteArray) (w : World) :
    Calls Tryd.prog 11 #[.string v] w fun e w' => e = .returned (.int .i64 (idx oriL v.toList)) ∧ Below w.heap.size w w' := by
  go_enter Tryd.func11, Tryd.ntmps11
  go_wp2
  go_loopw [3] (fun i wr => ∃ k : Nat, k ≤ 8 ∧ i = .int .i64 k ∧ idx oriL v.toList = fnd (oriL.drop k) v.toList k ∧ Below w.heap.size w wr) (fun i _ => 8 - (intOf i).toNat)
  case atStart => exact ⟨0, by decide, rfl, rfl, Below.refl _ _⟩
  case round =>
    obtain ⟨k, hk, rfl, hf, hbr⟩ := hrel
    have HF := Lib.hid hf
    clear hf
    by_cases hlt : k < 8
    · have HS := Lib.hid (fnd_drop oriL v.toList k hlt)
      obtain ⟨x, hx⟩ : ∃ x, oriL.getD k [] = x := ⟨_, rfl⟩
      have HX := Lib.hid hx
      by_cases he : x = v.toList
      · have t1 : (v.toList == (mkS x).toList) = true := by rw [mkS_toList, he]; simp
        have t2 : ((mkS x).toList == v.toList) = true := by rw [mkS_toList, he]; simp
        have HE := Lib.hid he
        clear he hx
        go_wp2_with (go_at_call 19; refine (l15Orientations_any _).mono ?_; rintro e w1 ⟨rfl, hc, hb⟩; have c := hc k hlt; rw [HX.out, Nat.zero_add] at c; clear hc)
        go_ret
        exact ⟨by rw [HF.out, HS.out, if_pos (HX.out.trans HE.out)]; rfl, hbr.trans ((show Below _ _ _ by assumption).mono hbr.size)⟩
      · have t1 : (v.toList == (mkS x).toList) = false := by rw [mkS_toList]; simpa using fun h => he h.symm
        have t2 : ((mkS x).toList == v.toList) = false := by rw [mkS_toList]; simpa using he
        have HE := Lib.hid (show ¬ oriL.getD k [] = v.toList by rw [HX.out]; exact he)
        clear he hx
        go_wp2_with (go_at_call 19; refine (l15Orientations_any _).mono ?_; rintro e w1 ⟨rfl, hc, hb⟩; have c := hc k hlt; rw [HX.out, Nat.zero_add] at c; clear hc)
        go_roundw
        case rel => exact ⟨k + 1, by omega, by go_num, by rw [HF.out, HS.out, if_neg HE.out], hbr.trans ((show Below _ _ _ by assumption).mono hbr.size)⟩
        case measure => simp [intOf]; omega
    · go_wp2
      go_ret
      exact ⟨by rw [HF.out, fnd_end oriL _ k (by show 8 ≤ k; omega)]; rfl, hbr⟩

end Go.Proofs.YtidiiodcpfdnfaaDoor
