/-
  THE WALKS of the functions on names: the index of a string in a slice of strings (slices.Index, l16Find), the lists of names that spec makes, the name at an index.
-/
import Derived.Test.YtidiiodcpfdnfaaDoorRows
import Derived.Test.YtidiiodcpfdnfaaDoorNames
import Derived.WalkKit
import Derived.WalkSpells
import Derived.Laws.IdiomStrings
namespace Go.Proofs.YtidiiodcpfdnfaaDoor
open Go.RowKit

set_option maxHeartbeats 400000 in
theorem slicesIndex (g o c : Nat) (L : List (List UInt8)) (v : ByteArray) (w : World) (h0 : 0 < L.length) (hL : L.length ≤ 1000) (hc : ∀ j, j < L.length → w.cell? ⟨g, o + j, none⟩ = some (.string (mkS (L.getD j [])))) :
    Calls Tryd.prog 20 #[.slice (some ⟨g, o, none⟩) L.length c, .string v] w fun e w' => e = .returned (.int .i64 (idx L v.toList)) ∧ w = w' := by
  obtain ⟨n, hn⟩ : ∃ n, L.length = n := ⟨_, rfl⟩
  rw [hn] at hc hL h0 ⊢
  have HN := Lib.hid hn
  clear hn
  go_enter Tryd.func20, Tryd.ntmps20
  go_wp2
  go_loop [8] (fun i => ∃ k : Nat, k ≤ n ∧ i = .int .i64 k ∧ idx L v.toList = fnd (L.drop k) v.toList k) (fun i => n - (intOf i).toNat)
  case atStart => exact ⟨0, Nat.zero_le _, rfl, rfl⟩
  case round =>
    obtain ⟨k, hk, rfl, hf⟩ := hrel
    have HF := Lib.hid hf
    clear hf
    by_cases hlt : k < n
    · have hck := hc k hlt
      have hs := fnd_drop L v.toList k (by rw [HN.out]; exact hlt)
      have HS := Lib.hid hs
      clear hc hs
      obtain ⟨x, hx⟩ : ∃ x, L.getD k [] = x := ⟨_, rfl⟩
      rw [hx] at hck
      have HX := Lib.hid hx
      clear hx
      by_cases he : x = v.toList
      · have t1 : (v.toList == (mkS x).toList) = true := by rw [mkS_toList, he]; simp
        have t2 : ((mkS x).toList == v.toList) = true := by rw [mkS_toList, he]; simp
        have HE := Lib.hid he
        clear he
        go_wp2
        go_ret
        exact ⟨by rw [HF.out, HS.out, if_pos (HX.out.trans HE.out)]; rfl, rfl⟩
      · have t1 : (v.toList == (mkS x).toList) = false := by rw [mkS_toList]; simpa using fun h => he h.symm
        have t2 : ((mkS x).toList == v.toList) = false := by rw [mkS_toList]; simpa using he
        have HE := Lib.hid (show ¬ L.getD k [] = v.toList by rw [HX.out]; exact he)
        clear he
        go_wp2
        go_round
        case rel => exact ⟨k + 1, by omega, by go_num, by rw [HF.out, HS.out, if_neg HE.out]⟩
        case measure => simp [intOf]; omega
    · clear hc
      go_wp2
      go_ret
      exact ⟨by rw [HF.out, fnd_end L _ k (by rw [HN.out]; omega)]; rfl, rfl⟩

set_option maxHeartbeats 400000 in
theorem l16Find_any (g o c : Nat) (L : List (List UInt8)) (v : ByteArray) (w : World) (h0 : 0 < L.length) (hL : L.length ≤ 1000) (hc : ∀ j, j < L.length → w.cell? ⟨g, o + j, none⟩ = some (.string (mkS (L.getD j [])))) :
    Calls Tryd.prog 21 #[.slice (some ⟨g, o, none⟩) L.length c, .string v] w fun e w' => e = .returned (.int .i64 (idx L v.toList)) ∧ w = w' := by
  obtain ⟨n, hn⟩ : ∃ n, L.length = n := ⟨_, rfl⟩
  rw [hn] at hc hL h0 ⊢
  have HN := Lib.hid hn
  clear hn
  go_enter Tryd.func21, Tryd.ntmps21
  go_wp2
  go_loop [5] (fun i => ∃ k : Nat, k ≤ n ∧ i = .int .i64 k ∧ idx L v.toList = fnd (L.drop k) v.toList k) (fun i => n - (intOf i).toNat)
  case atStart => exact ⟨0, Nat.zero_le _, rfl, rfl⟩
  case round =>
    obtain ⟨k, hk, rfl, hf⟩ := hrel
    have HF := Lib.hid hf
    clear hf
    by_cases hlt : k < n
    · have hck := hc k hlt
      have hs := fnd_drop L v.toList k (by rw [HN.out]; exact hlt)
      have HS := Lib.hid hs
      clear hc hs
      obtain ⟨x, hx⟩ : ∃ x, L.getD k [] = x := ⟨_, rfl⟩
      rw [hx] at hck
      have HX := Lib.hid hx
      clear hx
      by_cases he : x = v.toList
      · have t1 : (v.toList == (mkS x).toList) = true := by rw [mkS_toList, he]; simp
        have t2 : ((mkS x).toList == v.toList) = true := by rw [mkS_toList, he]; simp
        have HE := Lib.hid he
        clear he
        go_wp2
        go_ret
        exact ⟨by rw [HF.out, HS.out, if_pos (HX.out.trans HE.out)]; rfl, rfl⟩
      · have t1 : (v.toList == (mkS x).toList) = false := by rw [mkS_toList]; simpa using fun h => he h.symm
        have t2 : ((mkS x).toList == v.toList) = false := by rw [mkS_toList]; simpa using he
        have HE := Lib.hid (show ¬ L.getD k [] = v.toList by rw [HX.out]; exact he)
        clear he
        go_wp2
        go_round
        case rel => exact ⟨k + 1, by omega, by go_num, by rw [HF.out, HS.out, if_neg HE.out]⟩
        case measure => simp [intOf]; omega
    · clear hc
      go_wp2
      go_ret
      exact ⟨by rw [HF.out, fnd_end L _ k (by rw [HN.out]; omega)]; rfl, rfl⟩

set_option maxHeartbeats 400000 in
theorem l16Names_any (w : World) :
    Calls Tryd.prog 16 #[] w fun e w' => e = .returned (.slice (some ⟨w.heap.size, 0, none⟩) 8 8) ∧ (∀ j, j < 8 → w'.cell? ⟨w.heap.size, 0 + j, none⟩ = some (.string (mkS (layerL.getD j [])))) ∧ Below w.heap.size w w' := by
  go_enter Tryd.func16, Tryd.ntmps16
  go_wp2
  go_ret
  refine ⟨rfl, fun j hj => ?_, (Below.refl _ _).alloc (Nat.le_refl _) _⟩
  rw [Nat.zero_add, World.cell?_alloc_mark]
  match j, hj with
  | 0, _ | 1, _ | 2, _ | 3, _ | 4, _ | 5, _ | 6, _ | 7, _ => rfl

set_option maxHeartbeats 400000 in
theorem l15Orientations_any (w : World) :
    Calls Tryd.prog 19 #[] w fun e w' => e = .returned (.slice (some ⟨w.heap.size, 0, none⟩) 8 8) ∧ (∀ j, j < 8 → w'.cell? ⟨w.heap.size, 0 + j, none⟩ = some (.string (mkS (oriL.getD j [])))) ∧ Below w.heap.size w w' := by
  go_enter Tryd.func19, Tryd.ntmps19
  go_wp2
  go_ret
  refine ⟨rfl, fun j hj => ?_, (Below.refl _ _).alloc (Nat.le_refl _) _⟩
  rw [Nat.zero_add, World.cell?_alloc_mark]
  match j, hj with
  | 0, _ | 1, _ | 2, _ | 3, _ | 4, _ | 5, _ | 6, _ | 7, _ => rfl
end Go.Proofs.YtidiiodcpfdnfaaDoor
