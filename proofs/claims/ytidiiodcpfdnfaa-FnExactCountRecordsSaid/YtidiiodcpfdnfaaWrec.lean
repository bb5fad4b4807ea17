/-
  THE WALKS of StreamRecord (both) and l14Record: the record's bytes. Conditions: as each theorem says.
-/
import Derived.Test.YtidiiodcpfdnfaaWby
import Derived.Test.YtidiiodcpfdnfaaWck
namespace Go.Proofs.Ytidiiodcpfdnfaa
open Go.RowKit

/-- a record -/
def recH (k : Int) (p : List UInt8) : List UInt8 := tw ((p.length : Int) + 5) ++ [byt k] ++ p
def recB (k : Int) (p : List UInt8) : List UInt8 := recH k p ++ tw (ck (recH k p))
theorem tw_len (n : Int) : (tw n).length = 2 := rfl
theorem tw_size (n : Int) : (mkS (tw n)).size = 2 := by rw [mkS_size]; rfl
theorem b1_size (n : UInt8) : (mkS [n]).size = 1 := by rw [mkS_size]; rfl
theorem app_of (a : List UInt8) (s : ByteArray) : mkS a ++ s = mkS (a ++ s.data.toList) := by rw [← mkS_append, mkS_of]
theorem recH_eq (k : Int) (p : ByteArray) : mkS (tw ((p.size : Int) + 5)) ++ mkS [byt k] ++ p = mkS (recH k p.data.toList) := by
  rw [mkS_append, app_of]
  simp [recH]
theorem recH_size (k : Int) (p : ByteArray) : (mkS (recH k p.data.toList)).size = p.size + 3 := by
  rw [mkS_size]
  simp [recH, tw_len]
  omega

set_option maxHeartbeats 400000 in
theorem l14Record_spec (k : Int) (p : ByteArray) (w : World) (h0 : 0 ≤ k) (h1 : k ≤ 255) (hp : p.size ≤ 65530) :
    Calls Try.prog 38 #[.int .i64 k, .string p] w fun e w' => e = .returned (.string (mkS (recB k p.data.toList))) ∧ Below w.heap.size w w' := by
  have s1 := tw_size ((p.size : Int) + 5)
  have s2 := b1_size (byt k)
  have s3 := recH_size k p
  have s4 := tw_size (ck (recH k p.data.toList))
  go_enter Try.func38, Try.ntmps38
  go_wp2_with fail
  refine (l13Two_spec _ _ (by omega) (by omega)).mono ?_
  rintro e w1 ⟨rfl, hb1⟩
  go_wp2_with fail
  refine (l13Byte_spec _ _ (by omega) (by omega)).mono ?_
  rintro e w2 ⟨rfl, hb2⟩
  go_wp2_with fail
  rw [recH_eq]
  refine (cksum_spec _ _ (by unfold maxLen; omega)).mono ?_
  rintro e w3 ⟨rfl, rfl⟩
  rw [mkS_list]
  go_wp2_with fail
  refine (l13Two_spec _ _ (ck_bd _).1 (Int.le_trans (ck_bd _).2 (by decide))).mono ?_
  rintro e w4 ⟨rfl, hb4⟩
  go_wp2_with fail
  go_ret
  rw [mkS_append]
  exact ⟨rfl, (hb1.trans (hb2.mono hb1.size)).trans (hb4.mono (Nat.le_trans hb1.size hb2.size))⟩

/-- a record, or the empty string -/
def recS (k : Int) (p : ByteArray) : ByteArray := if 1 ≤ k ∧ k ≤ 7 ∧ p.size ≤ 200 then mkS (recB k p.data.toList) else ⟨#[]⟩

set_option maxHeartbeats 400000 in
theorem StreamRecord_spec (k : Int) (p : ByteArray) (w : World) (hp : p.size ≤ 1048576) :
    Calls Try.prog 13 #[.int .i64 k, .string p] w fun e w' => e = .returned (.string (recS k p)) ∧ Below w.heap.size w w' := by
  by_cases h0 : 1 ≤ k ∧ k ≤ 7
  · obtain ⟨h1, h2⟩ := h0
    by_cases h3 : p.size ≤ 200
    · have hf : recS k p = mkS (recB k p.data.toList) := by unfold recS; rw [if_pos ⟨h1, h2, h3⟩]
      have HF := Lib.hid hf
      clear hf
      go_enter Try.func13, Try.ntmps13
      go_wp2_with (first | (go_at_call 38; refine (l14Record_spec _ _ _ (by omega) (by omega) (by omega)).mono ?_; rintro e w1 ⟨rfl, hb1⟩) | go_in)
      go_ret
      rw [HF.out]
      exact ⟨rfl, by assumption⟩
    · have hf : recS k p = ⟨#[]⟩ := by unfold recS; rw [if_neg (by omega)]
      have HF := Lib.hid hf
      clear hf
      go_enter Try.func13, Try.ntmps13
      go_wp2
      go_ret
      rw [HF.out]
      exact ⟨rfl, Below.refl _ _⟩
  · have hf : recS k p = ⟨#[]⟩ := by unfold recS; rw [if_neg (by omega)]
    have HF := Lib.hid hf
    clear hf
    by_cases h1 : 1 ≤ k
    all_goals
      go_enter Try.func13, Try.ntmps13
      go_wp2
      go_ret
      rw [HF.out]
      exact ⟨rfl, Below.refl _ _⟩

theorem recH_own {w : World} {base : Nat} {v : Value} (k : Int) (p : ByteArray) (h : w.ownsRow base 5 1 v (([] ++ tw ((p.size : Int) + 5)).length + 1 + p.size) (bv ([] ++ tw ((p.size : Int) + 5)) ++ bv [byt k] ++ bv p.data.toList)) :
    w.ownsRow base 5 1 v (recH k p.data.toList).length (bv (recH k p.data.toList)) := by
  refine own_cast h ?_ ?_
  · have h1 := recH_size k p
    rw [mkS_size] at h1
    rw [h1, List.nil_append, tw_len]
    omega
  · rw [← bv_append, ← bv_append, List.nil_append]
    rfl

set_option maxHeartbeats 400000 in
theorem StreamRecord_some (k : Int) (p : ByteArray) (w : World) (h1 : 1 ≤ k) (h2 : k ≤ 7) (hp : p.size ≤ 200) :
    Calls Try.prog 14 #[.int .i64 k, .string p] w fun e w' => e = .returned (.string (mkS (recB k p.data.toList))) ∧ Below w.heap.size w w' := by
  obtain ⟨i0, hi, hz0, hz1, hz2⟩ := info_parts info_u8
  have hl3 : (recH k p.data.toList).length = p.size + 3 := by have := recH_size k p; rw [mkS_size] at this; exact this
  have Hl3 := Lib.hid hl3
  clear hl3
  have s3 := recH_size k p
  go_enter Try.func14, Try.ntmps14
  go_wp2_with (go_at_call 39; go_in)
  refine (two_impl w.heap.size _ [] _ _ (World.ownsRow_nil _ _ _ _) (by simp) (Nat.le_refl _) (by omega) (by omega)).mono ?_
  rintro e w1 ⟨v1, rfl, hown1, hap1⟩
  have hsrc := src_new [k] (by intro m hm; simp at hm; omega) w1
  simp only [List.map_cons, List.map_nil, List.length_cons, List.length_nil] at hsrc
  have hle := hap1.1.size
  have hz : w1.heap.size + 1 = (w1.alloc (.cells #[.int .u8 k] 5)).heap.size := by simp
  have Hz := Lib.hid hz
  clear hz
  go_wp2_with (first | (at_builtin; refine wpList_append_src _ rfl (.tmp 18) (.tmp 21) 58 58 rfl w.heap.size 5 i0 (.int .u8 0) 1 1 Try.underlying58 hi hz0 hz1 hz2 rfl v1 _ _ rfl (hown1.alloc _) 1 (bv [byt k]) hsrc (by simp [tw_len, maxLen]) (by simp [tw_len]) (by simp; omega) ?_; intro v2 w2 hown2 hap2; have hle2 := hap2.1.size) | (at_builtin; refine wpList_append_src _ rfl (.tmp 22) (.tmp 23) 58 9 rfl w.heap.size 5 i0 (.int .u8 0) 1 1 Try.underlying58 hi hz0 hz1 hz2 rfl v2 _ _ rfl hown2 p.size (bv p.data.toList) (src_string p _) (by simp [tw_len, maxLen]; omega) (by simp [tw_len]; omega) (by have := Hz.out; omega) ?_; intro v3 w3 hown3 hap3; have hown4 := recH_own k p hown3; have hc4 := own_string hown4))
  refine (cksum_impl _ _ (by unfold maxLen; omega)).mono ?_
  rintro e w4 ⟨rfl, rfl⟩
  rw [mkS_list]
  have hle3 := hap3.1.size
  go_wp2_with fail
  refine (two_impl w.heap.size _ (recH k p.data.toList) _ _ hown4 (by have := Hl3.out; omega) (by have := Hz.out; omega) (ck_bd _).1 (Int.le_trans (ck_bd _).2 (by decide))).mono ?_
  rintro e w5 ⟨v5, rfl, hown5, hap5⟩
  have hc5 := own_string hown5
  go_wp2_with fail
  go_ret
  exact ⟨rfl, ((((hap1.trans hap2.from_alloc).trans hap3).trans hap5)).nil⟩

set_option maxHeartbeats 400000 in
theorem StreamRecord_impl (k : Int) (p : ByteArray) (w : World) (hp : p.size ≤ 1048576) :
    Calls Try.prog 14 #[.int .i64 k, .string p] w fun e w' => e = .returned (.string (recS k p)) ∧ Below w.heap.size w w' := by
  by_cases h0 : 1 ≤ k ∧ k ≤ 7
  · obtain ⟨h1, h2⟩ := h0
    by_cases h3 : p.size ≤ 200
    · have hf : recS k p = mkS (recB k p.data.toList) := by unfold recS; rw [if_pos ⟨h1, h2, h3⟩]
      rw [hf]
      exact StreamRecord_some k p w h1 h2 h3
    · have hf : recS k p = ⟨#[]⟩ := by unfold recS; rw [if_neg (by omega)]
      have HF := Lib.hid hf
      clear hf
      go_enter Try.func14, Try.ntmps14
      go_wp2
      go_ret
      rw [HF.out]
      exact ⟨rfl, Below.refl _ _⟩
  · have hf : recS k p = ⟨#[]⟩ := by unfold recS; rw [if_neg (by omega)]
    have HF := Lib.hid hf
    clear hf
    by_cases h1 : 1 ≤ k
    all_goals
      go_enter Try.func14, Try.ntmps14
      go_wp2
      go_ret
      rw [HF.out]
      exact ⟨rfl, Below.refl _ _⟩
end Go.Proofs.Ytidiiodcpfdnfaa
