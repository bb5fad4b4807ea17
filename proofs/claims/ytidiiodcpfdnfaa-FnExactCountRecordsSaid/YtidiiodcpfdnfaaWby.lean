/-
  THE WALKS of the functions that write numbers as bytes. Condition: the number lies in 0 .. 65535 (or 0 .. 255), the row of bytes is the call's own.
-/
import Derived.Test.YtidiiodcpfdnfaaBs
namespace Go.Proofs.Ytidiiodcpfdnfaa
open Go.RowKit

/-- a number in two bytes -/
def tw (n : Int) : List UInt8 := [byt (n / 256), byt n]
theorem tw_eq (n : Int) : [n / 256, n % 256].map byt = tw n := by
  simp only [List.map_cons, List.map_nil, tw]
  rw [byt_mod (n % 256) n (by omega)]

set_option maxHeartbeats 400000 in
theorem two_impl (base : Nat) (v : Value) (l : List UInt8) (n : Int) (w : World) (hown : w.ownsRow base 5 1 v l.length (bv l)) (hl : l.length ≤ 1099511627776) (hb : base ≤ w.heap.size)
    (h0 : 0 ≤ n) (h1 : n ≤ 65535) :
    Calls Try.prog 40 #[v, .int .i64 n] w fun e w' => ∃ v', e = .returned v' ∧ w'.ownsRow base 5 1 v' (l ++ tw n).length (bv (l ++ tw n)) ∧ Ap w w' v v' := by
  obtain ⟨i0, hi, hz0, hz1, hz2⟩ := info_parts info_u8
  have hsrc := src_new [n / 256, n % 256] (by intro m hm; simp at hm; omega) w
  rw [tw_eq] at hsrc
  simp only [List.map_cons, List.map_nil, List.length_cons, List.length_nil] at hsrc
  have ht : (tw n).length = 2 := rfl
  have Ht := Lib.hid ht
  clear ht
  go_enter Try.func40, Try.ntmps40
  go_wp2_with (at_builtin; refine wpList_append_src _ rfl _ _ 58 58 rfl base 5 i0 (.int .u8 0) 1 1 Try.underlying58 hi hz0 hz1 hz2 rfl v l.length (bv l) rfl (hown.alloc _) 2 (bv (tw n)) hsrc (by unfold maxLen; omega) (by omega) (by simp; omega) ?_; intro v' w1 hown1 hap1)
  go_ret
  refine ⟨_, rfl, ?_, hap1.from_alloc⟩
  rw [List.length_append, Ht.out, bv_append]
  exact hown1

set_option maxHeartbeats 400000 in
theorem l13Two_spec (n : Int) (w : World) (h0 : 0 ≤ n) (h1 : n ≤ 65535) :
    Calls Try.prog 45 #[.int .i64 n] w fun e w' => e = .returned (.string (mkS (tw n))) ∧ Below w.heap.size w w' := by
  have hc := conv_new [n / 256, n % 256] (by intro m hm; simp at hm; omega) w
  rw [tw_eq] at hc
  simp only [List.map_cons, List.map_nil, List.length_cons, List.length_nil] at hc
  go_enter Try.func45, Try.ntmps45
  go_wp2_with fail
  go_ret
  exact ⟨rfl, (Below.refl _ _).alloc (Nat.le_refl _) _⟩

set_option maxHeartbeats 400000 in
theorem l13Byte_spec (n : Int) (w : World) (h0 : 0 ≤ n) (h1 : n ≤ 255) :
    Calls Try.prog 52 #[.int .i64 n] w fun e w' => e = .returned (.string (mkS [byt n])) ∧ Below w.heap.size w w' := by
  have hc := conv_new [n] (by intro m hm; simp at hm; omega) w
  simp only [List.map_cons, List.map_nil, List.length_cons, List.length_nil] at hc
  go_enter Try.func52, Try.ntmps52
  go_wp2_with fail
  go_ret
  exact ⟨rfl, (Below.refl _ _).alloc (Nat.le_refl _) _⟩
end Go.Proofs.Ytidiiodcpfdnfaa
