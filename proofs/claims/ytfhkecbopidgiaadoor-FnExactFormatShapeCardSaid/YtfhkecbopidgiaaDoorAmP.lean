/-
  PLAIN FACTS about what the functions are written in. No condition.
-/
import Derived.Test.YtfhkecbopidgiaaDoorAmE
import Derived.Laws.Strings
namespace Go.Proofs.YtfhkecbopidgiaaDoor.AM
open Go Go.Proofs Go.RowKit
set_option linter.unusedVariables false
set_option linter.unusedSimpArgs false
set_option maxRecDepth 100000

theorem br_t {β : Type} (x y : Option β) : br true x y = x := rfl
theorem br_f {β : Type} (x y : Option β) : br false x y = y := rfl
theorem letO_eq {α β : Type} (e : α) (k : α → Option β) : letO e k = k e := rfl
theorem req_of {β : Type} {p : Prop} {k : Option β} (h : p) : req p k = k := if_pos h
theorem wrap_id {x : Int} (h1 : -9223372036854775808 ≤ x) (h2 : x < 9223372036854775808) : IntKind.i64.wrap x = x := by
  simp [IntKind.wrap, IntKind.signed, IntKind.bits]
  omega
theorem add_id {x y : Int} (h1 : -9223372036854775808 ≤ x + y) (h2 : x + y < 9223372036854775808) : std.add .i64 x y = x + y := wrap_id h1 h2
theorem sub_id {x y : Int} (h1 : -9223372036854775808 ≤ x - y) (h2 : x - y < 9223372036854775808) : std.sub .i64 x y = x - y := wrap_id h1 h2
theorem inc_nat {i : Nat} (h : i < 9223372036854775807) : std.add .i64 (i : Int) 1 = ((i + 1 : Nat) : Int) := by
  rw [add_id (by omega) (by omega)]; omega
theorem s_lt (x y : Int) : std.lt x y = decide (x < y) := rfl
theorem s_le (x y : Int) : std.le x y = decide (x ≤ y) := rfl
theorem s_eq (x y : Int) : std.eq x y = decide (x = y) := by
  show (x == y) = _
  by_cases h : x = y <;> simp [h]
theorem s_not (b : Bool) : std.not b = !b := rfl
theorem s_ofN (n : Nat) : std.ofN n = (n : Int) := rfl
theorem s_toNn (n : Nat) : std.toN (n : Int) = n := Int.toNat_natCast n
theorem s_slen (s : ByteArray) : std.slen s = s.size := rfl
theorem s_nadd (a b : Nat) : std.nadd a b = a + b := rfl
theorem s_room (n b : Nat) : std.room n b ↔ n * b ≤ 35184372088832 := Iff.rfl
theorem s_nz (i : Int) : std.nz i ↔ i ≠ 0 := Iff.rfl
theorem inRn {i n : Nat} (h : i < n) : std.inR (i : Int) n := ⟨by omega, by omega⟩
theorem lt_true {x y : Int} (h : x < y) : std.lt x y = true := decide_eq_true h
theorem lt_false {x y : Int} (h : ¬ x < y) : std.lt x y = false := decide_eq_false h
theorem eq_true' {x y : Int} (h : x = y) : std.eq x y = true := by rw [s_eq]; exact decide_eq_true h
theorem eq_false' {x y : Int} (h : x ≠ y) : std.eq x y = false := by rw [s_eq]; exact decide_eq_false h
theorem bytes_ext {a b : ByteArray} (h : a.data.toList = b.data.toList) : a = b := by
  cases a; cases b
  simp at h
  rw [h]
theorem seq_self (a : ByteArray) : std.seq a a = true := by
  show (a.toList == a.toList) = true
  exact beq_self_eq_true _
theorem len_eq {α : Type} (l : List α) : len l = l.length := rfl
theorem gd_lt {α : Type} [Inhabited α] {l : List α} {i : Nat} (h : i < l.length) : gd l i = l[i] := by
  unfold gd; simp [h]
/-- a loop of n rounds -/
theorem while_up {σ ρ : Type} {step : σ → Option (σ ⊕ ρ)} (S : Nat → σ) (n : Nat) {r : ρ} (h : ∀ i, i < n → step (S i) = some (.inl (S (i + 1)))) (hn : step (S n) = some (.inr r)) : ∀ m i, i + m = n → whileP step (S i) = some r
  | 0, i, hi => by
    have : i = n := by omega
    subst this
    rw [whileP_unfold, hn]
  | m + 1, i, hi => by
    rw [whileP_unfold, h i (by omega)]
    exact while_up S n h hn m (i + 1) (by omega)
/-- n rounds from the start -/
theorem while_from {σ ρ : Type} {step : σ → Option (σ ⊕ ρ)} {x0 : σ} (S : Nat → σ) (n : Nat) {r : ρ} (h0 : x0 = S 0) (h : ∀ i, i < n → step (S i) = some (.inl (S (i + 1)))) (hn : step (S n) = some (.inr r)) : whileP step x0 = some r := by
  rw [h0]; exact while_up S n h hn n 0 (by omega)
theorem inRl {α : Type} {l : List α} {i : Nat} (h : i < l.length) : std.inR (i : Int) (len l) := ⟨by omega, by rw [len_eq]; omega⟩
/-- a list whose first i elements are others -/
def markd {α : Type} (f : Nat → α) (a : List α) (i : Nat) : List α := (List.range i).map f ++ a.drop i
theorem ltl_t {α : Type} {l : List α} {i : Nat} (h : i < l.length) : std.lt (i : Int) (std.ofN (len l)) = true := lt_true (by rw [s_ofN, len_eq]; omega)
theorem ltl_f {α : Type} {l : List α} : std.lt (l.length : Int) (std.ofN (len l)) = false := lt_false (by rw [s_ofN, len_eq]; omega)
theorem gd_mem {α : Type} [Inhabited α] {l : List α} {i : Nat} (h : i < l.length) : gd l i ∈ l := by rw [gd_lt h]; exact List.getElem_mem _
/-- the string of these bytes -/
noncomputable def ofL (l : List Int) : ByteArray := std.ofBytes (len l) (fun i => gd l (0 + i))
theorem ofL_data (l : List Int) : (ofL l).data.toList = l.map fun x => UInt8.ofNat x.toNat := by
 unfold ofL
 show ((List.range (len l)).map fun i => UInt8.ofNat (gd l (0 + i)).toNat).toArray.toList = _
 simp only [Nat.zero_add, len, gd]
 apply List.ext_getElem?
 intro i
 rw [List.getElem?_map, List.getElem?_map]
 by_cases h : i < l.length
 ·rw [List.getElem?_range h]
  simp [List.getD_eq_getElem?_getD, h]
 ·rw [List.getElem?_eq_none (by simpa using h), List.getElem?_eq_none (by omega)]
  rfl
theorem room1 {a b : Nat} (h : a + b ≤ 10000000000) : std.room (std.nadd a b) 1 := by
 rw [s_room, s_nadd]; omega
/-- strings one behind the other -/
noncomputable def catN (acc : ByteArray) (f : Nat → ByteArray) : Nat → ByteArray
 | 0 => acc
 | n + 1 => std.scat (catN acc f n) (f n)
noncomputable def oneB (x : Int) : List Int := [std.conv .u8 x]
noncomputable def twoR (x : Int) : List Int := [std.conv .u8 (std.shr .i64 x 8), std.conv .u8 x]
noncomputable def twoB (x : Int) : List Int := twoR (std.add .i64 x 32768)
end Go.Proofs.YtfhkecbopidgiaaDoor.AM
