/-
  PLAIN FACTS about what the functions are written in. No condition.
-/
import Derived.Test.YtpobpihakgegbaaGreatAmE
import Derived.Laws.Strings
namespace Go.Proofs.YtpobpihakgegbaaGreat.AM
open Go Go.Proofs Go.RowKit
set_option linter.unusedVariables false
set_option linter.unusedSimpArgs false
set_option maxRecDepth 100000

theorem br_bool {β : Type} (b : Bool) (x y : Option β) : br b x y = if b then x else y := by cases b <;> rfl
theorem br_t {β : Type} (x y : Option β) : br true x y = x := rfl
theorem br_f {β : Type} (x y : Option β) : br false x y = y := rfl
theorem letO_eq {α β : Type} (e : α) (k : α → Option β) : letO e k = k e := rfl
theorem req_of {β : Type} {p : Prop} {k : Option β} (h : p) : req p k = k := if_pos h
theorem req_true {β : Type} (k : Option β) : req True k = k := if_pos trivial
theorem wrap_id {x : Int} (h1 : -9223372036854775808 ≤ x) (h2 : x < 9223372036854775808) : IntKind.i64.wrap x = x := by
  simp [IntKind.wrap, IntKind.signed, IntKind.bits]
  omega
theorem maxLen_eq : maxLen = 9223372036854775807 := rfl
theorem add_id {x y : Int} (h1 : -9223372036854775808 ≤ x + y) (h2 : x + y < 9223372036854775808) : std.add .i64 x y = x + y := wrap_id h1 h2
theorem sub_id {x y : Int} (h1 : -9223372036854775808 ≤ x - y) (h2 : x - y < 9223372036854775808) : std.sub .i64 x y = x - y := wrap_id h1 h2
theorem mul_id {x y : Int} (h1 : -9223372036854775808 ≤ x * y) (h2 : x * y < 9223372036854775808) : std.mul .i64 x y = x * y := wrap_id h1 h2
theorem inc_nat {i : Nat} (h : i < 9223372036854775807) : std.add .i64 (i : Int) 1 = ((i + 1 : Nat) : Int) := by
  rw [add_id (by omega) (by omega)]; omega
theorem s_lt (x y : Int) : std.lt x y = decide (x < y) := rfl
theorem s_le (x y : Int) : std.le x y = decide (x ≤ y) := rfl
theorem s_eq (x y : Int) : std.eq x y = decide (x = y) := by
  show (x == y) = _
  by_cases h : x = y <;> simp [h]
theorem s_not (b : Bool) : std.not b = !b := rfl
theorem s_ofN (n : Nat) : std.ofN n = (n : Int) := rfl
theorem s_toN (n : Int) : std.toN n = n.toNat := rfl
theorem s_toNn (n : Nat) : std.toN (n : Int) = n := Int.toNat_natCast n
theorem s_slen (s : ByteArray) : std.slen s = s.size := rfl
theorem s_nadd (a b : Nat) : std.nadd a b = a + b := rfl
theorem s_room (n b : Nat) : std.room n b ↔ n * b ≤ 35184372088832 := Iff.rfl
theorem s_nneg (i : Int) : std.nneg i ↔ 0 ≤ i := Iff.rfl
theorem s_nz (i : Int) : std.nz i ↔ i ≠ 0 := Iff.rfl
theorem s_beq (a b : Bool) : std.beq a b = (a == b) := rfl
theorem inRn {i n : Nat} (h : i < n) : std.inR (i : Int) n := ⟨by omega, by omega⟩
theorem lt_true {x y : Int} (h : x < y) : std.lt x y = true := decide_eq_true h
theorem lt_false {x y : Int} (h : ¬ x < y) : std.lt x y = false := decide_eq_false h
theorem le_true {x y : Int} (h : x ≤ y) : std.le x y = true := decide_eq_true h
theorem le_false {x y : Int} (h : ¬ x ≤ y) : std.le x y = false := decide_eq_false h
theorem eq_true' {x y : Int} (h : x = y) : std.eq x y = true := by rw [s_eq]; exact decide_eq_true h
theorem eq_false' {x y : Int} (h : x ≠ y) : std.eq x y = false := by rw [s_eq]; exact decide_eq_false h
theorem seq_self (a : ByteArray) : std.seq a a = true := by
  show (a.toList == a.toList) = true
  exact beq_self_eq_true _
theorem len_eq {α : Type} (l : List α) : len l = l.length := rfl
theorem gd_lt {α : Type} [Inhabited α] {l : List α} {i : Nat} (h : i < l.length) : gd l i = l[i] := by
  unfold gd; simp [h]
theorem bind_of {α β : Type} {x : Option α} {k : α → Option β} {r : α} (h : x = some r) : x.bind k = k r := by rw [h]; rfl
/-- a loop of n rounds -/
theorem while_up {σ ρ : Type} {step : σ → Option (σ ⊕ ρ)} (S : Nat → σ) (n : Nat) {r : ρ} (h : ∀ i, i < n → step (S i) = some (.inl (S (i + 1)))) (hn : step (S n) = some (.inr r)) : ∀ m i, i + m = n → whileP step (S i) = some r
  | 0, i, hi => by
    have : i = n := by omega
    subst this
    rw [whileP_unfold, hn]
  | m + 1, i, hi => by
    rw [whileP_unfold, h i (by omega)]
    exact while_up S n h hn m (i + 1) (by omega)
/-- n rounds from the start -/
theorem while_from {σ ρ : Type} {step : σ → Option (σ ⊕ ρ)} {x0 : σ} (S : Nat → σ) (n : Nat) {r : ρ} (h0 : x0 = S 0) (h : ∀ i, i < n → step (S i) = some (.inl (S (i + 1)))) (hn : step (S n) = some (.inr r)) : whileP step x0 = some r := by
  rw [h0]; exact while_up S n h hn n 0 (by omega)
/-- a loop through the numbers below n, that ends where the test fails -/
theorem scan {ρ : Type} {ok : Nat → Bool} {step : Int → Option (Int ⊕ ρ)} {n : Nat} {yes no : ρ} (h : ∀ i : Nat, i < n → step i = some (cond (ok i) (.inl ((i + 1 : Nat) : Int)) (.inr no))) (hn : step n = some (.inr yes)) :
    whileP step 0 = some (if (List.range n).all ok then yes else no) := by
  have key : ∀ m i : Nat, i + m = n → whileP step i = some (if (List.range' i m).all ok then yes else no) := by
    intro m
    induction m with
    | zero =>
      intro i hi
      have : i = n := by omega
      subst this
      rw [whileP_unfold, hn]; rfl
    | succ m ih =>
      intro i hi
      rw [whileP_unfold, h i (by omega)]
      cases hb : ok i with
      | true =>
        simp only [cond]
        rw [ih (i + 1) (by omega)]
        simp only [List.range', List.all_cons, hb, Bool.true_and]
      | false => simp [List.range', hb]
  have := key n 0 (by omega)
  rw [List.range_eq_range']
  exact this
/-- a loop that ends somewhere -/
theorem while_ex {σ ρ : Type} {step : σ → Option (σ ⊕ ρ)} {x0 : σ} (Inv : σ → Prop) (Post : ρ → Prop) (μ : σ → Nat) (h0 : Inv x0) (h : ∀ x, Inv x → (∃ x', step x = some (.inl x') ∧ Inv x' ∧ μ x' < μ x) ∨ ∃ r, step x = some (.inr r) ∧ Post r) : ∃ r, whileP step x0 = some r ∧ Post r := by
  have key : ∀ n x, μ x < n → Inv x → ∃ r, whileP step x = some r ∧ Post r := by
    intro n
    induction n with
    | zero => intro x hx; omega
    | succ n ih =>
      intro x hx hi
      rw [whileP_unfold]
      rcases h x hi with ⟨x', h1, h2, h3⟩ | ⟨r, h1, h2⟩
      · rw [h1]; exact ih x' (by omega) h2
      · rw [h1]; exact ⟨r, rfl, h2⟩
  exact key (μ x0 + 1) x0 (by omega) h0
theorem inRl {α : Type} {l : List α} {i : Nat} (h : i < l.length) : std.inR (i : Int) (len l) := ⟨by omega, by rw [len_eq]; omega⟩
/-- a list whose first i elements are others -/
def markd {α : Type} (f : Nat → α) (a : List α) (i : Nat) : List α := (List.range i).map f ++ a.drop i
theorem markd_len {α : Type} (f : Nat → α) (a : List α) (i : Nat) (h : i ≤ a.length) : (markd f a i).length = a.length := by
  unfold markd; rw [List.length_append, List.length_map, List.length_range, List.length_drop]; omega
theorem markd_zero {α : Type} (f : Nat → α) (a : List α) : markd f a 0 = a := by simp [markd]
theorem markd_full {α : Type} (f : Nat → α) (a : List α) : markd f a a.length = (List.range a.length).map f := by simp [markd]
theorem markd_set {α : Type} (f : Nat → α) (a : List α) (i : Nat) (h : i < a.length) : (markd f a i).set i (f i) = markd f a (i + 1) := by
  unfold markd
  rw [List.set_append_right _ _ (by simp), List.length_map, List.length_range, Nat.sub_self, List.range_succ, List.map_append, List.append_assoc]
  congr 1
  rw [List.drop_eq_getElem_cons h]
  rfl
theorem range_gd {α : Type} [Inhabited α] (f : Nat → α) (n i : Nat) (h : i < n) : gd ((List.range n).map f) i = f i := by
  rw [gd_lt (by simpa using h)]; simp
theorem range_all {α : Type} [Inhabited α] (p : α → Bool) (l : List α) : (List.range l.length).all (fun i => p (gd l i)) = l.all p := by
  rw [Bool.eq_iff_iff, List.all_eq_true, List.all_eq_true]
  constructor
  · intro h x hx
    obtain ⟨i, hi, rfl⟩ := List.getElem_of_mem hx
    have := h i (by simpa using hi)
    rwa [gd_lt hi] at this
  · intro h i hi
    rw [gd_lt (by simpa using hi)]
    exact h _ (List.getElem_mem _)
theorem map_gd {α : Type} [Inhabited α] (a : List α) : (List.range a.length).map (gd a) = a := by
  apply List.ext_getElem (by simp)
  intro i h1 h2
  simp [gd_lt h2]
/-- a copy, element by element -/
theorem while_copy {α : Type} [Inhabited α] {st : Int × List α → Option ((Int × List α) ⊕ List α)} (a l1 : List α) (hl : l1.length = a.length) (h : ∀ i, i < a.length → ∀ v : List α, v.length = a.length → st ((i : Int), v) = some (.inl (((i + 1 : Nat) : Int), v.set i (gd a i)))) (he : ∀ v, st ((a.length : Int), v) = some (.inr v)) : whileP st (0, l1) = some a := by
  refine while_from (fun i => ((i : Int), markd (gd a) l1 i)) a.length (by simp [markd_zero]) (fun i hi => ?_) ?_
  · rw [h i hi _ (by rw [markd_len _ _ _ (by omega), hl]), markd_set _ _ _ (by omega)]
  · rw [he]
    rw [← hl, markd_full, hl, map_gd]
/-- two lists held against each other -/
theorem while_eq {ρ : Type} {st : Int → Option (Int ⊕ ρ)} (n : Nat) {r : ρ} (h : ∀ i, i < n → st (i : Int) = some (.inl ((i + 1 : Nat) : Int))) (he : st (n : Int) = some (.inr r)) : whileP st 0 = some r :=
  while_from (fun i => (i : Int)) n rfl h he
theorem room_le {n b : Nat} (hn : n ≤ 100000000) (hb : b ≤ 1000) : std.room (std.toN (std.ofN n)) b := by
  rw [s_room, s_ofN, s_toNn]
  have : n * b ≤ 100000000 * 1000 := Nat.mul_le_mul hn hb
  omega
theorem nneg_len (n : Nat) : std.nneg (std.ofN n) := by rw [s_nneg, s_ofN]; omega
theorem ltl_t {α : Type} {l : List α} {i : Nat} (h : i < l.length) : std.lt (i : Int) (std.ofN (len l)) = true := lt_true (by rw [s_ofN, len_eq]; omega)
theorem ltl_f {α : Type} {l : List α} : std.lt (l.length : Int) (std.ofN (len l)) = false := lt_false (by rw [s_ofN, len_eq]; omega)
theorem gd_mem {α : Type} [Inhabited α] {l : List α} {i : Nat} (h : i < l.length) : gd l i ∈ l := by rw [gd_lt h]; exact List.getElem_mem _
theorem notEq {b : Bool} (h : b = true) : std.not b = false := by subst h; rfl
/-- the string of these bytes -/
noncomputable def ofL (l : List Int) : ByteArray := std.ofBytes (len l) (fun i => gd l (0 + i))
theorem ofL_data (l : List Int) : (ofL l).data.toList = l.map fun x => UInt8.ofNat x.toNat := by
 unfold ofL
 show ((List.range (len l)).map fun i => UInt8.ofNat (gd l (0 + i)).toNat).toArray.toList = _
 simp only [Nat.zero_add, len, gd]
 apply List.ext_getElem?
 intro i
 rw [List.getElem?_map, List.getElem?_map]
 by_cases h : i < l.length
 ·rw [List.getElem?_range h]
  simp [List.getD_eq_getElem?_getD, h]
 ·rw [List.getElem?_eq_none (by simpa using h), List.getElem?_eq_none (by omega)]
  rfl
theorem ofL_len (l : List Int) : std.slen (ofL l) = l.length := by
 show (ofL l).data.size = l.length
 rw [← Array.length_toList, ofL_data, List.length_map]
theorem ofL_size (l : List Int) : (ofL l).size = l.length := ofL_len l
theorem scat_size (a b : ByteArray) : (std.scat a b).size = a.size + b.size := ByteArray.size_append
theorem room1 {a b : Nat} (h : a + b ≤ 10000000000) : std.room (std.nadd a b) 1 := by
 rw [s_room, s_nadd]; omega
/-- strings one behind the other -/
noncomputable def catN (acc : ByteArray) (f : Nat → ByteArray) : Nat → ByteArray
 | 0 => acc
 | n + 1 => std.scat (catN acc f n) (f n)
noncomputable def oneB (x : Int) : List Int := [std.conv .u8 x]
noncomputable def twoR (x : Int) : List Int := [std.conv .u8 (std.shr .i64 x 8), std.conv .u8 x]
noncomputable def twoB (x : Int) : List Int := twoR (std.add .i64 x 32768)
end Go.Proofs.YtpobpihakgegbaaGreat.AM
