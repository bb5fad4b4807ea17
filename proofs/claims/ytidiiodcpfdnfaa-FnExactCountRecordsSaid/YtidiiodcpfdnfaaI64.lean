/-
  THE WALKS of eqInt64S (at equal slices), markInt64S and heldInt64S (over slices that the call owns).
-/
import Derived.Test.YtidiiodcpfdnfaaApp
import Derived.Test.YtidiiodcpfdnfaaRows
import Derived.Laws.OwnMore
import Derived.Deep.QuietTactic
import Derived.BigQuiet
namespace Go.Proofs.Ytidiiodcpfdnfaa
open Go.RowKit

/-- numbers as cells -/
def iv (l : List Int) : List Value := l.map (Value.int .i64)
theorem iv_length (l : List Int) : (iv l).length = l.length := by simp [iv]
theorem iv_append (a b : List Int) : iv (a ++ b) = iv a ++ iv b := by simp [iv]
theorem iv_one (l : List Int) : ∀ u ∈ iv l, u.oneCell' = true := by
  intro u hu
  simp [iv] at hu
  obtain ⟨b, _, rfl⟩ := hu
  rfl
/-- a slice (address A, n elements of one cell) that reads as xs -/
def RdA (w : World) (A : Option Addr) (n : Nat) (f : Nat → Value) : Prop := 0 < n → ∃ g o, A = some ⟨g, o, none⟩ ∧ ∀ j, j < n → w.cell? ⟨g, o + j, none⟩ = some (f j)
theorem own_slice {w : World} {base : Nat} {e : TypeId} {size : Nat} {v : Value} {n : Nat} {xs : List Value} (h : w.ownsRow base e size v n xs) :
    ∃ A c, v = .slice A n c ∧ n ≤ c ∧ c ≤ maxLen ∧ (0 < n → ∃ g, A = some ⟨g, 0, none⟩ ∧ base ≤ g ∧ g < w.heap.size ∧ (∀ j u, xs[j]? = some u → w.cell? ⟨g, j, none⟩ = some u) ∧ ∀ j, w.frozen? ⟨g, j, none⟩ = false) := by
  rcases h.2 with ⟨rfl, rfl⟩ | ⟨g, cap, cur, rfl, hg, hh, hn, hc, hs, ht⟩
  · exact ⟨none, 0, rfl, Nat.le_refl _, by unfold maxLen; omega, fun h => absurd h (by omega)⟩
  · refine ⟨_, cap, rfl, hn, hc, fun _ => ⟨g, rfl, hg, (Array.getElem?_eq_some_iff.1 hh).1, fun j u hu => ?_, fun j => ?_⟩⟩
    · have := h.cells (g := g) rfl j u hu
      have hadd : (⟨g, 0, none⟩ : Addr).add j = ⟨g, j, none⟩ := by unfold Addr.add; split <;> simp_all
      rwa [hadd] at this
    · simp [World.frozen?, hh]
theorem own_rd {w : World} {base : Nat} {e : TypeId} {A : Option Addr} {n c : Nat} {l : List Int} (h : w.ownsRow base e 1 (.slice A n c) l.length (iv l)) : n = l.length ∧ RdA w A l.length (fun j => .int .i64 (l.getD j 0)) := by
  obtain ⟨A', c', hv, _, _, h2⟩ := own_slice h
  injection hv with h3 h4 h5
  subst h3
  refine ⟨h4, fun hn => ?_⟩
  obtain ⟨g, rfl, _, _, hc, _⟩ := h2 hn
  refine ⟨g, 0, rfl, fun j hj => ?_⟩
  rw [Nat.zero_add]
  exact hc j _ (by simp [iv, hj])

theorem apart_own {w w' : World} {base : Nat} {e e' : TypeId} {size size' : Nat} {v v' : Value} {n n' : Nat} {xs xs' : List Value} (h : w.ownsRow base e size v n xs) (h' : w'.ownsRow w.heap.size e' size' v' n' xs') : v.ownBlock = none ∨ v.ownBlock ≠ v'.ownBlock := by
  rcases hv : v.ownBlock with _ | k
  · exact .inl rfl
  · refine .inr fun e => ?_
    have h1 := (h.lt k hv).2
    have h2 := (h'.lt k e.symm).1
    omega
theorem own_shape {w : World} {base : Nat} {e : TypeId} {size : Nat} {v : Value} {n : Nat} {xs : List Value} (h : w.ownsRow base e size v n xs) : ∃ A c, v = .slice A n c := by
  obtain ⟨A, c, hv, _⟩ := own_slice h
  exact ⟨A, c, hv⟩

set_option maxHeartbeats 400000 in
theorem eqInt64S_same (A A' : Option Addr) (c c' : Nat) (l : List Int) (w : World) (hl : l.length ≤ 1152921504606846976) (h1 : RdA w A l.length (fun j => .int .i64 (l.getD j 0))) (h2 : RdA w A' l.length (fun j => .int .i64 (l.getD j 0))) :
    Calls Try.prog 25 #[.slice A l.length c, .slice A' l.length c'] w fun e w' => e = .returned (.bool true) ∧ ∃ m, w' = w.drewN m := by
  by_cases h0 : l.length = 0
  · rw [h0]
    clear h1 h2 h0
    go_enter Try.func25, Try.ntmps25
    go_wp2
    refine wp_loop_rounds 1 ?_
    rw [rounds_succ]
    go_wp2
    go_ret
    exact ⟨rfl, 0, rfl⟩
  · obtain ⟨g, o, rfl, hc⟩ := h1 (by omega)
    obtain ⟨g', o', rfl, hc'⟩ := h2 (by omega)
    obtain ⟨n, hn⟩ : ∃ n, l.length = n := ⟨_, rfl⟩
    rw [hn] at hc hc' hl h0 ⊢
    clear h1 h2
    have HN := Lib.hid hn
    clear hn
    go_enter Try.func25, Try.ntmps25
    go_wp2
    go_loopw [5] (fun i wr => ∃ k : Nat, k ≤ n ∧ i = .int .i64 k ∧ ∃ q, wr = w.drewN q) (fun i _ => n - (intOf i).toNat)
    case atStart => exact ⟨0, Nat.zero_le _, rfl, 0, rfl⟩
    case round =>
      obtain ⟨k, hk, rfl, q, rfl⟩ := hrel
      by_cases hlt : k < n
      · have d1 := hc k hlt
        have d2 := hc' k hlt
        clear hc hc'
        go_wp2
        go_quiet (fail)
        go_wp2
        go_roundw
        case rel => exact ⟨k + 1, by omega, by go_num, _, rfl⟩
        case measure => simp [intOf]; omega
      · clear hc hc'
        go_wp2
        go_ret
        exact ⟨rfl, _, rfl⟩

/-- K, K + 1, .. -/
def seqI (K : Int) (n : Nat) : List Int := (List.range n).map fun (i : Nat) => K + (i : Int)
theorem seqI_length (K : Int) (n : Nat) : (seqI K n).length = n := by simp [seqI]
theorem seqI_at (K : Int) (n j : Nat) (h : j < n) : (seqI K n)[j]? = some (K + (j : Int)) := by simp [seqI, h]
/-- after k marks -/
def marked (K : Int) (k : Nat) (l : List Int) : List Int := seqI K k ++ l.drop k
theorem marked_zero (K : Int) (l : List Int) : marked K 0 l = l := by simp [marked, seqI]
theorem marked_all (K : Int) (l : List Int) : marked K l.length l = seqI K l.length := by simp [marked]
theorem marked_length (K : Int) (k : Nat) (l : List Int) (h : k ≤ l.length) : (marked K k l).length = l.length := by simp [marked, seqI_length]; omega
theorem marked_succ (K : Int) (k : Nat) (l : List Int) (h : k < l.length) : (marked K k l).set k (K + (k : Int)) = marked K (k + 1) l := by
  have h1 : l.drop k = l[k] :: l.drop (k + 1) := List.drop_eq_getElem_cons h
  have h2 : seqI K (k + 1) = seqI K k ++ [K + (k : Int)] := by simp [seqI, List.range_succ]
  unfold marked
  rw [h1, h2, List.set_append_right _ _ (by rw [seqI_length]; exact Nat.le_refl _), seqI_length, Nat.sub_self, List.set_cons_zero, List.append_assoc]
  rfl
theorem iv_set (l : List Int) (k : Nat) (x : Int) : (iv l).set k (.int .i64 x) = iv (l.set k x) := by simp [iv, List.map_set]
theorem rd_seq {w : World} {A : Option Addr} {n c : Nat} {base : Nat} {e : TypeId} {K : Int} (h : w.ownsRow base e 1 (.slice A n c) n (iv (seqI K n))) : RdA w A n (fun j => .int .i64 (K + (j : Int))) := by
  have h' : w.ownsRow base e 1 (.slice A n c) (seqI K n).length (iv (seqI K n)) := by rw [seqI_length]; exact h
  have hr := (own_rd h').2
  rw [seqI_length] at hr
  intro h0
  obtain ⟨g, o, hA, hc⟩ := hr h0
  refine ⟨g, o, hA, fun j hj => ?_⟩
  rw [hc j hj]
  simp [List.getD, seqI_at K n j hj]
theorem own_addr {w : World} {base : Nat} {e : TypeId} {size : Nat} {v : Value} {n : Nat} {xs : List Value} (h : w.ownsRow base e size v n xs) (h0 : 0 < n) :
    ∃ g c, v = .slice (some ⟨g, 0, none⟩) n c ∧ base ≤ g ∧ g < w.heap.size ∧ n ≤ c := by
  rcases h.2 with ⟨_, h1⟩ | ⟨g, cap, cur, rfl, hg, hh, hn, _⟩
  · omega
  · exact ⟨g, cap, rfl, hg, (Array.getElem?_eq_some_iff.1 hh).1, hn⟩
theorem own_len0 {w : World} {base : Nat} {e : TypeId} {size : Nat} {v : Value} {xs : List Value} (h : w.ownsRow base e size v 0 xs) : ∃ A c, v = .slice A 0 c := by
  obtain ⟨A, c, hv, _⟩ := own_slice h
  exact ⟨A, c, hv⟩

set_option maxHeartbeats 400000 in
theorem markInt64S_any (base : Nat) (v : Value) (l : List Int) (K : Int) (w : World) (hown : w.ownsRow base 2 1 v l.length (iv l)) (hl : l.length ≤ 1000000000) (hK0 : 0 ≤ K) (hK1 : K ≤ 1000000000000) :
    Calls Try.prog 27 #[v, .int .i64 K] w fun e w' => e = .returned (.int .i64 (K + l.length)) ∧ w'.ownsRow base 2 1 v l.length (iv (seqI K l.length)) ∧ w.grownBy w' v.ownBlock := by
  by_cases h0 : l.length = 0
  · have hl0 : l = [] := List.eq_nil_of_length_eq_zero h0
    subst hl0
    obtain ⟨A, c, rfl⟩ := own_len0 hown
    have HO := Lib.hid hown
    clear hown h0
    go_enter Try.func27, Try.ntmps27
    go_wp2
    refine wp_loop_rounds 1 ?_
    rw [rounds_succ]
    go_wp2
    go_ret
    exact ⟨by simp, HO.out, World.grownBy.refl _ _⟩
  · obtain ⟨g, c, rfl, _, _, _⟩ := own_addr hown (by omega)
    obtain ⟨n, hn⟩ : ∃ n, l.length = n := ⟨_, rfl⟩
    rw [hn] at hown hl h0 ⊢
    have HN := Lib.hid hn
    clear hn
    have HO := Lib.hid hown
    clear hown
    go_enter Try.func27, Try.ntmps27
    go_wp2
    go_loopw [1, 5] (fun q i wr => ∃ k : Nat, k ≤ n ∧ i = .int .i64 k ∧ q = .int .i64 (K + (k : Int)) ∧ wr.ownsRow base 2 1 (.slice (some ⟨g, 0, none⟩) n c) n (iv (marked K k l)) ∧ w.grownBy wr (some g)) (fun _ i _ => n - (intOf i).toNat)
    case atStart => exact ⟨0, Nat.zero_le _, rfl, by simp, by rw [marked_zero]; exact HO.out, World.grownBy.refl _ _⟩
    case round =>
      obtain ⟨k, hk, rfl, rfl, hor, hgr⟩ := hrel
      by_cases hlt : k < n
      · obtain ⟨x, hx⟩ : ∃ x, wr.cell? ⟨g, k, none⟩ = some x := ⟨_, (hor.cellAt k (by omega)).trans (List.getElem?_eq_getElem (by rw [iv_length, marked_length _ _ _ (by rw [HN.out]; omega), HN.out]; exact hlt))⟩
        have hf := hor.frozenAt k
        have hs := hor.stored k (.int .i64 (K + (k : Int)))
        rw [iv_set, marked_succ _ _ _ (by rw [HN.out]; exact hlt)] at hs
        have HS := Lib.hid hs
        have HG := Lib.hid hgr
        clear hs hgr hor
        go_wp2
        go_roundw
        case rel => exact ⟨k + 1, by omega, by go_num, by go_num, HS.out.1, grow_trans HG.out HS.out.2 (.inl rfl)⟩
        case measure => simp [intOf]; omega
      · have hkn : k = n := by omega
        have HK := Lib.hid hkn
        have HOR := Lib.hid hor
        have HG := Lib.hid hgr
        clear hkn hor hgr
        go_wp2
        go_ret
        refine ⟨by rw [HK.out]; rfl, ?_, HG.out⟩
        have h := HOR.out
        rw [HK.out, ← HN.out, marked_all, HN.out] at h
        exact h

set_option maxHeartbeats 400000 in
theorem heldInt64S_any (A : Option Addr) (c n : Nat) (K : Int) (w : World) (hr : RdA w A n (fun j => .int .i64 (K + (j : Int)))) (hl : n ≤ 1000000000) (hK0 : 0 ≤ K) (hK1 : K ≤ 1000000000000) :
    Calls Try.prog 29 #[.slice A n c, .int .i64 K] w fun e w' => e = .returned (.int .i64 (K + n)) ∧ w = w' := by
  by_cases h0 : n = 0
  · subst h0
    clear hr
    go_enter Try.func29, Try.ntmps29
    go_wp2
    refine wp_loop_rounds 1 ?_
    rw [rounds_succ]
    go_wp2
    go_ret
    exact ⟨by simp, rfl⟩
  · obtain ⟨g, o, rfl, hc⟩ := hr (by omega)
    clear hr
    go_enter Try.func29, Try.ntmps29
    go_wp2
    go_loop [1, 5] (fun q i => ∃ k : Nat, k ≤ n ∧ i = .int .i64 k ∧ q = .int .i64 (K + (k : Int))) (fun _ i => n - (intOf i).toNat)
    case atStart => exact ⟨0, Nat.zero_le _, rfl, by simp⟩
    case round =>
      obtain ⟨k, hk, rfl, rfl⟩ := hrel
      by_cases hlt : k < n
      · have d1 := hc k hlt
        clear hc
        go_wp2
        go_round
        case rel => exact ⟨k + 1, by omega, by go_num, by go_num⟩
        case measure => simp [intOf]; omega
      · have hkn : k = n := by omega
        have HK := Lib.hid hkn
        clear hc hkn
        go_wp2
        go_ret
        exact ⟨by rw [HK.out]; rfl, rfl⟩
end Go.Proofs.Ytidiiodcpfdnfaa
