/-
  PLAIN: the counts of a stream's records. Nothing of the program is named here.
-/
import Derived.Test.YtidiiodcpfdnfaaSp
namespace Go.Proofs.Ytidiiodcpfdnfaa
open Go.RowKit

/-- a record that is read: its kind, where the next one begins -/
theorem splR_fine (s : ByteArray) (k : Nat) (hk : k ≤ s.size) (h : (splR (s.extract k s.size) k).2.2.2 = 0) :
    1 ≤ (splR (s.extract k s.size) k).1 ∧ (splR (s.extract k s.size) k).1 ≤ 7 ∧ k + 5 ≤ (splR (s.extract k s.size) k).2.2.1 ∧ (splR (s.extract k s.size) k).2.2.1 ≤ s.size := by
  have hsz : (s.extract k s.size).size = s.size - k := by simp
  generalize s.extract k s.size = r at *
  unfold splR at h ⊢
  by_cases h1 : r.size < 2
  · rw [if_pos h1] at h; simp at h
  rw [if_neg h1] at h ⊢
  by_cases h2 : bt r 0 * 256 + bt r 1 < 5
  · rw [if_pos h2] at h; simp at h
  rw [if_neg h2] at h ⊢
  by_cases h3 : r.size < bt r 0 * 256 + bt r 1
  · rw [if_pos h3] at h; simp at h
  rw [if_neg h3] at h ⊢
  obtain ⟨n, hn⟩ : ∃ n, bt r 0 * 256 + bt r 1 = n := ⟨_, rfl⟩
  rw [hn] at h2 h3 h ⊢
  by_cases h4 : ((bt r (n - 2) * 256 + bt r (n - 1) : Nat) : Int) ≠ ck (r.extract 0 (n - 2)).data.toList
  · rw [if_pos h4] at h; simp at h
  rw [if_neg h4] at h ⊢
  by_cases h5 : 1 ≤ bt r 2 ∧ bt r 2 ≤ 7 ∧ n ≤ 205
  · rw [if_pos h5]
    simp only
    omega
  · rw [if_neg h5] at h; simp at h
theorem spl_fine (s : ByteArray) (k : Nat) (hk : k ≤ s.size) (h : (spl s k).2.2.2 = 0) : 1 ≤ (spl s k).1 ∧ (spl s k).1 ≤ 7 ∧ k + 5 ≤ (spl s k).2.2.1 ∧ (spl s k).2.2.1 ≤ s.size := by
  have hf : spl s (k : Int) = splR (s.extract k s.size) k := by unfold spl; rw [if_pos (by omega)]; rfl
  rw [hf] at h ⊢
  exact splR_fine s k hk h
def bump (cs : List Int) (j : Nat) : List Int := cs.set j (cs.getD j 0 + 1)
theorem bump_length (cs : List Int) (j : Nat) : (bump cs j).length = cs.length := by simp [bump]
theorem bump_bd (cs : List Int) (j p p' : Nat) (h : ∀ i, 0 ≤ cs.getD i 0 ∧ cs.getD i 0 ≤ (p : Int)) (hp : p < p') : ∀ i, 0 ≤ (bump cs j).getD i 0 ∧ (bump cs j).getD i 0 ≤ (p' : Int) := by
  intro i
  have h1 := h i
  have h2 := h j
  unfold bump
  rw [List.getD_eq_getElem?_getD, List.getElem?_set]
  rw [List.getD_eq_getElem?_getD] at h1 h2
  split
  · split
    · simp only [Option.getD_some]; rw [List.getD_eq_getElem?_getD]; omega
    · simp only [Option.getD_none]; omega
  · omega
/-- the counts, the code -/
def cnt (s : ByteArray) : Nat → Nat → List Int → List Int × Int
  | 0, _, cs => (cs, 0)
  | f + 1, p, cs => if p < s.size then (if (spl s p).2.2.2 = 0 then cnt s f (spl s p).2.2.1 (bump cs ((spl s p).1 - 1)) else ([], (spl s p).2.2.2)) else (cs, 0)
def zero7 : List Int := [0, 0, 0, 0, 0, 0, 0]
def cntS (s : ByteArray) : List Int × Int := cnt s (s.size + 1) 0 zero7
theorem zero7_bd : ∀ i, 0 ≤ zero7.getD i 0 ∧ zero7.getD i 0 ≤ ((0 : Nat) : Int) := by
  intro i
  rcases i with _ | _ | _ | _ | _ | _ | _ | i <;> simp [zero7]
theorem cnt_end {s : ByteArray} {f p : Nat} {cs : List Int} (h : s.size < p + f) (hp : p ≤ s.size) (he : ¬ p < s.size) : cnt s f p cs = (cs, 0) := by
  obtain ⟨g, rfl⟩ : ∃ g, f = g + 1 := ⟨f - 1, by omega⟩
  rw [cnt, if_neg he]
theorem cnt_bad {s : ByteArray} {f p : Nat} {cs : List Int} (h : s.size < p + f) (he : p < s.size) (hc : ¬ (spl s p).2.2.2 = 0) : cnt s f p cs = ([], (spl s p).2.2.2) := by
  obtain ⟨g, rfl⟩ : ∃ g, f = g + 1 := ⟨f - 1, by omega⟩
  rw [cnt, if_pos he, if_neg hc]
theorem cnt_step {s : ByteArray} {f p : Nat} {cs : List Int} (h : s.size < p + f) (he : p < s.size) (hc : (spl s p).2.2.2 = 0) :
    ∃ g, s.size < (spl s p).2.2.1 + g ∧ cnt s f p cs = cnt s g (spl s p).2.2.1 (bump cs ((spl s p).1 - 1)) := by
  obtain ⟨g, rfl⟩ : ∃ g, f = g + 1 := ⟨f - 1, by omega⟩
  have := spl_fine s p (by omega) hc
  refine ⟨g, by omega, ?_⟩
  rw [cnt, if_pos he, if_pos hc]
theorem cnt_len (s : ByteArray) (f : Nat) : ∀ (p : Nat) (cs : List Int), cs.length ≤ 7 → (cnt s f p cs).1.length ≤ 7 := by
  induction f with
  | zero => intro p cs h; exact h
  | succ f ih =>
    intro p cs h
    rw [cnt]
    split
    · split
      · exact ih _ _ (by rw [bump_length]; exact h)
      · simp
    · exact h
theorem cntS_len (s : ByteArray) : (cntS s).1.length ≤ 7 := cnt_len s _ _ _ (by decide)
end Go.Proofs.Ytidiiodcpfdnfaa
