/-
  What the functions that the law reaches compute, and that they do. No condition.
-/
import Derived.Test.YtpobpihakgegbaaAnSX
import Derived.Test.YtpobpihakgegbaaAnSY
import Derived.Test.YtpobpihakgegbaaAnSR
namespace Go.Proofs.Ytpobpihakgegbaa.AM
open Go Go.Proofs Go.RowKit
set_option linter.unusedVariables false
set_option linter.unusedSimpArgs false
set_option maxRecDepth 100000

/- tables of unit cells: put, the region of a table, its cells -/
/-- a unit cell of the chip that a rectangle has -/
def inG (r : TRect) (i j : Nat) : Bool := decide (i < 80 ∧ j < 80 ∧ r.fY0 ≤ (i : Int) - 40 ∧ (i : Int) - 40 < r.fY1 ∧ r.fX0 ≤ (j : Int) - 40 ∧ (j : Int) - 40 < r.fX1)
def orG (G H : Nat → Nat → Bool) : Nat → Nat → Bool := fun i j => G i j || H i j
theorem while_rng {β : Type} {st : Int × β → Option ((Int × β) ⊕ β)} (lo hi : Int) (F : Int → β) (h : ∀ v, lo ≤ v → v < hi → st (v, F v) = some (.inl (v + 1, F (v + 1)))) (he : ∀ v b, ¬ v < hi → st (v, b) = some (.inr b)) :
    whileP st (lo, F lo) = some (F (max lo hi)) := by
  refine while_from (fun n : Nat => (lo + (n : Int), F (lo + (n : Int)))) (hi - lo).toNat (by simp) (fun i hi' => ?_) ?_
  · have e : lo + (i : Int) + 1 = lo + ((i + 1 : Nat) : Int) := by omega
    rw [h _ (by omega) (by omega), e]
  · have e : lo + ((hi - lo).toNat : Int) = max lo hi := by omega
    rw [he _ _ (by omega), e]
theorem put_row (r : TRect) (G : Nat → Nat → Bool) (y : Int) (hy : -40 ≤ y) (hy2 : y < 40) : whileP (L_impl_cells_put_mAb_x17 r y) (std.imax r.fX0 (-40), G) =
    some (fun i j => G i j || decide ((i : Int) - 40 = y ∧ max r.fX0 (-40) ≤ (j : Int) - 40 ∧ (j : Int) - 40 < max (max r.fX0 (-40)) (min r.fX1 40))) := by
  have e0 : G = (fun v => fun (i j : Nat) => G i j || decide ((i : Int) - 40 = y ∧ max r.fX0 (-40) ≤ (j : Int) - 40 ∧ (j : Int) - 40 < v)) (max r.fX0 (-40)) := by
    funext i j
    dsimp only
    rw [decide_eq_false (by omega), Bool.or_false]
  rw [s_imax]
  conv => lhs; rw [e0]
  refine while_rng (max r.fX0 (-40)) (min r.fX1 40) (fun v => fun (i j : Nat) => G i j || decide ((i : Int) - 40 = y ∧ max r.fX0 (-40) ≤ (j : Int) - 40 ∧ (j : Int) - 40 < v)) (fun v h1 h2 => ?_) (fun v b h => ?_)
  · simp only [L_impl_cells_put_mAb_x17, letO_eq, s_imin]
    rw [lt_true h2, br_t, add_id (by omega) (by omega), add_id (by omega) (by omega), add_id (by omega) (by omega), req_of ⟨by omega, by omega⟩, req_of ⟨by omega, by omega⟩]
    congr 3
    funext i j
    unfold setG
    rw [s_nadd, s_nadd, s_toN, s_toN]
    by_cases hc : i = 0 + (y + 40).toNat ∧ j = 0 + (v + 40).toNat
    · rw [if_pos hc, decide_eq_true (by omega), Bool.or_true]
    · rw [if_neg hc]
      dsimp only
      congr 1
      rw [Bool.eq_iff_iff, decide_eq_true_eq, decide_eq_true_eq]
      omega
  · simp only [L_impl_cells_put_mAb_x17, letO_eq, s_imin]
    rw [lt_false h, br_f]
theorem put_ok (G : Nat → Nat → Bool) (r : TRect) : F_impl_cells_put_mAb G r = some (orG G (inG r)) := by
  unfold F_impl_cells_put_mAb
  have e0 : G = (fun v => fun (i j : Nat) => G i j || decide (max r.fX0 (-40) ≤ (j : Int) - 40 ∧ (j : Int) - 40 < min r.fX1 40 ∧ max r.fY0 (-40) ≤ (i : Int) - 40 ∧ (i : Int) - 40 < v)) (max r.fY0 (-40)) := by
    funext i j
    dsimp only
    rw [decide_eq_false (by omega), Bool.or_false]
  rw [s_imax]
  conv => lhs; rw [e0]
  rw [while_rng (max r.fY0 (-40)) (min r.fY1 40) (fun v => fun (i j : Nat) => G i j || decide (max r.fX0 (-40) ≤ (j : Int) - 40 ∧ (j : Int) - 40 < min r.fX1 40 ∧ max r.fY0 (-40) ≤ (i : Int) - 40 ∧ (i : Int) - 40 < v)) (fun v h1 h2 => ?_) (fun v b h => ?_), Option.bind_some]
  · simp only [letO_eq]
    congr 1
    funext i j
    unfold orG inG
    congr 1
    rw [Bool.eq_iff_iff, decide_eq_true_eq, decide_eq_true_eq]
    omega
  · simp only [L_impl_cells_put_mAb_x3, letO_eq, s_imin]
    rw [lt_true h2, br_t, put_row _ _ _ (by omega) (by omega), Option.bind_some, add_id (by omega) (by omega)]
    congr 3
    funext i j
    rw [Bool.or_assoc]
    congr 1
    rw [Bool.eq_iff_iff, Bool.or_eq_true, decide_eq_true_eq, decide_eq_true_eq, decide_eq_true_eq]
    omega
  · simp only [L_impl_cells_put_mAb_x3, letO_eq, s_imin]
    rw [lt_false h, br_f]
/-- the cells of some rectangles -/
def cover (l : List TRect) : Nat → Nat → Bool := fun i j => l.any fun r => inG r i j
theorem cover_nil : cover [] = zeroG := rfl
theorem cover_snoc (l : List TRect) (r : TRect) : orG (cover l) (inG r) = cover (l ++ [r]) := by
  funext i j
  unfold orG cover
  rw [List.any_append, List.any_cons, List.any_nil, Bool.or_false]
/-- no cell but those of the chip -/
def Clamp (G : Nat → Nat → Bool) : Prop := ∀ i j, G i j = true → i < 80 ∧ j < 80
theorem cover_clamp (l : List TRect) : Clamp (cover l) := by
  intro i j h
  unfold cover at h
  obtain ⟨r, _, h⟩ := List.any_eq_true.1 h
  unfold inG at h
  rw [decide_eq_true_eq] at h
  exact ⟨h.1, h.2.1⟩
/-- the first place from x on, at most n of them, where f fails -/
def endR (f : Nat → Bool) : Nat → Nat → Nat
  | 0, x => x
  | n + 1, x => if f x then endR f n (x + 1) else x
theorem endR_ge (f : Nat → Bool) : ∀ n x, x ≤ endR f n x
  | 0, x => Nat.le_refl _
  | n + 1, x => by
    unfold endR
    split
    · have := endR_ge f n (x + 1); omega
    · exact Nat.le_refl _
theorem endR_le (f : Nat → Bool) : ∀ n x, endR f n x ≤ x + n
  | 0, x => Nat.le_refl _
  | n + 1, x => by
    unfold endR
    split
    · have := endR_le f n (x + 1); omega
    · omega
theorem endR_in (f : Nat → Bool) : ∀ n x j, x ≤ j → j < endR f n x → f j = true
  | 0, x, j, h1, h2 => by unfold endR at h2; omega
  | n + 1, x, j, h1, h2 => by
    unfold endR at h2
    split at h2
    · rename_i hf
      by_cases hj : j = x
      · subst hj; exact hf
      · exact endR_in f n (x + 1) j (by omega) h2
    · omega
theorem endR_out (f : Nat → Bool) : ∀ n x, endR f n x = x + n ∨ f (endR f n x) = false
  | 0, x => .inl rfl
  | n + 1, x => by
    unfold endR
    split
    · rcases endR_out f n (x + 1) with h | h
      · left; omega
      · exact .inr h
    · rename_i hf; exact .inr (by simpa using hf)
theorem endR_pos (f : Nat → Bool) (n x : Nat) (hn : 0 < n) (hf : f x = true) : x < endR f n x := by
  obtain ⟨m, rfl⟩ : ∃ m, n = m + 1 := ⟨n - 1, by omega⟩
  unfold endR
  rw [if_pos hf]
  have := endR_ge f m (x + 1); omega
/-- the runs of a row from x on -/
def runsF (f : Nat → Bool) : Nat → Nat → List (Nat × Nat)
  | 0, _ => []
  | n + 1, x => if 80 ≤ x then [] else if f x then (x, endR f (80 - x) x) :: runsF f n (endR f (80 - x) x + 1) else runsF f n (x + 1)
theorem runsF_len (f : Nat → Bool) : ∀ n x, x ≤ 81 → 2 * (runsF f n x).length ≤ 81 - x
  | 0, x, _ => by simp [runsF]
  | n + 1, x, hx => by
    unfold runsF
    split
    · simp
    · split
      · rename_i h1 h2
        have h3 := endR_pos f (80 - x) x (by omega) h2
        have h4 := endR_le f (80 - x) x
        have h5 := runsF_len f n (endR f (80 - x) x + 1) (by omega)
        rw [List.length_cons]; omega
      · have h5 := runsF_len f n (x + 1) (by omega)
        omega
theorem runsF_ok (f : Nat → Bool) : ∀ n x, ∀ p ∈ runsF f n x, x ≤ p.1 ∧ p.1 < p.2 ∧ p.2 ≤ 80
  | 0, x, p, h => by cases h
  | n + 1, x, p, h => by
    unfold runsF at h
    split at h
    · cases h
    · split at h
      · rename_i h1 h2
        have h3 := endR_pos f (80 - x) x (by omega) h2
        have h4 := endR_le f (80 - x) x
        rcases List.mem_cons.1 h with rfl | h
        · exact ⟨Nat.le_refl _, h3, by simp only; omega⟩
        · have := runsF_ok f n _ p h; omega
      · have := runsF_ok f n _ p h; omega
theorem runsF_cover (f : Nat → Bool) : ∀ n x, 81 ≤ x + n → ∀ j, j < 80 → ((∃ p ∈ runsF f n x, p.1 ≤ j ∧ j < p.2) ↔ (x ≤ j ∧ f j = true))
  | 0, x, hx, j, hj => by
    unfold runsF
    constructor
    · rintro ⟨p, hp, _⟩; cases hp
    · rintro ⟨h, _⟩; omega
  | n + 1, x, hx, j, hj => by
    unfold runsF
    split
    · constructor
      · rintro ⟨p, hp, _⟩; cases hp
      · rintro ⟨h, _⟩; omega
    · split
      · rename_i h1 h2
        have h3 := endR_pos f (80 - x) x (by omega) h2
        have h4 := endR_le f (80 - x) x
        have ih := runsF_cover f n (endR f (80 - x) x + 1) (by omega) j hj
        constructor
        · rintro ⟨p, hp, hq⟩
          rcases List.mem_cons.1 hp with rfl | hp
          · exact ⟨hq.1, endR_in f _ _ _ hq.1 hq.2⟩
          · obtain ⟨h5, h6⟩ := ih.1 ⟨p, hp, hq⟩
            exact ⟨by omega, h6⟩
        · rintro ⟨h5, h6⟩
          by_cases h7 : j < endR f (80 - x) x
          · exact ⟨_, List.mem_cons_self, h5, h7⟩
          · have h8 : j ≠ endR f (80 - x) x := by
              intro h9
              rcases endR_out f (80 - x) x with h10 | h10
              · omega
              · rw [← h9, h6] at h10; cases h10
            obtain ⟨p, hp, hq⟩ := ih.2 ⟨by omega, h6⟩
            exact ⟨p, List.mem_cons_of_mem _ hp, hq⟩
      · rename_i h1 h2
        have ih := runsF_cover f n (x + 1) (by omega) j hj
        rw [ih]
        constructor
        · rintro ⟨h5, h6⟩; exact ⟨by omega, h6⟩
        · rintro ⟨h5, h6⟩
          refine ⟨?_, h6⟩
          rcases Nat.lt_or_ge x j with h7 | h7
          · exact h7
          · have : j = x := by omega
            subst this; exact (h2 h6).elim
/-- two rows are alike -/
noncomputable def rowEq (G : Nat → Nat → Bool) (a b : Nat) : Bool := std.beqs (rowG 80 G a) (rowG 80 G b)
theorem rowEq_iff (G : Nat → Nat → Bool) (a b : Nat) : rowEq G a b = true ↔ ∀ j, j < 80 → G a j = G b j := by
  unfold rowEq
  show (rowG 80 G a == rowG 80 G b) = true ↔ _
  rw [beq_iff_eq]
  unfold rowG
  constructor
  · intro h j hj
    have := congrArg (fun l : List Bool => l[j]?) h
    simpa [List.getElem?_range hj] using this
  · intro h
    apply List.map_congr_left
    intro j hj
    exact h j (List.mem_range.1 hj)
def mkR (y e : Nat) (p : Nat × Nat) : TRect := ⟨(p.1 : Int) - 40, (y : Int) - 40, (p.2 : Int) - 40, (e : Int) - 40⟩
/-- the region of a table, from the row y on -/
noncomputable def regF (G : Nat → Nat → Bool) : Nat → Nat → List TRect
  | 0, _ => []
  | n + 1, y => if 80 ≤ y then [] else (runsF (G y) 81 0).map (mkR y (endR (fun e => rowEq G e y) (80 - (y + 1)) (y + 1))) ++ regF G n (endR (fun e => rowEq G e y) (80 - (y + 1)) (y + 1))
noncomputable def regn (G : Nat → Nat → Bool) : List TRect := regF G 80 0
theorem regF_len (G : Nat → Nat → Bool) : ∀ n y, y ≤ 80 → (regF G n y).length ≤ 40 * (80 - y)
  | 0, y, _ => by simp [regF]
  | n + 1, y, hy => by
    unfold regF
    split
    · simp
    · have h1 := endR_ge (fun e => rowEq G e y) (80 - (y + 1)) (y + 1)
      have h2 := endR_le (fun e => rowEq G e y) (80 - (y + 1)) (y + 1)
      have h3 := regF_len G n (endR (fun e => rowEq G e y) (80 - (y + 1)) (y + 1)) (by omega)
      have h4 := runsF_len (G y) 81 0 (by omega)
      rw [List.length_append, List.length_map]
      omega
theorem regn_len (G : Nat → Nat → Bool) : (regn G).length ≤ 3200 := regF_len G 80 0 (by omega)
theorem regF_ok (G : Nat → Nat → Bool) : ∀ n y, y ≤ 80 → ∀ r ∈ regF G n y, (y : Int) - 40 ≤ r.fY0 ∧ r.fY0 < r.fY1 ∧ r.fY1 ≤ 40 ∧ -40 ≤ r.fX0 ∧ r.fX0 < r.fX1 ∧ r.fX1 ≤ 40
  | 0, y, _, r, h => by cases h
  | n + 1, y, hy, r, h => by
    unfold regF at h
    split at h
    · cases h
    · have h1 := endR_ge (fun e => rowEq G e y) (80 - (y + 1)) (y + 1)
      have h2 := endR_le (fun e => rowEq G e y) (80 - (y + 1)) (y + 1)
      rcases List.mem_append.1 h with h | h
      · obtain ⟨p, hp, rfl⟩ := List.mem_map.1 h
        have h3 := runsF_ok _ _ _ p hp
        unfold mkR
        simp only
        omega
      · have := regF_ok G n _ (by omega) r h; omega
theorem regF_cover (G : Nat → Nat → Bool) (hG : Clamp G) : ∀ n y, 80 ≤ y + n → ∀ i j, (∃ r ∈ regF G n y, inG r i j = true) ↔ (y ≤ i ∧ G i j = true)
  | 0, y, hy, i, j => by
    unfold regF
    constructor
    · rintro ⟨p, hp, _⟩; cases hp
    · rintro ⟨h1, h2⟩; have := hG i j h2; omega
  | n + 1, y, hy, i, j => by
    unfold regF
    split
    · constructor
      · rintro ⟨p, hp, _⟩; cases hp
      · rintro ⟨h1, h2⟩; have := hG i j h2; omega
    · rename_i hy8
      obtain ⟨e, he⟩ : ∃ e, e = endR (fun e => rowEq G e y) (80 - (y + 1)) (y + 1) := ⟨_, rfl⟩
      have h1 := endR_ge (fun e => rowEq G e y) (80 - (y + 1)) (y + 1)
      have h2 := endR_le (fun e => rowEq G e y) (80 - (y + 1)) (y + 1)
      have hin : ∀ k, y + 1 ≤ k → k < e → ∀ x, x < 80 → G k x = G y x := fun k h3 h4 => (rowEq_iff G k y).1 (endR_in (fun e => rowEq G e y) _ _ k h3 (by rw [← he]; exact h4))
      rw [← he] at h1 h2 ⊢
      have ih := regF_cover G hG n e (by omega) i j
      have hrow : ∀ k, y ≤ k → k < e → ∀ x, x < 80 → G k x = G y x := by
        intro k h3 h4 x hx
        by_cases h5 : k = y
        · rw [h5]
        · exact hin k (by omega) h4 x hx
      constructor
      · rintro ⟨r, hr, hi⟩
        rcases List.mem_append.1 hr with hr | hr
        · obtain ⟨p, hp, rfl⟩ := List.mem_map.1 hr
          unfold inG mkR at hi
          rw [decide_eq_true_eq] at hi
          simp only at hi
          have h5 := (runsF_cover (G y) 81 0 (by omega) j hi.2.1).1 ⟨p, hp, by omega, by omega⟩
          exact ⟨by omega, by rw [hrow i (by omega) (by omega) j hi.2.1]; exact h5.2⟩
        · obtain ⟨h5, h6⟩ := ih.1 ⟨r, hr, hi⟩
          exact ⟨by omega, h6⟩
      · rintro ⟨h5, h6⟩
        obtain ⟨h7, h8⟩ := hG i j h6
        by_cases h9 : i < e
        · obtain ⟨p, hp, hq⟩ := (runsF_cover (G y) 81 0 (by omega) j h8).2 ⟨by omega, by rw [← hrow i h5 h9 j h8]; exact h6⟩
          refine ⟨_, List.mem_append_left _ (List.mem_map.2 ⟨p, hp, rfl⟩), ?_⟩
          unfold inG mkR
          rw [decide_eq_true_eq]
          simp only
          omega
        · obtain ⟨r, hr, hi⟩ := ih.2 ⟨by omega, h6⟩
          exact ⟨r, List.mem_append_right _ hr, hi⟩
theorem cover_regn {G : Nat → Nat → Bool} (hG : Clamp G) : cover (regn G) = G := by
  funext i j
  rw [Bool.eq_iff_iff]
  unfold cover
  rw [List.any_eq_true]
  have := regF_cover G hG 80 0 (by omega) i j
  constructor
  · rintro ⟨r, hr, h⟩; exact (this.1 ⟨r, hr, h⟩).2
  · intro h; obtain ⟨r, hr, h⟩ := this.2 ⟨by omega, h⟩; exact ⟨r, hr, h⟩
/- the walks -/
theorem endR_loop (G : Nat → Nat → Bool) (y : Nat) (hy : y < 80) : ∀ n x : Nat, x + n = 80 → whileP (L_impl_cells_region_mA_x59 G y) (x : Int) = some ((endR (G y) n x : Nat) : Int)
  | 0, x, h => by
    rw [whileP_unfold]
    simp only [L_impl_cells_region_mA_x59, letO_eq]
    rw [lt_false (by omega), br_f, Option.bind_some, br_f]
    rfl
  | n + 1, x, h => by
    rw [whileP_unfold]
    simp only [L_impl_cells_region_mA_x59, letO_eq]
    rw [lt_true (by omega), br_t, req_of (inRn hy), req_of (inRn (by omega)), Option.bind_some, s_nadd, s_nadd, s_toNn, s_toNn, Nat.zero_add, Nat.zero_add]
    unfold endR
    cases hg : G y x with
    | false => rw [br_f, if_neg (by simp)]
    | true =>
      rw [br_t, inc_nat (by omega), if_pos rfl]
      exact endR_loop G y hy n (x + 1) (by omega)
theorem runs_loop (G : Nat → Nat → Bool) (y e : Nat) (hy : y < 80) (he : e ≤ 80) : ∀ (n x : Nat) (acc : List TRect), 81 ≤ x + n → x ≤ 81 → acc.length + n ≤ 1000000 →
    whileP (L_impl_cells_region_mA_x44 G y e) ((x : Int), acc) = some (acc ++ (runsF (G y) n x).map (mkR y e))
  | 0, x, acc, h, hx, ha => by
    rw [whileP_unfold]
    simp only [L_impl_cells_region_mA_x44, letO_eq]
    rw [lt_false (by omega), br_f]
    simp [runsF]
  | n + 1, x, acc, h, hx, ha => by
    rw [whileP_unfold]
    simp only [L_impl_cells_region_mA_x44, letO_eq]
    unfold runsF
    by_cases h8 : 80 ≤ x
    · rw [lt_false (by omega), br_f, if_pos h8]
      simp
    · rw [lt_true (by omega), br_t, req_of (inRn hy), req_of (inRn (by omega)), s_nadd, s_nadd, s_toNn, s_toNn, Nat.zero_add, Nat.zero_add, if_neg h8]
      cases hg : G y x with
      | false =>
        rw [Bool.not_false, br_t, inc_nat (by omega), if_neg (by simp)]
        exact runs_loop G y e hy he n (x + 1) acc (by omega) (by omega) (by omega)
      | true =>
        have h3 := endR_pos (G y) (80 - x) x (by omega) hg
        have h4 := endR_le (G y) (80 - x) x
        rw [Bool.not_true, br_f, endR_loop G y hy (80 - x) x (by omega), Option.bind_some, req_of (by rw [s_room, s_nadd, len_eq, len_eq, List.length_singleton]; omega), inc_nat (by omega), sub_id (by omega) (by omega), sub_id (by omega) (by omega), sub_id (by omega) (by omega), sub_id (by omega) (by omega), if_pos rfl, List.map_cons]
        have := runs_loop G y e hy he n (endR (G y) (80 - x) x + 1) (acc ++ [mkR y e (x, endR (G y) (80 - x) x)]) (by omega) (by omega) (by rw [List.length_append, List.length_singleton]; omega)
        rw [List.append_assoc] at this
        exact this
theorem rows_loop (G : Nat → Nat → Bool) (y : Nat) (hy : y < 80) : ∀ n x : Nat, x + n = 80 → whileP (L_impl_cells_region_mA_x18 G y) (x : Int) = some ((endR (fun e => rowEq G e y) n x : Nat) : Int)
  | 0, x, h => by
    rw [whileP_unfold]
    simp only [L_impl_cells_region_mA_x18, letO_eq]
    rw [lt_false (by omega), br_f, Option.bind_some, br_f]
    rfl
  | n + 1, x, h => by
    rw [whileP_unfold]
    simp only [L_impl_cells_region_mA_x18, letO_eq]
    rw [lt_true (by omega), br_t, req_of (inRn (by omega)), req_of (inRn hy), Option.bind_some, s_nadd, s_nadd, s_toNn, s_toNn, Nat.zero_add, Nat.zero_add]
    unfold endR
    cases hg : rowEq G x y with
    | false =>
      unfold rowEq at hg
      rw [hg, br_f, if_neg (by simp)]
    | true =>
      have hg' := hg
      unfold rowEq at hg'
      rw [hg', br_t, inc_nat (by omega), if_pos rfl]
      exact rows_loop G y hy n (x + 1) (by omega)
theorem reg_loop (G : Nat → Nat → Bool) : ∀ (n y : Nat) (acc : List TRect), 80 ≤ y + n → y ≤ 80 → acc.length + 40 * (80 - y) ≤ 900000 → whileP (L_impl_cells_region_mA_x5 G) ((y : Int), acc) = some (acc ++ regF G n y)
  | 0, y, acc, h, hy, ha => by
    rw [whileP_unfold]
    simp only [L_impl_cells_region_mA_x5, letO_eq]
    rw [lt_false (by omega), br_f]
    simp [regF]
  | n + 1, y, acc, h, hy, ha => by
    rw [whileP_unfold]
    simp only [L_impl_cells_region_mA_x5, letO_eq]
    unfold regF
    by_cases h8 : 80 ≤ y
    · rw [lt_false (by omega), br_f, if_pos h8]
      simp
    · have h1 := endR_ge (fun e => rowEq G e y) (80 - (y + 1)) (y + 1)
      have h2 := endR_le (fun e => rowEq G e y) (80 - (y + 1)) (y + 1)
      have h4 := runsF_len (G y) 81 0 (by omega)
      rw [lt_true (by omega), br_t, inc_nat (by omega), rows_loop G y (by omega) (80 - (y + 1)) (y + 1) (by omega), Option.bind_some, show ((0 : Int)) = ((0 : Nat) : Int) from rfl, runs_loop G y _ (by omega) (by omega) 81 0 acc (by omega) (by omega) (by omega), Option.bind_some, if_neg h8]
      have := reg_loop G n (endR (fun e => rowEq G e y) (80 - (y + 1)) (y + 1)) (acc ++ (runsF (G y) 81 0).map (mkR y (endR (fun e => rowEq G e y) (80 - (y + 1)) (y + 1)))) (by omega) (by omega) (by rw [List.length_append, List.length_map]; omega)
      rw [List.append_assoc] at this
      exact this
theorem region_ok (G : Nat → Nat → Bool) : F_impl_cells_region_mA G = some (regn G, G) := by
  have h := reg_loop G 80 0 [] (by omega) (by omega) (by simp)
  rw [List.nil_append] at h
  unfold F_impl_cells_region_mA regn
  simp only [letO_eq]
  rw [show ((0 : Int)) = ((0 : Nat) : Int) from rfl, h, Option.bind_some]
/- the part in a window; a region is a region; clip; union -/
def cutR (wd r : TRect) : TRect := ⟨max r.fX0 wd.fX0, max r.fY0 wd.fY0, min r.fX1 wd.fX1, min r.fY1 wd.fY1⟩
theorem common_ok (r wd : TRect) : F_impl_common r wd = some (cutR wd r) := by
  unfold F_impl_common cutR
  rw [s_imax, s_imax, s_imin, s_imin]
def andG (G H : Nat → Nat → Bool) : Nat → Nat → Bool := fun i j => G i j && H i j
theorem cover_iff {l : List TRect} {i j : Nat} : cover l i j = true ↔ ∃ r ∈ l, inG r i j = true := List.any_eq_true
theorem inG_iff {r : TRect} {i j : Nat} : inG r i j = true ↔ (i < 80 ∧ j < 80 ∧ r.fY0 ≤ (i : Int) - 40 ∧ (i : Int) - 40 < r.fY1 ∧ r.fX0 ≤ (j : Int) - 40 ∧ (j : Int) - 40 < r.fX1) := by unfold inG; rw [decide_eq_true_eq]
theorem inG_cut {wd r : TRect} {i j : Nat} : inG (cutR wd r) i j = true ↔ (inG r i j = true ∧ inG wd i j = true) := by
  rw [inG_iff, inG_iff, inG_iff]
  unfold cutR
  simp only
  omega
theorem cover_cut (wd : TRect) (l : List TRect) : cover (l.map (cutR wd)) = andG (cover l) (inG wd) := by
  funext i j
  rw [Bool.eq_iff_iff]
  unfold andG
  rw [Bool.and_eq_true, cover_iff, cover_iff]
  constructor
  · rintro ⟨r, hr, h⟩
    obtain ⟨q, hq, rfl⟩ := List.mem_map.1 hr
    obtain ⟨h1, h2⟩ := inG_cut.1 h
    exact ⟨⟨q, hq, h1⟩, h2⟩
  · rintro ⟨⟨r, hr, h1⟩, h2⟩
    exact ⟨_, List.mem_map.2 ⟨r, hr, rfl⟩, inG_cut.2 ⟨h1, h2⟩⟩
/-- what does not overlap the window has no part in it -/
theorem cover_ovl (wd : TRect) (l : List TRect) : cover ((l.filter fun r => ovlG r wd).map (cutR wd)) = andG (cover l) (inG wd) := by
  rw [← cover_cut]
  funext i j
  rw [Bool.eq_iff_iff, cover_iff, cover_iff]
  constructor
  · rintro ⟨r, hr, h⟩
    obtain ⟨q, hq, rfl⟩ := List.mem_map.1 hr
    exact ⟨_, List.mem_map.2 ⟨q, (List.mem_filter.1 hq).1, rfl⟩, h⟩
  · rintro ⟨r, hr, h⟩
    obtain ⟨q, hq, rfl⟩ := List.mem_map.1 hr
    refine ⟨_, List.mem_map.2 ⟨q, List.mem_filter.2 ⟨hq, ?_⟩, rfl⟩, h⟩
    obtain ⟨h1, h2⟩ := inG_cut.1 h
    rw [inG_iff] at h1 h2
    rw [ovlG_iff]
    omega
theorem and_clamp {G H : Nat → Nat → Bool} (h : Clamp G) : Clamp (andG G H) := by
  intro i j hij
  unfold andG at hij
  rw [Bool.and_eq_true] at hij
  exact h i j hij.1
theorem take_snocG {α : Type} [Inhabited α] {l : List α} {i : Nat} (h : i < l.length) : l.take (i + 1) = l.take i ++ [gd l i] := by
  rw [gd_lt h, List.take_add_one, List.getElem?_eq_getElem h]; rfl
theorem cellsOf_ok (l : List TRect) (hl : l.length ≤ 10000000) : F_impl_cellsOf l = some (cover l) := by
  unfold F_impl_cellsOf
  rw [while_from (fun i => ((i : Int), cover (l.take i))) l.length (r := cover l) (by simp [cover_nil]) (fun i hi => ?_) ?_, Option.bind_some]
  · rfl
  · simp only [L_impl_cellsOf_x3, letO_eq]
    rw [ltl_f, br_f, List.take_length]
  · simp only [L_impl_cellsOf_x3, letO_eq]
    rw [ltl_t hi, br_t, req_of (inRl hi), s_toNn, put_ok, Option.bind_some, inc_nat (by omega), cover_snoc, take_snocG hi]
theorem eqRects_ok (l : List TRect) (h : l.length ≤ 10000000) : F_slices_Equal_Limpl_Rect_impl_Rect l l = some true := by
  unfold F_slices_Equal_Limpl_Rect_impl_Rect
  rw [notEq (eq_true' rfl), br_f, while_eq (r := .inr ()) l.length (fun i hi => by
    simp only [L_slices_Equal_Limpl_Rect_impl_Rect_x2, letO_eq, s_toNn]
    rw [ltl_t hi, br_t, req_of (inRl hi), req_of (inRl hi), show std.not (std.band (std.eq (gd l i).fX0 (gd l i).fX0) (std.band (std.eq (gd l i).fY0 (gd l i).fY0) (std.band (std.eq (gd l i).fX1 (gd l i).fX1) (std.band (std.eq (gd l i).fY1 (gd l i).fY1) true)))) = false by
      rw [eq_true' rfl, eq_true' rfl, eq_true' rfl, eq_true' rfl]; rfl, br_f, inc_nat (by omega)]) (by
    simp only [L_slices_Equal_Limpl_Rect_impl_Rect_x2, letO_eq]
    rw [ltl_f, br_f]), Option.bind_some]
theorem sameRects_okG (l : List TRect) (h : l.length ≤ 10000000) : F_laws_sameRects l l = some true := by
  unfold F_laws_sameRects
  rw [notEq (eq_true' rfl), br_f, while_eq (r := .inr ()) l.length (fun i hi => by
    simp only [L_laws_sameRects_x2, letO_eq, s_toNn]
    rw [ltl_t hi, br_t, req_of (inRl hi), req_of (inRl hi), show std.not (std.band (std.eq (gd l i).fX0 (gd l i).fX0) (std.band (std.eq (gd l i).fY0 (gd l i).fY0) (std.band (std.eq (gd l i).fX1 (gd l i).fX1) (std.band (std.eq (gd l i).fY1 (gd l i).fY1) true)))) = false by
      rw [eq_true' rfl, eq_true' rfl, eq_true' rfl, eq_true' rfl]; rfl, br_f, inc_nat (by omega)]) (by
    simp only [L_laws_sameRects_x2, letO_eq]
    rw [ltl_f, br_f]), Option.bind_some]
theorem regn_okRect (G : Nat → Nat → Bool) : ∀ r ∈ regn G, okRect r = true := by
  intro r hr
  have := regF_ok G 80 0 (by omega) r hr
  rw [okRect_iff]
  omega
theorem validRects_ok (l : List TRect) (hl : l.length ≤ 3200) (h : ∀ r ∈ l, okRect r = true) : F_impl_validRects l = some true := by
  unfold F_impl_validRects
  rw [lt_false (by rw [s_ofN, len_eq]; omega), br_f, while_eq (r := .inr ()) l.length (fun i hi => by
    simp only [L_impl_validRects_x2, letO_eq, s_toNn]
    rw [ltl_t hi, br_t, req_of (inRl hi), impl_IsValidRect_ok, Option.bind_some, h _ (gd_mem hi), Bool.not_true, br_f, inc_nat (by omega)]) (by
    simp only [L_impl_validRects_x2, letO_eq]
    rw [ltl_f, br_f]), Option.bind_some]
theorem isRegion_ok {G : Nat → Nat → Bool} (hG : Clamp G) : F_impl_IsRegion (regn G) = some true := by
  have hl := regn_len G
  unfold F_impl_IsRegion
  rw [validRects_ok _ hl (regn_okRect G), Option.bind_some, br_t, cellsOf_ok _ (by omega), Option.bind_some, cover_regn hG, region_ok, Option.bind_some]
  simp only
  rw [eqRects_ok _ (by omega)]
  rfl
theorem union1_ok (a b : Bool) : F_impl_Union_1 a b = some (a || b) := by
  unfold F_impl_Union_1
  cases a <;> rfl
theorem comb_row (X Y : Nat → Nat → Bool) (y : Nat) (hy : y < 80) (Z : Nat → Nat → Bool) : whileP (L_impl_combine_mbbFimpl_Union_1_x33 X Y y) (0, Z) =
    some (fun i j => if i = y ∧ j < 80 then orG X Y i j else Z i j) := by
  refine while_from (fun n : Nat => ((n : Int), fun i j => if i = y ∧ j < n then orG X Y i j else Z i j)) 80 ?_ (fun n hn => ?_) ?_
  · congr 1
    try (funext i j; rw [if_neg (by omega)])
  · simp only [L_impl_combine_mbbFimpl_Union_1_x33, letO_eq]
    rw [lt_true (by omega), br_t, req_of (inRn hy), req_of (inRn hn), req_of (inRn hy), req_of (inRn hn), union1_ok, Option.bind_some, req_of (inRn hy), req_of (inRn hn), inc_nat (by omega), s_nadd, s_nadd, s_toNn, s_toNn, Nat.zero_add, Nat.zero_add]
    congr 3
    funext i j
    unfold setG
    by_cases h : i = y ∧ j = n
    · obtain ⟨rfl, rfl⟩ := h
      rw [if_pos ⟨rfl, rfl⟩, if_pos ⟨rfl, by omega⟩]
      rfl
    · rw [if_neg h]
      dsimp only
      by_cases h2 : i = y ∧ j < n
      · rw [if_pos h2, if_pos (by omega)]
      · rw [if_neg h2, if_neg (by omega)]
  · simp only [L_impl_combine_mbbFimpl_Union_1_x33, letO_eq]
    rw [lt_false (by omega), br_f]
theorem comb_all (X Y : Nat → Nat → Bool) (hX : Clamp X) (hY : Clamp Y) : whileP (L_impl_combine_mbbFimpl_Union_1_x19 X Y) (0, zeroG) = some (orG X Y) := by
  have e : orG X Y = fun i j => if i < 80 ∧ j < 80 then orG X Y i j else false := by
    funext i j
    by_cases h : i < 80 ∧ j < 80
    · rw [if_pos h]
    · rw [if_neg h]
      unfold orG
      cases hx : X i j with
      | true => exact (h (hX i j hx)).elim
      | false =>
        cases hyy : Y i j with
        | true => exact (h (hY i j hyy)).elim
        | false => rfl
  conv => rhs; rw [e]
  refine while_from (fun n : Nat => ((n : Int), fun i j => if i < n ∧ j < 80 then orG X Y i j else false)) 80 ?_ (fun n hn => ?_) ?_
  · congr 1
    try (funext i j; rw [if_neg (by omega)]; try rfl)
  · simp only [L_impl_combine_mbbFimpl_Union_1_x19, letO_eq]
    rw [lt_true (by omega), br_t, comb_row X Y n hn, Option.bind_some, inc_nat (by omega)]
    congr 3
    funext i j
    by_cases h : i = n ∧ j < 80
    · rw [if_pos h, if_pos (by omega)]
    · rw [if_neg h]
      try dsimp only
      by_cases h2 : i < n ∧ j < 80
      · rw [if_pos h2, if_pos (by omega)]
      · rw [if_neg h2, if_neg (by omega)]
  · simp only [L_impl_combine_mbbFimpl_Union_1_x19, letO_eq]
    rw [lt_false (by omega), br_f]
theorem union_ok {X Y : Nat → Nat → Bool} (hX : Clamp X) (hY : Clamp Y) : F_impl_Union (regn X) (regn Y) = some (regn (orG X Y)) := by
  have h1 := regn_len X
  have h2 := regn_len Y
  unfold F_impl_Union F_impl_combine_mbbFimpl_Union_1
  rw [isRegion_ok hX, Option.bind_some, Bool.not_true, br_f, isRegion_ok hY, Option.bind_some, Option.bind_some]
  simp only [letO_eq, Bool.not_true, br_f]
  rw [cellsOf_ok _ (by omega), Option.bind_some, cellsOf_ok _ (by omega), Option.bind_some, cover_regn hX, cover_regn hY, comb_all X Y hX hY, Option.bind_some, region_ok, Option.bind_some]
  rfl
/- the layers of a window, and the flattened layers -/
/-- the boxes on a layer -/
noncomputable def boxA (a : TLibrary) (y : Int) (o : TOccurrence) : List TRect := (gd a.fCells o.fCell.toNat).fShapes.flatMap fun s => if std.eq s.fLayer y then [mvR o.fPlace s.fBox] else []
theorem filt_fm {α : Type} (l : List α) (p : α → Bool) (f : α → TRect) (q : TRect → Bool) : (l.flatMap fun s => if p s then [f s] else []).filter q = l.flatMap fun s => if (p s && q (f s)) then [f s] else [] := by
  induction l with
  | nil => rfl
  | cons x r ih =>
    rw [List.flatMap_cons, List.flatMap_cons, List.filter_append, ih]
    congr 1
    cases p x with
    | false => rfl
    | true =>
      simp only [Bool.true_and, if_true]
      cases h : q (f x) <;> simp [h]
theorem boxF_filt (a : TLibrary) (y : Int) (wd : TRect) (o : TOccurrence) : boxF a y wd o = (boxA a y o).filter fun r => ovlG r wd := by
  unfold boxF boxA
  rw [filt_fm]
noncomputable def allB (a : TLibrary) (m : Nat) (y : Int) : List TRect := (allL a m 65).flatMap (boxA a y)
theorem fm_filt {α : Type} (l : List α) (f : α → List TRect) (q : TRect → Bool) : (l.flatMap f).filter q = l.flatMap fun s => (f s).filter q := by
  induction l with
  | nil => rfl
  | cons x r ih => rw [List.flatMap_cons, List.flatMap_cons, List.filter_append, ih]
/-- the boxes of the hits are those that overlap the window -/
theorem hit_boxes {a : TLibrary} (hv : okLib a = true) {m : Nat} (hm : m < a.fCells.length) (y : Int) (wd : TRect) : (hitL a (m : Int) y wd).map (fun h => h.fBox) = (allB a m y).filter fun r => ovlG r wd := by
  have hpr : (allL a m 65).flatMap (boxF a y wd) = (hitL a (m : Int) y wd).map fun h => h.fBox := by
    have := prune a hv y wd 65 64 (rootO m) (rootO_good a hv hm) (by show ((m : Int)).toNat < 65; have := (okLib_leG hv).2; omega) (by show ((m : Int)).toNat < 64; have := (okLib_leG hv).2; omega)
    unfold allL
    rw [this]
    unfold hitL visL
    rw [Int.toNat_natCast, List.map_flatMap]
    exact congrArg (fun f => List.flatMap f _) (funext fun o => (hits_box a y wd o).symm)
  rw [← hpr]
  unfold allB
  rw [fm_filt]
  exact congrArg (fun f => List.flatMap f _) (funext fun o => boxF_filt a y wd o)
/-- the cells on a layer -/
noncomputable def layG (a : TLibrary) (m : Nat) (y : Int) : Nat → Nat → Bool := cover (allB a m y)
theorem layG_clamp (a : TLibrary) (m : Nat) (y : Int) : Clamp (layG a m y) := cover_clamp _
theorem hits_cover {a : TLibrary} (hv : okLib a = true) {m : Nat} (hm : m < a.fCells.length) (y : Int) (wd : TRect) : cover ((hitL a (m : Int) y wd).map fun h => cutR wd h.fBox) = andG (layG a m y) (inG wd) := by
  have e : (hitL a (m : Int) y wd).map (fun h => cutR wd h.fBox) = ((hitL a (m : Int) y wd).map fun h => h.fBox).map (cutR wd) := by rw [List.map_map]; rfl
  rw [e, hit_boxes hv hm, cover_ovl]
  rfl
/-- is the limit of the hits kept on every layer -/
noncomputable def few (a : TLibrary) (m : Nat) (wd : TRect) : Bool := (List.range' 0 8).all fun y => decide ((hitL a (m : Int) (y : Int) wd).length ≤ 100)
noncomputable def laysW (a : TLibrary) (m : Nat) (wd : TRect) : List (List TRect) := (List.range' 0 8).flatMap fun y : Nat => [regn (andG (layG a m (y : Int)) (inG wd))]
noncomputable def wlR (a : TLibrary) (k : Int) (wd : TRect) : List (List TRect) × Int := if wCode a k 0 wd = 0 then (if few a k.toNat wd then (laysW a k.toNat wd, 0) else ([], 3)) else ([], wCode a k 0 wd)
theorem hit_len {a : TLibrary} (hv : okLib a = true) {m : Nat} (hm : m < a.fCells.length) (hcn : cnt a.fCells m ≤ 200) (y : Int) (wd : TRect) : (hitL a (m : Int) y wd).length ≤ 4800 := by
  unfold hitL
  rw [Int.toNat_natCast]
  exact hits_le hv y wd (visL_good a hv wd hm) (by have := visL_le a hv wd m hm; omega)
theorem put_hits (wd : TRect) (L : List TWindowHit) (hL : L.length ≤ 10000000) : whileP (L_impl_WindowLayers_x25 wd L) (0, zeroG, L) = some (cover (L.map fun h => cutR wd h.fBox)) := by
  refine while_from (fun i => ((i : Int), cover ((L.take i).map fun h => cutR wd h.fBox), L)) L.length (by simp [cover_nil]) (fun i hi => ?_) ?_
  · simp only [L_impl_WindowLayers_x25, letO_eq]
    rw [ltl_t hi, br_t, req_of (inRl hi), Option.bind_some, req_of (inRl hi)]
    simp only
    rw [s_nadd, s_toNn, Nat.zero_add, show TRect.mk (gd L i).fBox.fX0 (gd L i).fBox.fY0 (gd L i).fBox.fX1 (gd L i).fBox.fY1 = (gd L i).fBox from rfl, common_ok, Option.bind_some, put_ok, Option.bind_some, Option.bind_some, inc_nat (by omega), cover_snoc, take_snocG hi, List.map_append]
    rfl
  · simp only [L_impl_WindowLayers_x25, letO_eq]
    rw [ltl_f, br_f, List.take_length]
theorem winLayers_ok (a : TLibrary) (k : Int) (wd : TRect) (h : SmallL a) : F_impl_WindowLayers a k wd = some (wlR a k wd) := by
  unfold F_impl_WindowLayers wlR
  rw [impl_windowCode_ok a k 0 wd h, Option.bind_some]
  by_cases hz : wCode a k 0 wd = 0
  · obtain ⟨hv, hw, ⟨m, rfl, hm, hcn⟩, _⟩ := wCode_zero hz
    rw [hz, notEq (eq_true' rfl), br_f, if_pos rfl, impl_visited_ok a hv wd hw m hm hcn, Option.bind_some, Int.toNat_natCast]
    have hwl : whileP (L_impl_WindowLayers_x8 a wd (visL a m wd)) (((0 : Nat) : Int), ([] : List (List TRect))) = some (if (List.range' 0 8).all (fun y => decide ((hitL a (m : Int) (y : Int) wd).length ≤ 100)) then .inr ([] ++ laysW a m wd) else .inl 3) := by
      refine while_chk (fun y : Nat => [regn (andG (layG a m (y : Int)) (inG wd))]) (fun y : Nat => decide ((hitL a (m : Int) (y : Int) wd).length ≤ 100)) 8 3 100 (fun y hy v hvl => ?_) (fun v => ?_) 8 0 [] (by omega) (by
        have : ((List.range' 0 8).flatMap fun y : Nat => [regn (andG (layG a m (y : Int)) (inG wd))]).length = 8 := by rw [map_fm, List.length_map, List.length_range']
        rw [this]; simp)
      · simp only [L_impl_WindowLayers_x8, letO_eq]
        have hh : F_impl_hits a (visL a m wd) (y : Int) wd = some (hitL a (m : Int) (y : Int) wd) := by
          rw [impl_hits_ok a hv y wd hw _ (visL_good a hv wd hm) (by have := visL_le a hv wd m hm; omega)]
          unfold hitL; rw [Int.toNat_natCast]
        have hl := hit_len hv hm hcn (y : Int) wd
        rw [lt_true (by omega), br_t, hh, Option.bind_some, lt100, len_eq]
        by_cases h100 : (hitL a (m : Int) (y : Int) wd).length ≤ 100
        · rw [decide_eq_false (by omega), br_f, put_hits wd _ (by omega), Option.bind_some, region_ok, Option.bind_some, if_pos (by simpa using h100)]
          simp only
          rw [req_of (roomG (by rw [s_nadd, len_eq, len_eq]; simp only [List.length_singleton] at hvl ⊢; omega) (by omega)), Option.bind_some, inc_nat (by omega), hits_cover hv hm]
        · rw [decide_eq_true (by omega), br_t, if_neg (by simpa using h100)]
      · simp only [L_impl_WindowLayers_x8, letO_eq]
        rw [lt_false (by omega), br_f]
    rw [List.nil_append] at hwl
    generalize hq : laysW a m wd = Q at hwl ⊢
    rw [show ((0 : Int)) = ((0 : Nat) : Int) from rfl, hwl, Option.bind_some]
    unfold few
    cases hf : (List.range' 0 8).all (fun y => decide ((hitL a (m : Int) (y : Int) wd).length ≤ 100)) with
    | true =>
      rw [if_pos rfl, if_pos rfl]
      try simp only [letO_eq]
      try rfl
    | false =>
      rw [if_neg (by decide), if_neg (by decide)]
      try simp only [letO_eq]
  · rw [eq_false' hz, s_not, Bool.not_false, br_t, if_neg hz]
theorem laysW_len (a : TLibrary) (m : Nat) (wd : TRect) : (laysW a m wd).length = 8 := by
  unfold laysW
  rw [map_fm, List.length_map, List.length_range']
theorem laysW_at (a : TLibrary) (m : Nat) (wd : TRect) (y : Nat) (hy : y < 8) : gd (laysW a m wd) y = regn (andG (layG a m (y : Int)) (inG wd)) := by
  have hl := laysW_len a m wd
  rw [gd_lt (by omega)]
  unfold laysW
  simp only [map_fm, List.getElem_map, List.getElem_range']
  congr 3
  omega
/- FnWindowLayers -/
theorem wf_byteG {x : Int} (h : wfI .u8 x) : 0 ≤ x ∧ x ≤ 255 := by
  have h' : (Lit.int .u8 x).wf = true := h
  have e1 : IntKind.min .u8 = 0 := rfl
  have e2 : IntKind.max .u8 = 255 := rfl
  simp [Lit.wf] at h'
  omega
theorem drawLayers_ok {c : List Int} (hc : OKc c) : Tot (F_spec_DrawWindowLayers c) fun r => SmallL r.1 := by
  unfold F_spec_DrawWindowLayers F_spec_DrawInstancesTouching
  refine Tot.bind (P := fun r : TLibrary × Int × TRect => SmallL r.1) (Tot.bind (from_ok hc) fun s hs => Tot.bind (top12_ok hs) fun r hr => Tot.bind (window_ok hr.1) fun q hq => Tot.ret ?_) fun r hr => Tot.ret hr
  have := hr.2
  first | exact this.small | exact this.1.small
/-- the boxes of the shapes on a layer -/
noncomputable def onL (S : List TShape) (y : Int) : List TRect := S.flatMap fun s => if std.eq s.fLayer y then [s.fBox] else []
noncomputable def laysF (S : List TShape) : List (List TRect) := (List.range 8).flatMap fun y : Nat => [regn (cover (onL S (y : Int)))]
/- FnWindowSplit -/
theorem spec_rect_okG (r : TRect) : F_spec_IsValidRect r = some (okRect r) := by
  unfold F_spec_IsValidRect okRect
  cases std.le (-40) r.fX0 <;> cases std.lt r.fX0 r.fX1 <;> cases std.le r.fX1 40 <;> cases std.le (-40) r.fY0 <;> cases std.lt r.fY0 r.fY1 <;> rfl
theorem filter_len {l : List TRect} {p q : TRect → Bool} (h : ∀ r, p r = true → q r = true) : (l.filter p).length ≤ (l.filter q).length := by
  induction l with
  | nil => simp
  | cons x r ih =>
    rw [List.filter_cons, List.filter_cons]
    cases hp : p x with
    | true =>
      rw [h x hp]
      simp only [if_true, List.length_cons]; omega
    | false =>
      cases hq : q x with
      | true => simp only [if_true, Bool.false_eq_true, if_false, List.length_cons]; omega
      | false => simpa using ih
theorem few_mono {a : TLibrary} (hv : okLib a = true) {m : Nat} (hm : m < a.fCells.length) {w1 w2 : TRect} (h : ∀ r, ovlG r w1 = true → ovlG r w2 = true) (hf : few a m w2 = true) : few a m w1 = true := by
  unfold few at hf ⊢
  rw [List.all_eq_true] at hf ⊢
  intro y hy
  have h1 := hf y hy
  rw [decide_eq_true_eq] at h1 ⊢
  have e1 := congrArg List.length (hit_boxes hv hm (y : Int) w1)
  have e2 := congrArg List.length (hit_boxes hv hm (y : Int) w2)
  rw [List.length_map] at e1 e2
  have := filter_len (l := allB a m (y : Int)) h
  omega
theorem wCode_rect {a : TLibrary} {k : Int} {wd w2 : TRect} (h : wCode a k 0 wd = 0) (hw : okRect w2 = true) : wCode a k 0 w2 = 0 := by
  obtain ⟨_, hok, _⟩ := wCode_zero h
  unfold wCode at h ⊢
  rw [hok] at h
  rw [hw]
  exact h
theorem lawW_WindowSplit (c : List Int) (w : (wfL (wfI .u8)) c) : F_laws_FnWindowSplit c = some true := by
  unfold F_laws_FnWindowSplit F_laws_big
  rw [Option.bind_some]
  cases hb : std.lt 4096 (std.ofN (len c)) with
  | true => rfl
  | false =>
    rw [br_f]
    have hl := lt_decf hb
    rw [s_ofN, len_eq] at hl
    obtain ⟨⟨a, k, wd⟩, h1, h2⟩ := drawLayers_ok (c := c) ⟨by omega, fun b hm => wf_byteG (w.2 b hm)⟩
    have h2 : SmallL a := h2
    rw [h1, Option.bind_some]
    simp only
    rw [spec_rect_okG, Option.bind_some]
    have hvis : ((F_impl_VisitedCount a k wd).bind fun y15 => (F_spec_VisitedCount a k wd).bind fun y17 => some (std.eq y15 y17)) = some true := by
      rw [impl_VisitedCount_ok a k wd h2, Option.bind_some, spec_VisitedCount_ok a k wd h2, Option.bind_some, eq_true' rfl]
    cases hok : okRect wd with
    | false =>
      rw [Bool.not_false, br_t, Option.bind_some]
      simp only [letO_eq, br_t]
      exact hvis
    | true =>
      obtain ⟨q1, q2, q3, q4, q5, q6⟩ := okRect_iff.1 hok
      rw [Bool.not_true, br_f, Option.bind_some, sub_id (by omega) (by omega)]
      simp only [letO_eq]
      by_cases h22 : wd.fX1 - wd.fX0 < 2
      · rw [lt_true h22, br_t]
        exact hvis
      · rw [lt_false h22, br_f, req_of (by rw [s_nz]; decide)]
        have hquo : std.quo .i64 (wd.fX1 - wd.fX0) 2 = (wd.fX1 - wd.fX0) / 2 := by
          show IntKind.i64.wrap ((wd.fX1 - wd.fX0).tdiv 2) = _
          rw [Int.tdiv_eq_ediv_of_nonneg (by omega), wrap_id (by omega) (by omega)]
        rw [hquo, add_id (by omega) (by omega)]
        obtain ⟨mid, hmid⟩ : ∃ mid, mid = wd.fX0 + (wd.fX1 - wd.fX0) / 2 := ⟨_, rfl⟩
        have hm1 : wd.fX0 < mid := by omega
        have hm2 : mid < wd.fX1 := by omega
        rw [← hmid]
        obtain ⟨lw, hlw⟩ : ∃ lw, lw = TRect.mk wd.fX0 wd.fY0 mid wd.fY1 := ⟨_, rfl⟩
        obtain ⟨rw_, hrw⟩ : ∃ rw_, rw_ = TRect.mk mid wd.fY0 wd.fX1 wd.fY1 := ⟨_, rfl⟩
        rw [← hlw, ← hrw, winLayers_ok a k lw h2, Option.bind_some, winLayers_ok a k rw_ h2, Option.bind_some, winLayers_ok a k wd h2, Option.bind_some]
        have okl : okRect lw = true := by rw [okRect_iff, hlw]; simp only; omega
        have okr : okRect rw_ = true := by rw [okRect_iff, hrw]; simp only; omega
        by_cases hz : (wlR a k wd).2 = 0
        · have hwc : wCode a k 0 wd = 0 := by
            unfold wlR at hz
            by_cases h : wCode a k 0 wd = 0
            · exact h
            · rw [if_neg h] at hz; exact hz
          obtain ⟨hv, _, ⟨m, rfl, hm, hcn⟩, _⟩ := wCode_zero hwc
          have hfew : few a m wd = true := by
            unfold wlR at hz
            rw [if_pos hwc, Int.toNat_natCast] at hz
            by_cases h : few a m wd = true
            · exact h
            · rw [if_neg h] at hz; cases hz
          have hfl : few a m lw = true := few_mono hv hm (fun r hr => by rw [ovlG_iff] at hr ⊢; rw [hlw] at hr; simp only at hr; omega) hfew
          have hfr : few a m rw_ = true := few_mono hv hm (fun r hr => by rw [ovlG_iff] at hr ⊢; rw [hrw] at hr; simp only at hr; omega) hfew
          have e0 : wlR a (m : Int) wd = (laysW a m wd, 0) := by unfold wlR; rw [if_pos hwc, Int.toNat_natCast, if_pos hfew]
          have e1 : wlR a (m : Int) lw = (laysW a m lw, 0) := by unfold wlR; rw [if_pos (wCode_rect hwc okl), Int.toNat_natCast, if_pos hfl]
          have e2 : wlR a (m : Int) rw_ = (laysW a m rw_, 0) := by unfold wlR; rw [if_pos (wCode_rect hwc okr), Int.toNat_natCast, if_pos hfr]
          rw [e0, e1, e2]
          simp only
          rw [notEq (eq_true' rfl), br_f, br_f, br_f, len_eq, laysW_len, len_eq, laysW_len, len_eq, laysW_len, show std.not (std.eq (std.ofN 8) 8) = false from rfl, br_f, br_f, Option.bind_some, br_f]
          have hpart : ∀ y : Nat, orG (andG (layG a m (y : Int)) (inG lw)) (andG (layG a m (y : Int)) (inG rw_)) = andG (layG a m (y : Int)) (inG wd) := by
            intro y
            funext i j
            unfold orG andG
            rw [← Bool.and_or_distrib_left]
            congr 1
            rw [Bool.eq_iff_iff, Bool.or_eq_true, inG_iff, inG_iff, inG_iff, hlw, hrw]
            simp only
            omega
          rw [while_eq (r := .inr ()) 8 (fun y hy => ?_) ?_, Option.bind_some]
          · simp only [L_laws_FnWindowSplit_x38, letO_eq]
            rw [lt_false (by omega), br_f]
          · simp only [L_laws_FnWindowSplit_x38, letO_eq]
            rw [lt_true (by omega), br_t, req_of (inRl (by rw [laysW_len]; exact hy)), req_of (inRl (by rw [laysW_len]; exact hy)), s_nadd, s_toNn, Nat.zero_add, laysW_at a m lw y hy, laysW_at a m rw_ y hy, union_ok (and_clamp (layG_clamp a m _)) (and_clamp (layG_clamp a m _)), Option.bind_some, req_of (inRl (by rw [laysW_len]; exact hy)), laysW_at a m wd y hy, hpart, sameRects_okG _ (by have := regn_len (andG (layG a m (y : Int)) (inG wd)); omega), Option.bind_some, Bool.not_true, Option.bind_some, br_f, inc_nat (by omega)]
        · have hlen0 : (wlR a k wd).1 = [] := by
            unfold wlR at hz ⊢
            by_cases h : wCode a k 0 wd = 0
            · rw [if_pos h] at hz ⊢
              by_cases h' : few a k.toNat wd = true
              · rw [if_pos h'] at hz; exact (hz rfl).elim
              · rw [if_neg h']
            · rw [if_neg h]
          rw [eq_false' hz, s_not, Bool.not_false, br_t, hlen0]
          rfl
end Go.Proofs.Ytpobpihakgegbaa.AM
