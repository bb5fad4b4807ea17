/-
  What the functions that the law reaches compute, and that they do. No condition.
-/
import Derived.Test.YtpobpihakgegbaaGreatAmSX
import Derived.Test.YtpobpihakgegbaaGreatAmSY
import Derived.Test.YtpobpihakgegbaaGreatAmSR
namespace Go.Proofs.YtpobpihakgegbaaGreat.AM
open Go Go.Proofs Go.RowKit
set_option linter.unusedVariables false
set_option linter.unusedSimpArgs false
set_option maxRecDepth 100000

/- tables of unit cells: put, the region of a table, its cells -/
/-- a unit cell of the chip that a rectangle has -/
def inG (r : TRect) (i j : Nat) : Bool := decide (i < 80 ∧ j < 80 ∧ r.fY0 ≤ (i : Int) - 40 ∧ (i : Int) - 40 < r.fY1 ∧ r.fX0 ≤ (j : Int) - 40 ∧ (j : Int) - 40 < r.fX1)
def orG (G H : Nat → Nat → Bool) : Nat → Nat → Bool := fun i j => G i j || H i j
theorem while_rng {β : Type} {st : Int × β → Option ((Int × β) ⊕ β)} (lo hi : Int) (F : Int → β) (h : ∀ v, lo ≤ v → v < hi → st (v, F v) = some (.inl (v + 1, F (v + 1)))) (he : ∀ v b, ¬ v < hi → st (v, b) = some (.inr b)) :
    whileP st (lo, F lo) = some (F (max lo hi)) := by
  refine while_from (fun n : Nat => (lo + (n : Int), F (lo + (n : Int)))) (hi - lo).toNat (by simp) (fun i hi' => ?_) ?_
  · have e : lo + (i : Int) + 1 = lo + ((i + 1 : Nat) : Int) := by omega
    rw [h _ (by omega) (by omega), e]
  · have e : lo + ((hi - lo).toNat : Int) = max lo hi := by omega
    rw [he _ _ (by omega), e]
theorem put_row (r : TRect) (G : Nat → Nat → Bool) (y : Int) (hy : -40 ≤ y) (hy2 : y < 40) : whileP (L_impl_cells_put_mAb_x17 r y) (std.imax r.fX0 (-40), G) =
    some (fun i j => G i j || decide ((i : Int) - 40 = y ∧ max r.fX0 (-40) ≤ (j : Int) - 40 ∧ (j : Int) - 40 < max (max r.fX0 (-40)) (min r.fX1 40))) := by
  have e0 : G = (fun v => fun (i j : Nat) => G i j || decide ((i : Int) - 40 = y ∧ max r.fX0 (-40) ≤ (j : Int) - 40 ∧ (j : Int) - 40 < v)) (max r.fX0 (-40)) := by
    funext i j
    dsimp only
    rw [decide_eq_false (by omega), Bool.or_false]
  rw [s_imax]
  conv => lhs; rw [e0]
  refine while_rng (max r.fX0 (-40)) (min r.fX1 40) (fun v => fun (i j : Nat) => G i j || decide ((i : Int) - 40 = y ∧ max r.fX0 (-40) ≤ (j : Int) - 40 ∧ (j : Int) - 40 < v)) (fun v h1 h2 => ?_) (fun v b h => ?_)
  · simp only [L_impl_cells_put_mAb_x17, letO_eq, s_imin]
    rw [lt_true h2, br_t, add_id (by omega) (by omega), add_id (by omega) (by omega), add_id (by omega) (by omega), req_of ⟨by omega, by omega⟩, req_of ⟨by omega, by omega⟩]
    congr 3
    funext i j
    unfold setG
    rw [s_nadd, s_nadd, s_toN, s_toN]
    by_cases hc : i = 0 + (y + 40).toNat ∧ j = 0 + (v + 40).toNat
    · rw [if_pos hc, decide_eq_true (by omega), Bool.or_true]
    · rw [if_neg hc]
      dsimp only
      congr 1
      rw [Bool.eq_iff_iff, decide_eq_true_eq, decide_eq_true_eq]
      omega
  · simp only [L_impl_cells_put_mAb_x17, letO_eq, s_imin]
    rw [lt_false h, br_f]
theorem put_ok (G : Nat → Nat → Bool) (r : TRect) : F_impl_cells_put_mAb G r = some (orG G (inG r)) := by
  unfold F_impl_cells_put_mAb
  have e0 : G = (fun v => fun (i j : Nat) => G i j || decide (max r.fX0 (-40) ≤ (j : Int) - 40 ∧ (j : Int) - 40 < min r.fX1 40 ∧ max r.fY0 (-40) ≤ (i : Int) - 40 ∧ (i : Int) - 40 < v)) (max r.fY0 (-40)) := by
    funext i j
    dsimp only
    rw [decide_eq_false (by omega), Bool.or_false]
  rw [s_imax]
  conv => lhs; rw [e0]
  rw [while_rng (max r.fY0 (-40)) (min r.fY1 40) (fun v => fun (i j : Nat) => G i j || decide (max r.fX0 (-40) ≤ (j : Int) - 40 ∧ (j : Int) - 40 < min r.fX1 40 ∧ max r.fY0 (-40) ≤ (i : Int) - 40 ∧ (i : Int) - 40 < v)) (fun v h1 h2 => ?_) (fun v b h => ?_), Option.bind_some]
  · simp only [letO_eq]
    congr 1
    funext i j
    unfold orG inG
    congr 1
    rw [Bool.eq_iff_iff, decide_eq_true_eq, decide_eq_true_eq]
    omega
  · simp only [L_impl_cells_put_mAb_x3, letO_eq, s_imin]
    rw [lt_true h2, br_t, put_row _ _ _ (by omega) (by omega), Option.bind_some, add_id (by omega) (by omega)]
    congr 3
    funext i j
    rw [Bool.or_assoc]
    congr 1
    rw [Bool.eq_iff_iff, Bool.or_eq_true, decide_eq_true_eq, decide_eq_true_eq, decide_eq_true_eq]
    omega
  · simp only [L_impl_cells_put_mAb_x3, letO_eq, s_imin]
    rw [lt_false h, br_f]
/-- the cells of some rectangles -/
def cover (l : List TRect) : Nat → Nat → Bool := fun i j => l.any fun r => inG r i j
theorem cover_nil : cover [] = zeroG := rfl
theorem cover_snoc (l : List TRect) (r : TRect) : orG (cover l) (inG r) = cover (l ++ [r]) := by
  funext i j
  unfold orG cover
  rw [List.any_append, List.any_cons, List.any_nil, Bool.or_false]
/-- no cell but those of the chip -/
def Clamp (G : Nat → Nat → Bool) : Prop := ∀ i j, G i j = true → i < 80 ∧ j < 80
/-- the first place from x on, at most n of them, where f fails -/
def endR (f : Nat → Bool) : Nat → Nat → Nat
  | 0, x => x
  | n + 1, x => if f x then endR f n (x + 1) else x
theorem endR_ge (f : Nat → Bool) : ∀ n x, x ≤ endR f n x
  | 0, x => Nat.le_refl _
  | n + 1, x => by
    unfold endR
    split
    · have := endR_ge f n (x + 1); omega
    · exact Nat.le_refl _
theorem endR_le (f : Nat → Bool) : ∀ n x, endR f n x ≤ x + n
  | 0, x => Nat.le_refl _
  | n + 1, x => by
    unfold endR
    split
    · have := endR_le f n (x + 1); omega
    · omega
theorem endR_pos (f : Nat → Bool) (n x : Nat) (hn : 0 < n) (hf : f x = true) : x < endR f n x := by
  obtain ⟨m, rfl⟩ : ∃ m, n = m + 1 := ⟨n - 1, by omega⟩
  unfold endR
  rw [if_pos hf]
  have := endR_ge f m (x + 1); omega
/-- the runs of a row from x on -/
def runsF (f : Nat → Bool) : Nat → Nat → List (Nat × Nat)
  | 0, _ => []
  | n + 1, x => if 80 ≤ x then [] else if f x then (x, endR f (80 - x) x) :: runsF f n (endR f (80 - x) x + 1) else runsF f n (x + 1)
theorem runsF_len (f : Nat → Bool) : ∀ n x, x ≤ 81 → 2 * (runsF f n x).length ≤ 81 - x
  | 0, x, _ => by simp [runsF]
  | n + 1, x, hx => by
    unfold runsF
    split
    · simp
    · split
      · rename_i h1 h2
        have h3 := endR_pos f (80 - x) x (by omega) h2
        have h4 := endR_le f (80 - x) x
        have h5 := runsF_len f n (endR f (80 - x) x + 1) (by omega)
        rw [List.length_cons]; omega
      · have h5 := runsF_len f n (x + 1) (by omega)
        omega
/-- two rows are alike -/
noncomputable def rowEq (G : Nat → Nat → Bool) (a b : Nat) : Bool := std.beqs (rowG 80 G a) (rowG 80 G b)
theorem rowEq_iff (G : Nat → Nat → Bool) (a b : Nat) : rowEq G a b = true ↔ ∀ j, j < 80 → G a j = G b j := by
  unfold rowEq
  show (rowG 80 G a == rowG 80 G b) = true ↔ _
  rw [beq_iff_eq]
  unfold rowG
  constructor
  · intro h j hj
    have := congrArg (fun l : List Bool => l[j]?) h
    simpa [List.getElem?_range hj] using this
  · intro h
    apply List.map_congr_left
    intro j hj
    exact h j (List.mem_range.1 hj)
def mkR (y e : Nat) (p : Nat × Nat) : TRect := ⟨(p.1 : Int) - 40, (y : Int) - 40, (p.2 : Int) - 40, (e : Int) - 40⟩
/-- the region of a table, from the row y on -/
noncomputable def regF (G : Nat → Nat → Bool) : Nat → Nat → List TRect
  | 0, _ => []
  | n + 1, y => if 80 ≤ y then [] else (runsF (G y) 81 0).map (mkR y (endR (fun e => rowEq G e y) (80 - (y + 1)) (y + 1))) ++ regF G n (endR (fun e => rowEq G e y) (80 - (y + 1)) (y + 1))
noncomputable def regn (G : Nat → Nat → Bool) : List TRect := regF G 80 0
theorem regF_len (G : Nat → Nat → Bool) : ∀ n y, y ≤ 80 → (regF G n y).length ≤ 40 * (80 - y)
  | 0, y, _ => by simp [regF]
  | n + 1, y, hy => by
    unfold regF
    split
    · simp
    · have h1 := endR_ge (fun e => rowEq G e y) (80 - (y + 1)) (y + 1)
      have h2 := endR_le (fun e => rowEq G e y) (80 - (y + 1)) (y + 1)
      have h3 := regF_len G n (endR (fun e => rowEq G e y) (80 - (y + 1)) (y + 1)) (by omega)
      have h4 := runsF_len (G y) 81 0 (by omega)
      rw [List.length_append, List.length_map]
      omega
theorem regn_len (G : Nat → Nat → Bool) : (regn G).length ≤ 3200 := regF_len G 80 0 (by omega)
/- the walks -/
theorem endR_loop (G : Nat → Nat → Bool) (y : Nat) (hy : y < 80) : ∀ n x : Nat, x + n = 80 → whileP (L_impl_cells_region_mA_x59 G y) (x : Int) = some ((endR (G y) n x : Nat) : Int)
  | 0, x, h => by
    rw [whileP_unfold]
    simp only [L_impl_cells_region_mA_x59, letO_eq]
    rw [lt_false (by omega), br_f, Option.bind_some, br_f]
    rfl
  | n + 1, x, h => by
    rw [whileP_unfold]
    simp only [L_impl_cells_region_mA_x59, letO_eq]
    rw [lt_true (by omega), br_t, req_of (inRn hy), req_of (inRn (by omega)), Option.bind_some, s_nadd, s_nadd, s_toNn, s_toNn, Nat.zero_add, Nat.zero_add]
    unfold endR
    cases hg : G y x with
    | false => rw [br_f, if_neg (by simp)]
    | true =>
      rw [br_t, inc_nat (by omega), if_pos rfl]
      exact endR_loop G y hy n (x + 1) (by omega)
theorem runs_loop (G : Nat → Nat → Bool) (y e : Nat) (hy : y < 80) (he : e ≤ 80) : ∀ (n x : Nat) (acc : List TRect), 81 ≤ x + n → x ≤ 81 → acc.length + n ≤ 1000000 →
    whileP (L_impl_cells_region_mA_x44 G y e) ((x : Int), acc) = some (acc ++ (runsF (G y) n x).map (mkR y e))
  | 0, x, acc, h, hx, ha => by
    rw [whileP_unfold]
    simp only [L_impl_cells_region_mA_x44, letO_eq]
    rw [lt_false (by omega), br_f]
    simp [runsF]
  | n + 1, x, acc, h, hx, ha => by
    rw [whileP_unfold]
    simp only [L_impl_cells_region_mA_x44, letO_eq]
    unfold runsF
    by_cases h8 : 80 ≤ x
    · rw [lt_false (by omega), br_f, if_pos h8]
      simp
    · rw [lt_true (by omega), br_t, req_of (inRn hy), req_of (inRn (by omega)), s_nadd, s_nadd, s_toNn, s_toNn, Nat.zero_add, Nat.zero_add, if_neg h8]
      cases hg : G y x with
      | false =>
        rw [Bool.not_false, br_t, inc_nat (by omega), if_neg (by simp)]
        exact runs_loop G y e hy he n (x + 1) acc (by omega) (by omega) (by omega)
      | true =>
        have h3 := endR_pos (G y) (80 - x) x (by omega) hg
        have h4 := endR_le (G y) (80 - x) x
        rw [Bool.not_true, br_f, endR_loop G y hy (80 - x) x (by omega), Option.bind_some, req_of (by rw [s_room, s_nadd, len_eq, len_eq, List.length_singleton]; omega), inc_nat (by omega), sub_id (by omega) (by omega), sub_id (by omega) (by omega), sub_id (by omega) (by omega), sub_id (by omega) (by omega), if_pos rfl, List.map_cons]
        have := runs_loop G y e hy he n (endR (G y) (80 - x) x + 1) (acc ++ [mkR y e (x, endR (G y) (80 - x) x)]) (by omega) (by omega) (by rw [List.length_append, List.length_singleton]; omega)
        rw [List.append_assoc] at this
        exact this
theorem rows_loop (G : Nat → Nat → Bool) (y : Nat) (hy : y < 80) : ∀ n x : Nat, x + n = 80 → whileP (L_impl_cells_region_mA_x18 G y) (x : Int) = some ((endR (fun e => rowEq G e y) n x : Nat) : Int)
  | 0, x, h => by
    rw [whileP_unfold]
    simp only [L_impl_cells_region_mA_x18, letO_eq]
    rw [lt_false (by omega), br_f, Option.bind_some, br_f]
    rfl
  | n + 1, x, h => by
    rw [whileP_unfold]
    simp only [L_impl_cells_region_mA_x18, letO_eq]
    rw [lt_true (by omega), br_t, req_of (inRn (by omega)), req_of (inRn hy), Option.bind_some, s_nadd, s_nadd, s_toNn, s_toNn, Nat.zero_add, Nat.zero_add]
    unfold endR
    cases hg : rowEq G x y with
    | false =>
      unfold rowEq at hg
      rw [hg, br_f, if_neg (by simp)]
    | true =>
      have hg' := hg
      unfold rowEq at hg'
      rw [hg', br_t, inc_nat (by omega), if_pos rfl]
      exact rows_loop G y hy n (x + 1) (by omega)
theorem reg_loop (G : Nat → Nat → Bool) : ∀ (n y : Nat) (acc : List TRect), 80 ≤ y + n → y ≤ 80 → acc.length + 40 * (80 - y) ≤ 900000 → whileP (L_impl_cells_region_mA_x5 G) ((y : Int), acc) = some (acc ++ regF G n y)
  | 0, y, acc, h, hy, ha => by
    rw [whileP_unfold]
    simp only [L_impl_cells_region_mA_x5, letO_eq]
    rw [lt_false (by omega), br_f]
    simp [regF]
  | n + 1, y, acc, h, hy, ha => by
    rw [whileP_unfold]
    simp only [L_impl_cells_region_mA_x5, letO_eq]
    unfold regF
    by_cases h8 : 80 ≤ y
    · rw [lt_false (by omega), br_f, if_pos h8]
      simp
    · have h1 := endR_ge (fun e => rowEq G e y) (80 - (y + 1)) (y + 1)
      have h2 := endR_le (fun e => rowEq G e y) (80 - (y + 1)) (y + 1)
      have h4 := runsF_len (G y) 81 0 (by omega)
      rw [lt_true (by omega), br_t, inc_nat (by omega), rows_loop G y (by omega) (80 - (y + 1)) (y + 1) (by omega), Option.bind_some, show ((0 : Int)) = ((0 : Nat) : Int) from rfl, runs_loop G y _ (by omega) (by omega) 81 0 acc (by omega) (by omega) (by omega), Option.bind_some, if_neg h8]
      have := reg_loop G n (endR (fun e => rowEq G e y) (80 - (y + 1)) (y + 1)) (acc ++ (runsF (G y) 81 0).map (mkR y (endR (fun e => rowEq G e y) (80 - (y + 1)) (y + 1)))) (by omega) (by omega) (by rw [List.length_append, List.length_map]; omega)
      rw [List.append_assoc] at this
      exact this
theorem region_ok (G : Nat → Nat → Bool) : F_impl_cells_region_mA G = some (regn G, G) := by
  have h := reg_loop G 80 0 [] (by omega) (by omega) (by simp)
  rw [List.nil_append] at h
  unfold F_impl_cells_region_mA regn
  simp only [letO_eq]
  rw [show ((0 : Int)) = ((0 : Nat) : Int) from rfl, h, Option.bind_some]
/- the part in a window; a region is a region; clip; union -/
def cutR (wd r : TRect) : TRect := ⟨max r.fX0 wd.fX0, max r.fY0 wd.fY0, min r.fX1 wd.fX1, min r.fY1 wd.fY1⟩
theorem common_ok (r wd : TRect) : F_impl_common r wd = some (cutR wd r) := by
  unfold F_impl_common cutR
  rw [s_imax, s_imax, s_imin, s_imin]
def andG (G H : Nat → Nat → Bool) : Nat → Nat → Bool := fun i j => G i j && H i j
theorem cover_iff {l : List TRect} {i j : Nat} : cover l i j = true ↔ ∃ r ∈ l, inG r i j = true := List.any_eq_true
theorem inG_iff {r : TRect} {i j : Nat} : inG r i j = true ↔ (i < 80 ∧ j < 80 ∧ r.fY0 ≤ (i : Int) - 40 ∧ (i : Int) - 40 < r.fY1 ∧ r.fX0 ≤ (j : Int) - 40 ∧ (j : Int) - 40 < r.fX1) := by unfold inG; rw [decide_eq_true_eq]
theorem inG_cut {wd r : TRect} {i j : Nat} : inG (cutR wd r) i j = true ↔ (inG r i j = true ∧ inG wd i j = true) := by
  rw [inG_iff, inG_iff, inG_iff]
  unfold cutR
  simp only
  omega
theorem cover_cut (wd : TRect) (l : List TRect) : cover (l.map (cutR wd)) = andG (cover l) (inG wd) := by
  funext i j
  rw [Bool.eq_iff_iff]
  unfold andG
  rw [Bool.and_eq_true, cover_iff, cover_iff]
  constructor
  · rintro ⟨r, hr, h⟩
    obtain ⟨q, hq, rfl⟩ := List.mem_map.1 hr
    obtain ⟨h1, h2⟩ := inG_cut.1 h
    exact ⟨⟨q, hq, h1⟩, h2⟩
  · rintro ⟨⟨r, hr, h1⟩, h2⟩
    exact ⟨_, List.mem_map.2 ⟨r, hr, rfl⟩, inG_cut.2 ⟨h1, h2⟩⟩
/-- what does not overlap the window has no part in it -/
theorem cover_ovl (wd : TRect) (l : List TRect) : cover ((l.filter fun r => ovlG r wd).map (cutR wd)) = andG (cover l) (inG wd) := by
  rw [← cover_cut]
  funext i j
  rw [Bool.eq_iff_iff, cover_iff, cover_iff]
  constructor
  · rintro ⟨r, hr, h⟩
    obtain ⟨q, hq, rfl⟩ := List.mem_map.1 hr
    exact ⟨_, List.mem_map.2 ⟨q, (List.mem_filter.1 hq).1, rfl⟩, h⟩
  · rintro ⟨r, hr, h⟩
    obtain ⟨q, hq, rfl⟩ := List.mem_map.1 hr
    refine ⟨_, List.mem_map.2 ⟨q, List.mem_filter.2 ⟨hq, ?_⟩, rfl⟩, h⟩
    obtain ⟨h1, h2⟩ := inG_cut.1 h
    rw [inG_iff] at h1 h2
    rw [ovlG_iff]
    omega
theorem take_snocG {α : Type} [Inhabited α] {l : List α} {i : Nat} (h : i < l.length) : l.take (i + 1) = l.take i ++ [gd l i] := by
  rw [gd_lt h, List.take_add_one, List.getElem?_eq_getElem h]; rfl
/- the layers of a window, and the flattened layers -/
/-- the boxes on a layer -/
noncomputable def boxA (a : TLibrary) (y : Int) (o : TOccurrence) : List TRect := (gd a.fCells o.fCell.toNat).fShapes.flatMap fun s => if std.eq s.fLayer y then [mvR o.fPlace s.fBox] else []
theorem filt_fm {α : Type} (l : List α) (p : α → Bool) (f : α → TRect) (q : TRect → Bool) : (l.flatMap fun s => if p s then [f s] else []).filter q = l.flatMap fun s => if (p s && q (f s)) then [f s] else [] := by
  induction l with
  | nil => rfl
  | cons x r ih =>
    rw [List.flatMap_cons, List.flatMap_cons, List.filter_append, ih]
    congr 1
    cases p x with
    | false => rfl
    | true =>
      simp only [Bool.true_and, if_true]
      cases h : q (f x) <;> simp [h]
theorem boxF_filt (a : TLibrary) (y : Int) (wd : TRect) (o : TOccurrence) : boxF a y wd o = (boxA a y o).filter fun r => ovlG r wd := by
  unfold boxF boxA
  rw [filt_fm]
noncomputable def allB (a : TLibrary) (m : Nat) (y : Int) : List TRect := (allL a m 65).flatMap (boxA a y)
theorem fm_filt {α : Type} (l : List α) (f : α → List TRect) (q : TRect → Bool) : (l.flatMap f).filter q = l.flatMap fun s => (f s).filter q := by
  induction l with
  | nil => rfl
  | cons x r ih => rw [List.flatMap_cons, List.flatMap_cons, List.filter_append, ih]
/-- the boxes of the hits are those that overlap the window -/
theorem hit_boxes {a : TLibrary} (hv : okLib a = true) {m : Nat} (hm : m < a.fCells.length) (y : Int) (wd : TRect) : (hitL a (m : Int) y wd).map (fun h => h.fBox) = (allB a m y).filter fun r => ovlG r wd := by
  have hpr : (allL a m 65).flatMap (boxF a y wd) = (hitL a (m : Int) y wd).map fun h => h.fBox := by
    have := prune a hv y wd 65 64 (rootO m) (rootO_good a hv hm) (by show ((m : Int)).toNat < 65; have := (okLib_leG hv).2; omega) (by show ((m : Int)).toNat < 64; have := (okLib_leG hv).2; omega)
    unfold allL
    rw [this]
    unfold hitL visL
    rw [Int.toNat_natCast, List.map_flatMap]
    exact congrArg (fun f => List.flatMap f _) (funext fun o => (hits_box a y wd o).symm)
  rw [← hpr]
  unfold allB
  rw [fm_filt]
  exact congrArg (fun f => List.flatMap f _) (funext fun o => boxF_filt a y wd o)
/-- the cells on a layer -/
noncomputable def layG (a : TLibrary) (m : Nat) (y : Int) : Nat → Nat → Bool := cover (allB a m y)
theorem hits_cover {a : TLibrary} (hv : okLib a = true) {m : Nat} (hm : m < a.fCells.length) (y : Int) (wd : TRect) : cover ((hitL a (m : Int) y wd).map fun h => cutR wd h.fBox) = andG (layG a m y) (inG wd) := by
  have e : (hitL a (m : Int) y wd).map (fun h => cutR wd h.fBox) = ((hitL a (m : Int) y wd).map fun h => h.fBox).map (cutR wd) := by rw [List.map_map]; rfl
  rw [e, hit_boxes hv hm, cover_ovl]
  rfl
/-- is the limit of the hits kept on every layer -/
noncomputable def few (a : TLibrary) (m : Nat) (wd : TRect) : Bool := (List.range' 0 8).all fun y => decide ((hitL a (m : Int) (y : Int) wd).length ≤ 100)
noncomputable def laysW (a : TLibrary) (m : Nat) (wd : TRect) : List (List TRect) := (List.range' 0 8).flatMap fun y : Nat => [regn (andG (layG a m (y : Int)) (inG wd))]
noncomputable def wlR (a : TLibrary) (k : Int) (wd : TRect) : List (List TRect) × Int := if wCode a k 0 wd = 0 then (if few a k.toNat wd then (laysW a k.toNat wd, 0) else ([], 3)) else ([], wCode a k 0 wd)
theorem hit_len {a : TLibrary} (hv : okLib a = true) {m : Nat} (hm : m < a.fCells.length) (hcn : cnt a.fCells m ≤ 200) (y : Int) (wd : TRect) : (hitL a (m : Int) y wd).length ≤ 4800 := by
  unfold hitL
  rw [Int.toNat_natCast]
  exact hits_le hv y wd (visL_good a hv wd hm) (by have := visL_le a hv wd m hm; omega)
theorem put_hits (wd : TRect) (L : List TWindowHit) (hL : L.length ≤ 10000000) : whileP (L_impl_WindowLayers_x25 wd L) (0, zeroG, L) = some (cover (L.map fun h => cutR wd h.fBox)) := by
  refine while_from (fun i => ((i : Int), cover ((L.take i).map fun h => cutR wd h.fBox), L)) L.length (by simp [cover_nil]) (fun i hi => ?_) ?_
  · simp only [L_impl_WindowLayers_x25, letO_eq]
    rw [ltl_t hi, br_t, req_of (inRl hi), Option.bind_some, req_of (inRl hi)]
    simp only
    rw [s_nadd, s_toNn, Nat.zero_add, show TRect.mk (gd L i).fBox.fX0 (gd L i).fBox.fY0 (gd L i).fBox.fX1 (gd L i).fBox.fY1 = (gd L i).fBox from rfl, common_ok, Option.bind_some, put_ok, Option.bind_some, Option.bind_some, inc_nat (by omega), cover_snoc, take_snocG hi, List.map_append]
    rfl
  · simp only [L_impl_WindowLayers_x25, letO_eq]
    rw [ltl_f, br_f, List.take_length]
theorem winLayers_ok (a : TLibrary) (k : Int) (wd : TRect) (h : SmallL a) : F_impl_WindowLayers a k wd = some (wlR a k wd) := by
  unfold F_impl_WindowLayers wlR
  rw [impl_windowCode_ok a k 0 wd h, Option.bind_some]
  by_cases hz : wCode a k 0 wd = 0
  · obtain ⟨hv, hw, ⟨m, rfl, hm, hcn⟩, _⟩ := wCode_zero hz
    rw [hz, notEq (eq_true' rfl), br_f, if_pos rfl, impl_visited_ok a hv wd hw m hm hcn, Option.bind_some, Int.toNat_natCast]
    have hwl : whileP (L_impl_WindowLayers_x8 a wd (visL a m wd)) (((0 : Nat) : Int), ([] : List (List TRect))) = some (if (List.range' 0 8).all (fun y => decide ((hitL a (m : Int) (y : Int) wd).length ≤ 100)) then .inr ([] ++ laysW a m wd) else .inl 3) := by
      refine while_chk (fun y : Nat => [regn (andG (layG a m (y : Int)) (inG wd))]) (fun y : Nat => decide ((hitL a (m : Int) (y : Int) wd).length ≤ 100)) 8 3 100 (fun y hy v hvl => ?_) (fun v => ?_) 8 0 [] (by omega) (by
        have : ((List.range' 0 8).flatMap fun y : Nat => [regn (andG (layG a m (y : Int)) (inG wd))]).length = 8 := by rw [map_fm, List.length_map, List.length_range']
        rw [this]; simp)
      · simp only [L_impl_WindowLayers_x8, letO_eq]
        have hh : F_impl_hits a (visL a m wd) (y : Int) wd = some (hitL a (m : Int) (y : Int) wd) := by
          rw [impl_hits_ok a hv y wd hw _ (visL_good a hv wd hm) (by have := visL_le a hv wd m hm; omega)]
          unfold hitL; rw [Int.toNat_natCast]
        have hl := hit_len hv hm hcn (y : Int) wd
        rw [lt_true (by omega), br_t, hh, Option.bind_some, lt100, len_eq]
        by_cases h100 : (hitL a (m : Int) (y : Int) wd).length ≤ 100
        · rw [decide_eq_false (by omega), br_f, put_hits wd _ (by omega), Option.bind_some, region_ok, Option.bind_some, if_pos (by simpa using h100)]
          simp only
          rw [req_of (roomG (by rw [s_nadd, len_eq, len_eq]; simp only [List.length_singleton] at hvl ⊢; omega) (by omega)), Option.bind_some, inc_nat (by omega), hits_cover hv hm]
        · rw [decide_eq_true (by omega), br_t, if_neg (by simpa using h100)]
      · simp only [L_impl_WindowLayers_x8, letO_eq]
        rw [lt_false (by omega), br_f]
    rw [List.nil_append] at hwl
    generalize hq : laysW a m wd = Q at hwl ⊢
    rw [show ((0 : Int)) = ((0 : Nat) : Int) from rfl, hwl, Option.bind_some]
    unfold few
    cases hf : (List.range' 0 8).all (fun y => decide ((hitL a (m : Int) (y : Int) wd).length ≤ 100)) with
    | true =>
      rw [if_pos rfl, if_pos rfl]
      try simp only [letO_eq]
      try rfl
    | false =>
      rw [if_neg (by decide), if_neg (by decide)]
      try simp only [letO_eq]
  · rw [eq_false' hz, s_not, Bool.not_false, br_t, if_neg hz]
theorem laysW_len (a : TLibrary) (m : Nat) (wd : TRect) : (laysW a m wd).length = 8 := by
  unfold laysW
  rw [map_fm, List.length_map, List.length_range']
/- the layers of shapes -/
/-- the boxes of the shapes on a layer -/
noncomputable def onL (S : List TShape) (y : Int) : List TRect := S.flatMap fun s => if std.eq s.fLayer y then [s.fBox] else []
theorem onL_snoc (S : List TShape) (s : TShape) (y : Int) : onL (S ++ [s]) y = onL S y ++ (if std.eq s.fLayer y then [s.fBox] else []) := by
  unfold onL
  rw [List.flatMap_append, List.flatMap_cons, List.flatMap_nil, List.append_nil]
noncomputable def laysF (S : List TShape) : List (List TRect) := (List.range 8).flatMap fun y : Nat => [regn (cover (onL S (y : Int)))]
theorem laysF_len (S : List TShape) : (laysF S).length = 8 := by
  unfold laysF
  rw [map_fm, List.length_map, List.length_range]
/- the reference: flags row by row, runs, the region of flags -/
/-- the list of flags is the table -/
def BG (b : List Bool) (G : Nat → Nat → Bool) : Prop := b.length = 6400 ∧ ∀ i j, i < 80 → j < 80 → gd b (i * 80 + j) = G i j
theorem bg_zero : BG (List.replicate (std.toN 6400) false) zeroG := by
  have hl : (List.replicate (std.toN 6400) false).length = 6400 := by rw [List.length_replicate]; rfl
  refine ⟨hl, fun i j hi hj => ?_⟩
  rw [gd_lt (by omega), List.getElem_replicate]
  rfl
theorem bits_nil : ∃ b, F_spec_l03Bits [] = some b ∧ BG b zeroG := by
  refine ⟨_, ?_, bg_zero⟩
  unfold F_spec_l03Bits
  rw [req_of (by rw [s_nneg]; decide), req_of (by rw [s_room]; decide)]
  simp only [letO_eq]
  rw [show whileP (L_spec_l03Bits_x7 [] (List.replicate (std.toN 6400) false)) (0, List.replicate (std.toN 6400) false) = some (List.replicate (std.toN 6400) false) from while_from (fun i => ((i : Int), List.replicate (std.toN 6400) false)) 0 (r := List.replicate (std.toN 6400) false) rfl (fun i hi => absurd hi (by omega)) ?_, Option.bind_some, req_of rfl]
  simp only [L_spec_l03Bits_x7, letO_eq]
  rw [show std.lt ((0 : Nat) : Int) (std.ofN (len ([] : List TRect))) = false from rfl, br_f]
theorem at_ok {x y : Int} (hx : -40 ≤ x ∧ x < 40) (hy : -40 ≤ y ∧ y < 40) : std.add .i64 (std.add .i64 (std.mul .i64 (std.add .i64 y 40) 80) x) 40 = (((y + 40).toNat * 80 + (x + 40).toNat : Nat) : Int) := by
  rw [add_id (x := y) (by omega) (by omega), mul_id (by omega) (by omega), add_id (y := x) (by omega) (by omega), add_id (by omega) (by omega)]
  omega
theorem bg_set {b : List Bool} {G : Nat → Nat → Bool} (h : BG b G) {y x : Nat} (hy : y < 80) (hx : x < 80) : BG (b.set (y * 80 + x) true) (setG G y x true) := by
  refine ⟨by rw [List.length_set]; exact h.1, fun i j hi hj => ?_⟩
  have hl := h.1
  have h1 : i * 80 + j < b.length := by omega
  rw [gd_lt (by rw [List.length_set]; exact h1), List.getElem_set]
  unfold setG
  by_cases hc : i = y ∧ j = x
  · obtain ⟨rfl, rfl⟩ := hc
    rw [if_pos rfl, if_pos ⟨rfl, rfl⟩]
  · rw [if_neg (by omega), if_neg hc, ← gd_lt h1, h.2 i j hi hj]
/-- is a flag set -/
def hasG (G : Nat → Nat → Bool) (x y : Int) : Bool := decide ((-40 ≤ x ∧ x < 40) ∧ (-40 ≤ y ∧ y < 40)) && G (y + 40).toNat (x + 40).toNat
theorem in_ok (a b c : Int) : F_spec_l01In a b c = some (decide (b ≤ a) && decide (a ≤ c)) := by
  unfold F_spec_l01In
  rw [s_le, s_le]
  cases decide (b ≤ a) <;> rfl
theorem has_ok {b : List Bool} {G : Nat → Nat → Bool} (h : BG b G) (x y : Int) : F_spec_l03Has b x y = some (hasG G x y) := by
  unfold F_spec_l03Has hasG F_spec_l03At
  rw [in_ok, in_ok]
  have hl := h.1
  by_cases hx : -40 ≤ x ∧ x < 40
  · rw [show (decide (-40 ≤ x) && decide (x ≤ 39)) = true by rw [decide_eq_true hx.1, decide_eq_true (show x ≤ 39 by omega)]; rfl, Option.bind_some, br_t]
    by_cases hy : -40 ≤ y ∧ y < 40
    · rw [show (decide (-40 ≤ y) && decide (y ≤ 39)) = true by rw [decide_eq_true hy.1, decide_eq_true (show y ≤ 39 by omega)]; rfl, Option.bind_some, br_t, Option.bind_some, at_ok hx hy, req_of (inRl (by omega)), s_toNn, h.2 _ _ (by omega) (by omega), decide_eq_true ⟨hx, hy⟩]
      rfl
    · rw [show (decide (-40 ≤ y) && decide (y ≤ 39)) = false by
        rw [Bool.and_eq_false_iff, decide_eq_false_iff_not, decide_eq_false_iff_not]; omega, Option.bind_some, br_f, decide_eq_false (fun h => hy h.2)]
      rfl
  · rw [show (decide (-40 ≤ x) && decide (x ≤ 39)) = false by
      rw [Bool.and_eq_false_iff, decide_eq_false_iff_not, decide_eq_false_iff_not]; omega, Option.bind_some, br_f, decide_eq_false (fun h => hx h.1)]
    rfl
/-- where a row's flag changes, from x on; b: the flag ahead of x -/
def edg (f : Nat → Bool) : Nat → Nat → Bool → List Nat
  | 0, _, _ => []
  | n + 1, x, b => (if (decide (x < 80) && f x) != b then [x] else []) ++ edg f n (x + 1) (decide (x < 80) && f x)
theorem edg_ge (f : Nat → Bool) : ∀ n x b, ∀ z ∈ edg f n x b, x ≤ z
  | 0, x, b, z, h => by cases h
  | n + 1, x, b, z, h => by
    unfold edg at h
    rcases List.mem_append.1 h with h | h
    · split at h
      · simp at h; omega
      · cases h
    · have := edg_ge f n (x + 1) _ z h; omega
theorem edg_len (f : Nat → Bool) : ∀ n x b, (edg f n x b).length ≤ n
  | 0, x, b => by simp [edg]
  | n + 1, x, b => by
    unfold edg
    have := edg_len f n (x + 1) (decide (x < 80) && f x)
    rw [List.length_append]
    split <;> simp <;> omega
theorem edg_inj (f g : Nat → Bool) : ∀ n x b, edg f n x b = edg g n x b → ∀ j, x ≤ j → j < x + n → j < 80 → f j = g j
  | 0, x, b, h, j, h1, h2, h3 => by omega
  | n + 1, x, b, h, j, h1, h2, h3 => by
    unfold edg at h
    have hx : x < 80 := by omega
    have e : (decide (x < 80) && f x) = (decide (x < 80) && g x) := by
      cases hc : (decide (x < 80) && f x) != b with
      | true =>
        cases hd : (decide (x < 80) && g x) != b with
        | true =>
          revert hc hd
          cases (decide (x < 80) && f x) <;> cases (decide (x < 80) && g x) <;> cases b <;> simp
        | false =>
          rw [hc, hd] at h
          simp only [if_true, Bool.false_eq_true, if_false, List.nil_append, List.singleton_append] at h
          have : x ∈ edg g n (x + 1) (decide (x < 80) && g x) := by rw [← h]; exact List.mem_cons_self
          have := edg_ge g n (x + 1) _ x this; omega
      | false =>
        cases hd : (decide (x < 80) && g x) != b with
        | true =>
          rw [hc, hd] at h
          simp only [if_true, Bool.false_eq_true, if_false, List.nil_append, List.singleton_append] at h
          have : x ∈ edg f n (x + 1) (decide (x < 80) && f x) := by rw [h]; exact List.mem_cons_self
          have := edg_ge f n (x + 1) _ x this; omega
        | false =>
          revert hc hd
          cases (decide (x < 80) && f x) <;> cases (decide (x < 80) && g x) <;> cases b <;> simp
    rw [e] at h
    have ht := List.append_cancel_left h
    by_cases hj : j = x
    · subst hj
      rw [decide_eq_true hx, Bool.true_and, Bool.true_and] at e
      exact e
    · exact edg_inj f g n (x + 1) _ ht j (by omega) (by omega) h3
theorem edg_true (f : Nat → Bool) : ∀ n x, x + n = 80 → edg f (n + 1) x true = endR f n x :: edg f (80 - endR f n x) (endR f n x + 1) false
  | 0, x, h => by
    obtain rfl : x = 80 := by omega
    rfl
  | n + 1, x, h => by
    rw [edg]
    unfold endR
    rw [decide_eq_true (show x < 80 by omega), Bool.true_and]
    cases hf : f x with
    | true =>
      simp only [if_true, bne_self_eq_false, Bool.false_eq_true, if_false, List.nil_append]
      exact edg_true f n (x + 1) (by omega)
    | false =>
      simp only [Bool.false_eq_true, if_false]
      rw [if_pos (by decide), List.singleton_append, show 80 - x = n + 1 by omega]
/-- the changes are the runs' ends -/
theorem edg_runs (f : Nat → Bool) : ∀ n x m, m ≤ n → x + m = 81 → edg f m x false = (runsF f n x).flatMap fun p => [p.1, p.2]
  | 0, x, m, h1, h2 => by
    obtain rfl : m = 0 := by omega
    rfl
  | n + 1, x, m, h1, h2 => by
    unfold runsF
    by_cases h8 : 80 ≤ x
    · rw [if_pos h8]
      rcases (show m = 0 ∨ m = 1 by omega) with rfl | rfl
      · rfl
      · obtain rfl : x = 80 := by omega
        rfl
    · obtain ⟨q, rfl⟩ : ∃ q, m = q + 1 := ⟨m - 1, by omega⟩
      rw [if_neg h8, edg, decide_eq_true (show x < 80 by omega), Bool.true_and]
      cases hf : f x with
      | false =>
        simp only [bne_self_eq_false, Bool.false_eq_true, if_false, List.nil_append]
        exact edg_runs f n (x + 1) q (by omega) (by omega)
      | true =>
        obtain ⟨s, rfl⟩ : ∃ s, q = s + 1 := ⟨q - 1, by omega⟩
        have e80 : 80 - x = s + 1 := by omega
        have h3 := endR_ge f (s + 1) x
        have h4 := endR_le f (s + 1) x
        have hx1 : endR f (s + 1) x = endR f s (x + 1) := by
          rw [endR, if_pos hf]
        rw [if_pos (by decide), if_pos rfl, List.singleton_append, edg_true f s (x + 1) (by omega), ← hx1, e80, List.flatMap_cons, edg_runs f n (endR f (s + 1) x + 1) (80 - endR f (s + 1) x) (by
          have := endR_pos f (s + 1) x (by omega) hf; omega) (by omega)]
        rfl
theorem hasG_row {G : Nat → Nat → Bool} {y : Nat} (hy : y < 80) (x : Nat) : hasG G ((x : Int) - 40) ((y : Int) - 40) = (decide (x < 80) && G y x) := by
  unfold hasG
  rw [show ((y : Int) - 40 + 40).toNat = y by omega, show ((x : Int) - 40 + 40).toNat = x by omega]
  congr 1
  rw [Bool.eq_iff_iff, decide_eq_true_eq, decide_eq_true_eq]
  omega
def shI (l : List Nat) : List Int := l.map fun p : Nat => ((p : Int) - 40)
theorem runs_walk {b : List Bool} {G : Nat → Nat → Bool} (h : BG b G) {y : Nat} (hy : y < 80) : ∀ (n x : Nat) (acc : List Int), x + n = 81 → acc.length + n ≤ 1000 →
    whileP (L_spec_l03Runs_x5 b ((y : Int) - 40)) ((x : Int) - 40, acc) = some (acc ++ shI (edg (G y) n x (hasG G ((x : Int) - 40 - 1) ((y : Int) - 40))))
  | 0, x, acc, hx, ha => by
    rw [whileP_unfold]
    simp only [L_spec_l03Runs_x5, letO_eq]
    rw [le_false (by omega), br_f]
    simp [edg, shI]
  | n + 1, x, acc, hx, ha => by
    rw [whileP_unfold]
    simp only [L_spec_l03Runs_x5, letO_eq]
    rw [le_true (by omega), br_t, has_ok h, Option.bind_some, sub_id (by omega) (by omega), has_ok h, Option.bind_some, s_beq, s_not]
    have ih := fun acc' ha' => runs_walk h hy n (x + 1) acc' (by omega) ha'
    have e1 : (((x + 1 : Nat) : Int) - 40 - 1) = (x : Int) - 40 := by omega
    have e2 : ((x + 1 : Nat) : Int) - 40 = (x : Int) - 40 + 1 := by omega
    rw [e1, e2] at ih
    rw [edg, add_id (by omega) (by omega), ← hasG_row hy x]
    cases hc : (hasG G ((x : Int) - 40) ((y : Int) - 40) == hasG G ((x : Int) - 40 - 1) ((y : Int) - 40)) with
    | true =>
      rw [Bool.not_true, br_f, Option.bind_some]
      have : (hasG G ((x : Int) - 40) ((y : Int) - 40) != hasG G ((x : Int) - 40 - 1) ((y : Int) - 40)) = false := by rw [bne, hc]; rfl
      rw [this, if_neg (by decide), List.nil_append]
      exact ih acc (by omega)
    | false =>
      rw [Bool.not_false, br_t, req_of (roomG (by rw [s_nadd, len_eq, len_eq, List.length_singleton]; omega) (by omega)), Option.bind_some]
      have : (hasG G ((x : Int) - 40) ((y : Int) - 40) != hasG G ((x : Int) - 40 - 1) ((y : Int) - 40)) = true := by rw [bne, hc]; rfl
      rw [this, if_pos rfl]
      have := ih (acc ++ [(x : Int) - 40]) (by rw [List.length_append, List.length_singleton]; omega)
      rw [List.append_assoc] at this
      exact this
theorem runs_okS {b : List Bool} {G : Nat → Nat → Bool} (h : BG b G) {y : Nat} (hy : y < 80) : F_spec_l03Runs b ((y : Int) - 40) = some (shI (edg (G y) 81 0 false)) := by
  have hw := runs_walk h hy 81 0 [] (by omega) (by simp)
  unfold F_spec_l03Runs
  simp only [letO_eq]
  rw [show ((0 : Nat) : Int) - 40 = -40 by omega] at hw
  rw [hw, Option.bind_some, List.nil_append]
  have : hasG G (-40 - 1) ((y : Int) - 40) = false := by unfold hasG; rw [decide_eq_false (by omega)]; rfl
  rw [this]
theorem shI_inj {a b : List Nat} (h : shI a = shI b) : a = b := by
  unfold shI at h
  exact (List.map_inj_right fun p q h => by omega).1 h
theorem equal_okS (a b : List Int) (ha : a.length ≤ 1000) : F_spec_l03Equal a b = some (decide (a = b)) := by
  unfold F_spec_l03Equal
  by_cases hl : a.length = b.length
  · rw [notEq (eq_true' (by rw [len_eq, len_eq, hl])), br_f, scan (ok := fun i => decide (gd a i = gd b i)) (n := a.length) (yes := .inr ()) (no := .inl ()) (fun i hi => ?_) ?_, Option.bind_some]
    · have : (List.range a.length).all (fun i => decide (gd a i = gd b i)) = decide (a = b) := by
        rw [Bool.eq_iff_iff, List.all_eq_true, decide_eq_true_eq]
        constructor
        · intro h
          apply List.ext_getElem hl
          intro i h1 h2
          have := h i (List.mem_range.2 h1)
          rw [decide_eq_true_eq, gd_lt h1, gd_lt h2] at this
          exact this
        · rintro rfl i _
          simp
      rw [this]
      cases decide (a = b) <;> rfl
    · simp only [L_spec_l03Equal_x2, letO_eq]
      rw [ltl_f, br_f]
    · simp only [L_spec_l03Equal_x2, letO_eq]
      rw [ltl_t hi, br_t, req_of (inRl hi), req_of (inRl (by omega)), s_toNn, s_eq, s_not, inc_nat (by omega)]
      cases decide (gd a i = gd b i) <;> rfl
  · rw [eq_false' (by rw [len_eq, len_eq, s_ofN, s_ofN]; omega), s_not, Bool.not_false, br_t, decide_eq_false (fun h => hl (by rw [h]))]
theorem same_rows {b : List Bool} {G : Nat → Nat → Bool} {y z : Nat} : (shI (edg (G z) 81 0 false) = shI (edg (G y) 81 0 false)) ↔ rowEq G z y = true := by
  rw [rowEq_iff]
  constructor
  · intro h j hj
    exact edg_inj _ _ 81 0 false (shI_inj h) j (by omega) (by omega) hj
  · intro h
    have : ∀ n x c, edg (G z) n x c = edg (G y) n x c := by
      intro n
      induction n with
      | zero => intro x c; rfl
      | succ n ih =>
        intro x c
        have e : (decide (x < 80) && G z x) = (decide (x < 80) && G y x) := by
          by_cases hx : x < 80
          · rw [h x hx]
          · rw [decide_eq_false hx]; rfl
        rw [edg, edg, e, ih]
    rw [this]
theorem rows_walk {b : List Bool} {G : Nat → Nat → Bool} (h : BG b G) {y : Nat} (hy : y < 80) : ∀ n x : Nat, x + n = 80 → whileP (L_spec_l03Canon_x20 b (shI (edg (G y) 81 0 false))) ((x : Int) - 40) = some (((endR (fun e => rowEq G e y) n x : Nat) : Int) - 40)
  | 0, x, hx => by
    rw [whileP_unfold]
    simp only [L_spec_l03Canon_x20, letO_eq]
    rw [lt_false (by omega), br_f, Option.bind_some, br_f]
    rfl
  | n + 1, x, hx => by
    rw [whileP_unfold]
    simp only [L_spec_l03Canon_x20, letO_eq]
    have hl := edg_len (G x) 81 0 false
    rw [lt_true (by omega), br_t, runs_okS h (by omega), Option.bind_some, equal_okS _ _ (by unfold shI; rw [List.length_map]; omega), Option.bind_some, Option.bind_some]
    unfold endR
    cases hr : rowEq G x y with
    | true =>
      rw [decide_eq_true ((same_rows (b := b)).2 hr), br_t, if_pos rfl, add_id (by omega) (by omega)]
      have := rows_walk h hy n (x + 1) (by omega)
      rw [show ((x + 1 : Nat) : Int) - 40 = (x : Int) - 40 + 1 by omega] at this
      exact this
    | false =>
      rw [decide_eq_false (fun h' => by rw [(same_rows (b := b)).1 h'] at hr; cases hr), br_f, if_neg (by decide)]
theorem pairs_at (R : List (Nat × Nat)) : ∀ i, i < R.length → gd (shI (R.flatMap fun p => [p.1, p.2])) (2 * i) = ((gd R i).1 : Int) - 40 ∧ gd (shI (R.flatMap fun p => [p.1, p.2])) (2 * i + 1) = ((gd R i).2 : Int) - 40 := by
  induction R with
  | nil => intro i hi; cases hi
  | cons p r ih =>
    intro i hi
    cases i with
    | zero => exact ⟨rfl, rfl⟩
    | succ i =>
      have := ih i (by simpa using hi)
      have e : shI ((p :: r).flatMap fun p => [p.1, p.2]) = ((p.1 : Int) - 40) :: ((p.2 : Int) - 40) :: shI (r.flatMap fun p => [p.1, p.2]) := rfl
      have g2 : ∀ (a b : Int) (l : List Int) (k : Nat), gd (a :: b :: l) (k + 2) = gd l k := fun a b l k => rfl
      have g1 : gd (p :: r) (i + 1) = gd r i := rfl
      rw [e, show 2 * (i + 1) = 2 * i + 2 by omega, g2, show 2 * i + 2 + 1 = (2 * i + 1) + 2 by omega, g2, g1]
      exact this
theorem pairs_len (R : List (Nat × Nat)) : (shI (R.flatMap fun p => [p.1, p.2])).length = 2 * R.length := by
  unfold shI
  rw [List.length_map]
  induction R with
  | nil => rfl
  | cons p r ih => rw [List.flatMap_cons, List.length_append, ih, List.length_cons]; simp; omega
theorem pairs_walk (y e : Nat) (R : List (Nat × Nat)) (hR : R.length ≤ 1000) (acc : List TRect) (ha : acc.length ≤ 100000) :
    whileP (L_spec_l03Canon_x48 ((y : Int) - 40) (shI (R.flatMap fun p => [p.1, p.2])) ((e : Int) - 40)) (0, acc) = some (acc ++ R.map (mkR y e)) := by
  have hl := pairs_len R
  refine while_from (fun i => (((2 * i : Nat) : Int), acc ++ (R.take i).map (mkR y e))) R.length (by simp) (fun i hi => ?_) ?_
  · simp only [L_spec_l03Canon_x48, letO_eq]
    have e1 : std.add .i64 ((2 * i : Nat) : Int) 1 = ((2 * i + 1 : Nat) : Int) := inc_nat (by omega)
    have e2 : std.add .i64 ((2 * i : Nat) : Int) 2 = ((2 * (i + 1) : Nat) : Int) := by rw [add_id (by omega) (by omega)]; omega
    rw [e1, e2, lt_true (by rw [s_ofN, len_eq, hl]; omega), br_t, req_of (inRl (by rw [hl]; omega)), req_of (inRl (by rw [hl]; omega))]
    simp only [s_nadd, s_toNn, Nat.zero_add]
    rw [(pairs_at R i hi).1, (pairs_at R i hi).2,
      req_of (roomG (by rw [len_eq, len_eq, List.length_append, List.length_map, List.length_take, List.length_singleton]; omega) (by omega)), take_snocG hi, List.map_append, List.append_assoc]
    rfl
  · simp only [L_spec_l03Canon_x48, letO_eq]
    rw [show std.add .i64 ((2 * R.length : Nat) : Int) 1 = ((2 * R.length + 1 : Nat) : Int) from inc_nat (by omega), lt_false (by rw [s_ofN, len_eq, hl]; omega), br_f, List.take_length]
theorem canon_walk {b : List Bool} {G : Nat → Nat → Bool} (h : BG b G) : ∀ (n y : Nat) (acc : List TRect), 80 ≤ y + n → y ≤ 80 → acc.length + 40 * (80 - y) ≤ 90000 → whileP (L_spec_l03Canon_x5 b) ((y : Int) - 40, acc) = some (acc ++ regF G n y)
  | 0, y, acc, hn, hy, ha => by
    rw [whileP_unfold]
    simp only [L_spec_l03Canon_x5, letO_eq]
    rw [lt_false (by omega), br_f]
    simp [regF]
  | n + 1, y, acc, hn, hy, ha => by
    rw [whileP_unfold]
    simp only [L_spec_l03Canon_x5, letO_eq]
    unfold regF
    by_cases h8 : 80 ≤ y
    · rw [lt_false (by omega), br_f, if_pos h8]
      simp
    · have h1 := endR_ge (fun e => rowEq G e y) (80 - (y + 1)) (y + 1)
      have h2 := endR_le (fun e => rowEq G e y) (80 - (y + 1)) (y + 1)
      have h4 := runsF_len (G y) 81 0 (by omega)
      have hw := rows_walk h (y := y) (by omega) (80 - (y + 1)) (y + 1) (by omega)
      rw [show ((y + 1 : Nat) : Int) - 40 = (y : Int) - 40 + 1 by omega] at hw
      rw [lt_true (by omega), br_t, runs_okS h (by omega), Option.bind_some, add_id (by omega) (by omega), hw, Option.bind_some, edg_runs (G y) 81 0 81 (by omega) (by omega), pairs_walk y _ _ (by omega) acc (by omega), Option.bind_some, if_neg h8]
      have := canon_walk h n (endR (fun e => rowEq G e y) (80 - (y + 1)) (y + 1)) (acc ++ (runsF (G y) 81 0).map (mkR y (endR (fun e => rowEq G e y) (80 - (y + 1)) (y + 1)))) (by omega) (by omega) (by rw [List.length_append, List.length_map]; omega)
      rw [List.append_assoc] at this
      exact this
theorem canon_ok {b : List Bool} {G : Nat → Nat → Bool} (h : BG b G) : F_spec_l03Canon b = some (regn G) := by
  have hw := canon_walk h 80 0 [] (by omega) (by omega) (by simp)
  rw [List.nil_append, show ((0 : Nat) : Int) - 40 = -40 by omega] at hw
  unfold F_spec_l03Canon regn
  simp only [letO_eq]
  rw [hw, Option.bind_some]
/-- a rectangle that does not leave the chip -/
def onChip (r : TRect) : Prop := -40 ≤ r.fX0 ∧ r.fX1 ≤ 40 ∧ -40 ≤ r.fY0 ∧ r.fY1 ≤ 40
theorem while_rngE {β : Type} {st : Int × β → Option ((Int × β) ⊕ β)} (lo hi : Int) (R : Int → β → Prop) {b0 : β} (h0 : R lo b0) (h : ∀ v b, lo ≤ v → v < hi → R v b → ∃ b', st (v, b) = some (.inl (v + 1, b')) ∧ R (v + 1) b') (he : ∀ v b, ¬ v < hi → st (v, b) = some (.inr b)) :
    ∃ b', whileP st (lo, b0) = some b' ∧ R (max lo hi) b' := by
  have key : ∀ (n : Nat) (v : Int) (b : β), lo ≤ v → v ≤ max lo hi → (max lo hi - v).toNat = n → R v b → ∃ b', whileP st (v, b) = some b' ∧ R (max lo hi) b' := by
    intro n
    induction n with
    | zero =>
      intro v b h1 h2 h3 hr
      have : v = max lo hi := by omega
      subst this
      exact ⟨b, by rw [whileP_unfold, he _ _ (by omega)], hr⟩
    | succ n ih =>
      intro v b h1 h2 h3 hr
      obtain ⟨b', h4, h5⟩ := h v b h1 (by omega) hr
      obtain ⟨b2, h6, h7⟩ := ih (v + 1) b' (by omega) (by omega) (by omega) h5
      exact ⟨b2, by rw [whileP_unfold, h4]; exact h6, h7⟩
  exact key _ lo b0 (by omega) (by omega) rfl h0
/- the reference's layers of a window -/
theorem bg_congr {b : List Bool} {G H : Nat → Nat → Bool} (h : BG b G) (he : ∀ i j, i < 80 → j < 80 → G i j = H i j) : BG b H := ⟨h.1, fun i j hi hj => (h.2 i j hi hj).trans (he i j hi hj)⟩
theorem lay_x (S : List TShape) (y16 : List Bool) (hy16 : y16.length = 6400) (i : Nat) {s : TShape} (hs : gd S i = s) (hc : onChip s.fBox) {y : Int} (hy : -40 ≤ y ∧ y < 40) {b : List Bool} {G : Nat → Nat → Bool} (hb : BG b G) :
    ∃ b', whileP (L_spec_l10Layout_x58 S y16 (i : Int) y) (s.fBox.fX0, b) = some b' ∧ BG b' (fun p q => G p q || decide ((p : Int) - 40 = y ∧ s.fBox.fX0 ≤ (q : Int) - 40 ∧ (q : Int) - 40 < s.fBox.fX1)) := by
  obtain ⟨c1, c2, c3, c4⟩ := hc
  refine (while_rngE (st := L_spec_l10Layout_x58 S y16 (i : Int) y) s.fBox.fX0 s.fBox.fX1 (fun v b => BG b (fun p q => G p q || decide ((p : Int) - 40 = y ∧ s.fBox.fX0 ≤ (q : Int) - 40 ∧ (q : Int) - 40 < v))) (b0 := b) (bg_congr hb fun p q _ _ => by rw [decide_eq_false (by omega), Bool.or_false]) (fun v b hv1 hv2 hR => ?_) (fun v b hv => ?_)).imp fun b' ⟨h1, h2⟩ => ⟨h1, ?_⟩
  · simp only [L_spec_l10Layout_x58, letO_eq]
    have hl := hR.1
    rw [s_toNn, hs, lt_true hv2, br_t, at_ok (x := v) (y := y) (by omega) hy, req_of (inRl (by omega)), req_of (by rw [len_eq, len_eq]; omega), s_nadd, s_toNn, Nat.zero_add, add_id (by omega) (by omega)]
    refine ⟨_, rfl, bg_congr (bg_set hR (by omega) (by omega)) fun p q hp hq => ?_⟩
    unfold setG
    by_cases h : p = (y + 40).toNat ∧ q = (v + 40).toNat
    · rw [if_pos h, decide_eq_true (by omega), Bool.or_true]
    · rw [if_neg h]
      dsimp only
      congr 1
      rw [Bool.eq_iff_iff, decide_eq_true_eq, decide_eq_true_eq]
      omega
  · simp only [L_spec_l10Layout_x58, letO_eq]
    rw [s_toNn, hs, lt_false hv, br_f]
  · refine bg_congr h2 fun p q _ _ => ?_
    congr 1
    rw [Bool.eq_iff_iff, decide_eq_true_eq, decide_eq_true_eq]
    omega
theorem lay_y (S : List TShape) (lay : Int) (y16 : List Bool) (hy16 : y16.length = 6400) (i : Nat) (hi : i < S.length) {s : TShape} (hs : gd S i = s) (hc : onChip s.fBox) {b : List Bool} {G : Nat → Nat → Bool} (hb : BG b G) :
    ∃ b', whileP (L_spec_l10Layout_x35 S lay y16 (i : Int)) (s.fBox.fY0, b) = some b' ∧ BG b' (if std.eq s.fLayer lay then orG G (inG s.fBox) else G) := by
  have hcc := hc
  obtain ⟨c1, c2, c3, c4⟩ := hc
  cases he : std.eq s.fLayer lay with
  | false =>
    refine ⟨b, ?_, hb⟩
    rw [whileP_unfold]
    simp only [L_spec_l10Layout_x35, letO_eq]
    rw [req_of (inRl hi), s_toNn, hs, he, br_f, Option.bind_some, br_f]
  | true =>
    refine (while_rngE (st := L_spec_l10Layout_x35 S lay y16 (i : Int)) s.fBox.fY0 s.fBox.fY1 (fun v b => BG b (fun p q => G p q || decide ((s.fBox.fY0 ≤ (p : Int) - 40 ∧ (p : Int) - 40 < v) ∧ s.fBox.fX0 ≤ (q : Int) - 40 ∧ (q : Int) - 40 < s.fBox.fX1))) (b0 := b) (bg_congr hb fun p q _ _ => by rw [decide_eq_false (by omega), Bool.or_false]) (fun v b hv1 hv2 hR => ?_) (fun v b hv => ?_)).imp fun b' ⟨h1, h2⟩ => ⟨h1, ?_⟩
    · simp only [L_spec_l10Layout_x35, letO_eq]
      obtain ⟨b2, h3, h4⟩ := lay_x S y16 hy16 i hs hcc (y := v) (by omega) hR
      rw [req_of (inRl hi), s_toNn, hs, he, br_t, lt_true hv2, Option.bind_some, br_t, h3, Option.bind_some, add_id (by omega) (by omega)]
      refine ⟨_, rfl, bg_congr h4 fun p q hp hq => ?_⟩
      rw [Bool.or_assoc]
      congr 1
      rw [Bool.eq_iff_iff, Bool.or_eq_true, decide_eq_true_eq, decide_eq_true_eq, decide_eq_true_eq]
      omega
    · simp only [L_spec_l10Layout_x35, letO_eq]
      rw [req_of (inRl hi), s_toNn, hs, he, br_t, lt_false hv, Option.bind_some, br_f]
    · refine bg_congr h2 fun p q hp hq => ?_
      rw [if_pos rfl]
      unfold orG inG
      congr 1
      rw [Bool.eq_iff_iff, decide_eq_true_eq, decide_eq_true_eq]
      omega
theorem lay_s (S : List TShape) (hS : S.length ≤ 10000000) (hc : ∀ s ∈ S, onChip s.fBox) (lay : Int) (y16 : List Bool) (hy16 : BG y16 zeroG) :
    ∃ b', whileP (L_spec_l10Layout_x20 S lay y16) (0, y16) = some b' ∧ BG b' (cover (onL S lay)) := by
  refine (while_rngE (st := L_spec_l10Layout_x20 S lay y16) 0 (S.length : Int) (fun v b => BG b (cover (onL (S.take v.toNat) lay))) (b0 := y16) (by simpa [onL, cover_nil] using hy16) (fun v b hv1 hv2 hR => ?_) (fun v b hv => ?_)).imp fun b' ⟨h1, h2⟩ => ⟨h1, ?_⟩
  · obtain ⟨i, rfl⟩ := Int.eq_ofNat_of_zero_le hv1
    have hi : i < S.length := by omega
    obtain ⟨b2, h3, h4⟩ := lay_y S lay y16 hy16.1 i hi rfl (hc _ (gd_mem hi)) hR
    simp only [L_spec_l10Layout_x20, letO_eq]
    rw [ltl_t hi, br_t, req_of (inRl hi), s_toNn, h3, Option.bind_some, inc_nat (by omega)]
    refine ⟨_, rfl, ?_⟩
    rw [Int.toNat_natCast] at h4
    rw [show ((i : Int) + 1).toNat = i + 1 by omega, take_snocG hi, onL_snoc]
    cases he : std.eq (gd S i).fLayer lay with
    | true => rw [he, if_pos rfl, cover_snoc] at h4; rw [if_pos rfl]; exact h4
    | false => rw [he] at h4; simpa using h4
  · simp only [L_spec_l10Layout_x20, letO_eq]
    rw [lt_false (by rw [s_ofN, len_eq]; exact hv), br_f]
  · refine ?_
    have e : (max 0 (S.length : Int)).toNat = S.length := by omega
    rw [e, List.take_length] at h2
    exact h2
theorem layout_ok (S : List TShape) (hS : S.length ≤ 10000000) (hc : ∀ s ∈ S, onChip s.fBox) : F_spec_l10Layout S = some (laysF S) := by
  unfold F_spec_l10Layout
  have hw : whileP (L_spec_l10Layout_x4 S) (0, ([] : List (List TRect))) = some ([] ++ laysF S) := by
    refine while_fm (fun y : Nat => [regn (cover (onL S (y : Int)))]) 8 [] 100 (by
      have : ((List.range 8).flatMap fun y : Nat => [regn (cover (onL S (y : Int)))]).length = 8 := laysF_len S
      rw [this]; simp) (fun y hy v hvl => ?_) (fun v => ?_)
    · simp only [L_spec_l10Layout_x4, letO_eq]
      simp only [List.length_singleton] at hvl
      obtain ⟨b0, h1, h2⟩ := bits_nil
      obtain ⟨b2, h3, h4⟩ := lay_s S hS hc (y : Int) b0 h2
      rw [lt_true (by omega), br_t, h1, Option.bind_some, h3, Option.bind_some, canon_ok h4, Option.bind_some, req_of (by rw [len_eq, len_eq, h2.1, h4.1]), req_of (roomG (by rw [s_nadd, len_eq, len_eq]; simp only [List.length_singleton]; omega) (by omega)), Option.bind_some, inc_nat (by omega)]
    · simp only [L_spec_l10Layout_x4, letO_eq]
      rw [lt_false (by omega), br_f]
  rw [hw, Option.bind_some, List.nil_append]
  rfl
theorem wCode_lay (a : TLibrary) (k : Int) (wd : TRect) (y : Nat) (hy : y < 8) : wCode a k (y : Int) wd = wCode a k 0 wd := by
  have h1 : wB (y : Int) 0 7 = true := (wB_iffG _ _ _).2 (by omega)
  have h2 : wB 0 0 7 = true := (wB_iffG _ _ _).2 (by omega)
  unfold wCode
  rw [h1, h2]
noncomputable def cutS (a : TLibrary) (m : Nat) (wd : TRect) (y : Nat) : List TShape := (hitL a (m : Int) (y : Int) wd).map fun h => ⟨(y : Int), cutR wd h.fBox⟩
theorem onL_tag (H : List TWindowHit) (wd : TRect) (y z : Nat) : onL (H.map fun h => (⟨(y : Int), cutR wd h.fBox⟩ : TShape)) (z : Int) = if y = z then H.map (fun h => cutR wd h.fBox) else [] := by
  unfold onL
  rw [List.flatMap_map]
  by_cases h : y = z
  · subst h
    rw [if_pos rfl]
    rw [← map_fm]
    refine congrArg (fun f => List.flatMap f _) (funext fun h => ?_)
    simp only
    rw [eq_true' rfl, if_pos rfl]
  · rw [if_neg h]
    refine List.flatMap_eq_nil_iff.2 fun x _ => ?_
    simp only
    rw [eq_false' (by omega), if_neg (by decide)]
theorem onL_app (a b : List TShape) (z : Int) : onL (a ++ b) z = onL a z ++ onL b z := by unfold onL; rw [List.flatMap_append]
theorem onL_fm (g : Nat → List TShape) (z : Int) : ∀ l : List Nat, onL (l.flatMap g) z = l.flatMap fun y => onL (g y) z
  | [] => rfl
  | x :: r => by rw [List.flatMap_cons, List.flatMap_cons, onL_app, onL_fm g z r]
theorem pick_fm {β : Type} (F : Nat → List β) (z n : Nat) (hz : z < n) : ((List.range n).flatMap fun y => if y = z then F y else []) = F z := by
  induction n with
  | zero => omega
  | succ n ih =>
    rw [List.range_succ, List.flatMap_append, List.flatMap_cons, List.flatMap_nil, List.append_nil]
    by_cases h : z = n
    · subst h
      rw [if_pos rfl, List.flatMap_eq_nil_iff.2 (fun y hy => by rw [if_neg (by have := List.mem_range.1 hy; omega)]), List.nil_append]
    · rw [ih (by omega), if_neg (by omega), List.append_nil]
theorem layers_same {a : TLibrary} (hv : okLib a = true) {m : Nat} (hm : m < a.fCells.length) (wd : TRect) : laysF ((List.range' 0 8).flatMap (cutS a m wd)) = laysW a m wd := by
  unfold laysF laysW
  rw [map_fm, map_fm, List.range_eq_range']
  apply List.map_congr_left
  intro z hz
  have hz8 : z < 8 := by have := List.mem_range'_1.1 hz; omega
  rw [onL_fm, ← List.range_eq_range']
  have e : ((List.range 8).flatMap fun y => onL (cutS a m wd y) (z : Int)) = (hitL a (m : Int) (z : Int) wd).map fun h => cutR wd h.fBox := by
    unfold cutS
    simp only [onL_tag]
    exact pick_fm (fun y : Nat => (hitL a (m : Int) (y : Int) wd).map fun h => cutR wd h.fBox) z 8 hz8
  rw [e, hits_cover hv hm]
theorem spec_winLayers_ok (a : TLibrary) (k : Int) (wd : TRect) (h : SmallL a) : F_spec_WindowLayers a k wd = some (wlR a k wd) := by
  unfold F_spec_WindowLayers wlR
  simp only [letO_eq]
  by_cases hz : wCode a k 0 wd = 0
  · obtain ⟨hv, hw, ⟨m, rfl, hm, hcn⟩, _⟩ := wCode_zero hz
    obtain ⟨q1, q2, q3, q4, q5, q6⟩ := okRect_iff.1 hw
    rw [if_pos hz, Int.toNat_natCast]
    have hlen : ∀ y : Nat, (cutS a m wd y).length ≤ 4800 := fun y => by unfold cutS; rw [List.length_map]; exact hit_len hv hm hcn (y : Int) wd
    have hSl : ((List.range' 0 8).flatMap (cutS a m wd)).length ≤ 38400 := by
      have := fm_len_le (List.range' 0 8) (cutS a m wd) 4800 (fun y _ => hlen y)
      rw [List.length_range'] at this
      omega
    have hwl : whileP (L_spec_WindowLayers_x5 a (m : Int) wd) (((0 : Nat) : Int), ([] : List TShape)) = some (if (List.range' 0 8).all (fun y => decide ((hitL a (m : Int) (y : Int) wd).length ≤ 100)) then .inr ([] ++ (List.range' 0 8).flatMap (cutS a m wd)) else .inl 3) := by
      refine while_chk (cutS a m wd) (fun y : Nat => decide ((hitL a (m : Int) (y : Int) wd).length ≤ 100)) 8 3 40000 (fun y hy v hvl => ?_) (fun v => ?_) 8 0 [] (by omega) (by rw [List.length_nil]; omega)
      · simp only [L_spec_WindowLayers_x5, letO_eq]
        rw [show TLibrary.mk a.fCells = a from rfl, show TRect.mk wd.fX0 wd.fY0 wd.fX1 wd.fY1 = wd from rfl, lt_true (by omega), br_t, spec_WindowShapes_ok a _ _ wd h, Option.bind_some]
        unfold wsR capR
        rw [wCode_lay a _ wd y hy, hz, if_pos rfl]
        by_cases h100 : 100 < (hitL a (m : Int) (y : Int) wd).length
        · rw [if_pos h100, if_neg (by simpa using h100)]
          rfl
        · rw [if_neg h100, if_pos (by simpa using h100)]
          simp only
          rw [notEq (eq_true' rfl), br_f]
          obtain ⟨L, hL⟩ : ∃ L, L = hitL a (m : Int) (y : Int) wd := ⟨_, rfl⟩
          have hcs : cutS a m wd y = L.map fun h => ⟨(y : Int), cutR wd h.fBox⟩ := by unfold cutS; rw [← hL]
          rw [hcs, List.length_map] at hvl
          rw [← hL] at h100
          have e : (List.range L.length).flatMap (fun i => [(⟨(y : Int), cutR wd (gd L i).fBox⟩ : TShape)]) = L.map fun h => ⟨(y : Int), cutR wd h.fBox⟩ := (range_fm L fun h : TWindowHit => [(⟨(y : Int), cutR wd h.fBox⟩ : TShape)]).trans (map_fm _ _)
          have w : whileP (L_spec_WindowLayers_x21 wd (y : Int) (L, 0)) (0, v) = some (v ++ L.map fun h => ⟨(y : Int), cutR wd h.fBox⟩) := by
            refine (while_fm (fun i => [(⟨(y : Int), cutR wd (gd L i).fBox⟩ : TShape)]) L.length v 50000 (by rw [e, List.length_map]; omega) (fun i hi u hu => ?_) (fun u => ?_)).trans (by rw [e])
            · simp only [L_spec_WindowLayers_x21, letO_eq]
              simp only [List.length_singleton] at hu
              have hclip : ∀ r : TRect, F_spec_l12Clip r wd = some (cutR wd r) := by
                intro r; unfold F_spec_l12Clip cutR; rw [s_imax, s_imax, s_imin, s_imin]
              rw [show TRect.mk wd.fX0 wd.fY0 wd.fX1 wd.fY1 = wd from rfl, ltl_t hi, br_t, req_of (inRl hi), s_nadd, s_toNn, Nat.zero_add, hclip, Option.bind_some, req_of (roomG (by rw [s_nadd, len_eq, len_eq]; simp only [List.length_singleton]; omega) (by omega)), inc_nat (by omega)]
            · simp only [L_spec_WindowLayers_x21, letO_eq]
              rw [ltl_f, br_f]
          rw [← hL, w, Option.bind_some, inc_nat (by omega), hcs]
      · simp only [L_spec_WindowLayers_x5, letO_eq]
        rw [lt_false (by omega), br_f]
    rw [List.nil_append] at hwl
    obtain ⟨S, hS⟩ : ∃ S, S = (List.range' 0 8).flatMap (cutS a m wd) := ⟨_, rfl⟩
    have hlo : F_spec_l10Layout S = some (laysW a m wd) := by
      rw [← layers_same hv hm wd, ← hS]
      refine layout_ok S (by rw [hS]; omega) fun s hs => ?_
      rw [hS] at hs
      obtain ⟨y, _, hs⟩ := List.mem_flatMap.1 hs
      unfold cutS at hs
      obtain ⟨x, _, rfl⟩ := List.mem_map.1 hs
      unfold onChip cutR
      simp only
      omega
    rw [← hS] at hwl
    generalize laysW a m wd = Q at hlo ⊢
    rw [show ((0 : Int)) = ((0 : Nat) : Int) from rfl, hwl, Option.bind_some]
    unfold few
    cases hf : (List.range' 0 8).all (fun y => decide ((hitL a (m : Int) (y : Int) wd).length ≤ 100)) with
    | true =>
      rw [if_pos rfl, if_pos rfl]
      simp only
      rw [hlo]
      rfl
    | false =>
      rw [if_neg (by decide), if_neg (by decide)]
  · rw [if_neg hz, whileP_unfold]
    have e : L_spec_WindowLayers_x5 a k wd (0, []) = some (.inr (.inl (wCode a k 0 wd))) := by
      simp only [L_spec_WindowLayers_x5, letO_eq]
      rw [show TLibrary.mk a.fCells = a from rfl, show TRect.mk wd.fX0 wd.fY0 wd.fX1 wd.fY1 = wd from rfl, lt_true (by omega), br_t, spec_WindowShapes_ok a _ _ wd h, Option.bind_some]
      unfold wsR capR
      rw [if_neg hz]
      simp only
      rw [eq_false' hz, s_not, Bool.not_false, br_t]
    rw [e]
    rfl
/- marks in lists of lists of rectangles -/
def mR4 (K : Nat) : TRect := ⟨((K : Nat) : Int), ((K + 1 : Nat) : Int), ((K + 1 + 1 : Nat) : Int), ((K + 1 + 1 + 1 : Nat) : Int)⟩
def mRs (n k : Nat) : List TRect := (List.range n).map fun i => mR4 (k + 4 * i)
theorem mRs_len (n k : Nat) : (mRs n k).length = n := by simp [mRs]
theorem mRs_at {n k i : Nat} (h : i < n) : gd (mRs n k) i = mR4 (k + 4 * i) := range_gd (fun i => mR4 (k + 4 * i)) n i h
set_option maxHeartbeats 4000000 in
theorem markRectS_ok (l : List TRect) (k : Nat) (hl : l.length ≤ 1048576) (hk : k ≤ 100000000000000) : F_laws_markRectS_mob l k = some (((k + 4 * l.length : Nat) : Int), mRs l.length k) := by
  unfold F_laws_markRectS_mob
  refine Eq.trans (bind_of (while_from (r := (((k + 4 * l.length : Nat) : Int), mRs l.length k)) (fun i => (((k + 4 * i : Nat) : Int), (i : Int), markd (fun i => mR4 (k + 4 * i)) l i)) l.length (by simp [markd_zero]) (fun i hi => ?_) ?_)) ?_
  · obtain ⟨K, hK⟩ : ∃ K, K = k + 4 * i := ⟨_, rfl⟩
    have hml : (markd (fun i => mR4 (k + 4 * i)) l i).length = l.length := markd_len _ _ _ (by omega)
    have hmi : i < (markd (fun i => mR4 (k + 4 * i)) l i).length := by rw [hml]; exact hi
    have hin : std.inR (i : Int) l.length := inRl hi
    have hlt : std.lt (i : Int) (std.ofN l.length) = true := ltl_t hi
    have a1 : std.add .i64 ((K : Nat) : Int) 1 = ((K + 1 : Nat) : Int) := inc_nat (by omega)
    have a2 : std.add .i64 ((K + 1 : Nat) : Int) 1 = ((K + 1 + 1 : Nat) : Int) := inc_nat (by omega)
    have a3 : std.add .i64 ((K + 1 + 1 : Nat) : Int) 1 = ((K + 1 + 1 + 1 : Nat) : Int) := inc_nat (by omega)
    have a4 : std.add .i64 ((K + 1 + 1 + 1 : Nat) : Int) 1 = ((K + 1 + 1 + 1 + 1 : Nat) : Int) := inc_nat (by omega)
    have b1 : std.add .i64 (i : Int) 1 = ((i + 1 : Nat) : Int) := inc_nat (by omega)
    rw [← hK]
    simp only [L_laws_markRectS_mob_x4, letO_eq, s_toNn, s_nadd, Nat.zero_add, len_eq, List.length_set, hml, hlt, br_t, Option.bind_some, req_of hin, req_reflM, req_true, List.set_set, gd_set_selfM _ _ _ hmi, a1, a2, a3, a4, b1]
    have e2 : mR4 (k + 4 * i) = mR4 K := by rw [← hK]
    have e3 : K + 1 + 1 + 1 + 1 = k + 4 * (i + 1) := by omega
    rw [← markd_set (fun i => mR4 (k + 4 * i)) l i hi, e2, e3]
    rfl
  · simp only [L_laws_markRectS_mob_x4, letO_eq]
    rw [ltl_f, br_f, markd_full]
    rfl
  · simp only [letO_eq]
    rw [req_of (by rw [len_eq, len_eq, mRs_len])]
theorem heldRectS_ok (n k : Nat) (hn : n ≤ 1048576) (hk : k ≤ 100000000000000) : F_laws_heldRectS (mRs n k) k = some ((k + 4 * n : Nat) : Int) := by
  unfold F_laws_heldRectS
  have hL := mRs_len n k
  refine Eq.trans (bind_of (while_from (r := .inr ((k + 4 * n : Nat) : Int)) (fun i => (((k + 4 * i : Nat) : Int), (i : Int))) n rfl (fun i hi => ?_) ?_)) rfl
  · obtain ⟨K, hK⟩ : ∃ K, K = k + 4 * i := ⟨_, rfl⟩
    have a1 : std.add .i64 ((K : Nat) : Int) 1 = ((K + 1 : Nat) : Int) := inc_nat (by omega)
    have a2 : std.add .i64 ((K + 1 : Nat) : Int) 1 = ((K + 1 + 1 : Nat) : Int) := inc_nat (by omega)
    have a3 : std.add .i64 ((K + 1 + 1 : Nat) : Int) 1 = ((K + 1 + 1 + 1 : Nat) : Int) := inc_nat (by omega)
    have a4 : std.add .i64 ((K + 1 + 1 + 1 : Nat) : Int) 1 = ((K + 1 + 1 + 1 + 1 : Nat) : Int) := inc_nat (by omega)
    have b1 : std.add .i64 (i : Int) 1 = ((i + 1 : Nat) : Int) := inc_nat (by omega)
    have hin : std.inR (i : Int) (len (mRs n k)) := inRl (by rw [hL]; exact hi)
    have hlt : std.lt (i : Int) (std.ofN (len (mRs n k))) = true := ltl_t (by rw [hL]; exact hi)
    have hg : gd (mRs n k) i = mR4 K := by rw [mRs_at hi, hK]
    have e3 : K + 1 + 1 + 1 + 1 = k + 4 * (i + 1) := by omega
    rw [← hK]
    simp only [L_laws_heldRectS_x3, letO_eq, s_toNn, hlt, br_t, req_of hin, hg, a1, a2, a3, a4, b1, mR4, eq_true' rfl, s_not, Bool.not_true, br_f, e3]
  · simp only [L_laws_heldRectS_x3, letO_eq]
    rw [show std.lt (n : Int) (std.ofN (len (mRs n k))) = false from lt_false (by rw [s_ofN, len_eq, hL]; omega), br_f]
def offS (l : List (List TRect)) : Nat → Nat
  | 0 => 0
  | i + 1 => offS l i + 4 * (gd l i).length
theorem offS_le {l : List (List TRect)} (h : ∀ x ∈ l, x.length ≤ 3200) : ∀ i, i ≤ l.length → offS l i ≤ i * 12800
  | 0, _ => by simp [offS]
  | i + 1, hi => by
    have h1 := offS_le h i (by omega)
    have h2 := h _ (gd_mem (show i < l.length by omega))
    show offS l i + 4 * (gd l i).length ≤ _
    omega
def mSS (l : List (List TRect)) (k i : Nat) : List TRect := mRs (gd l i).length (k + offS l i)
set_option maxHeartbeats 4000000 in
theorem markRectSS_ok (l : List (List TRect)) (k : Nat) (hl : l.length ≤ 1000) (hs : ∀ x ∈ l, x.length ≤ 3200) (hk : k ≤ 1000000) : F_laws_markRectSS_mob l k = some (((k + offS l l.length : Nat) : Int), (List.range l.length).map (mSS l k)) := by
  unfold F_laws_markRectSS_mob
  refine Eq.trans (bind_of (while_from (r := (((k + offS l l.length : Nat) : Int), (List.range l.length).map (mSS l k))) (fun i => (((k + offS l i : Nat) : Int), (i : Int), markd (mSS l k) l i)) l.length (by simp [markd_zero, offS]) (fun i hi => ?_) ?_)) ?_
  · have ho := offS_le hs i (by omega)
    have h2 := hs _ (gd_mem hi)
    obtain ⟨K, hK⟩ : ∃ K, K = k + offS l i := ⟨_, rfl⟩
    have hml : (markd (mSS l k) l i).length = l.length := markd_len _ _ _ (by omega)
    have hin : std.inR (i : Int) (len l) := inRl hi
    have hg : gd (markd (mSS l k) l i) i = gd l i := markd_gdM _ _ _ hi
    have hm := markRectS_ok (gd l i) K (by omega) (by omega)
    have b1 : std.add .i64 (i : Int) 1 = ((i + 1 : Nat) : Int) := inc_nat (by omega)
    rw [← hK]
    simp only [L_laws_markRectSS_mob_x4, letO_eq, s_toNn, s_nadd, Nat.zero_add]
    rw [ltl_t hi, br_t, req_of hin, hg, hm, Option.bind_some, req_of (by rw [len_eq, len_eq, mRs_len]), req_of (by rw [len_eq, len_eq, mRs_len]), req_of (by rw [len_eq, len_eq, hml]), Option.bind_some, b1]
    rw [← markd_set (mSS l k) l i hi]
    have e2 : mSS l k i = mRs (gd l i).length K := by unfold mSS; rw [← hK]
    have e3 : K + 4 * (gd l i).length = k + offS l (i + 1) := by show _ = k + (offS l i + 4 * (gd l i).length); omega
    rw [e2, e3]
  · simp only [L_laws_markRectSS_mob_x4, letO_eq]
    rw [ltl_f, br_f, markd_full]
  · simp only [letO_eq]
    rw [req_of (by simp [len_eq])]
theorem heldRectSS_ok (l : List (List TRect)) (k : Nat) (hl : l.length ≤ 1000) (hs : ∀ x ∈ l, x.length ≤ 3200) (hk : k ≤ 1000000) : F_laws_heldRectSS ((List.range l.length).map (mSS l k)) k = some ((k + offS l l.length : Nat) : Int) := by
  unfold F_laws_heldRectSS
  have hL : ((List.range l.length).map (mSS l k)).length = l.length := by simp
  refine Eq.trans (bind_of (while_from (r := .inr ((k + offS l l.length : Nat) : Int)) (fun i => (((k + offS l i : Nat) : Int), (i : Int))) l.length rfl (fun i hi => ?_) ?_)) rfl
  · have ho := offS_le hs i (by omega)
    have h2 := hs _ (gd_mem hi)
    obtain ⟨K, hK⟩ : ∃ K, K = k + offS l i := ⟨_, rfl⟩
    have hg : gd ((List.range l.length).map (mSS l k)) i = mRs (gd l i).length K := by rw [range_gd _ _ _ hi]; unfold mSS; rw [← hK]
    have hm := heldRectS_ok (gd l i).length K (by omega) (by omega)
    have b1 : std.add .i64 (i : Int) 1 = ((i + 1 : Nat) : Int) := inc_nat (by omega)
    have e3 : K + 4 * (gd l i).length = k + offS l (i + 1) := by show _ = k + (offS l i + 4 * (gd l i).length); omega
    rw [← hK]
    simp only [L_laws_heldRectSS_x3, letO_eq, s_toNn]
    rw [ltl_t (by rw [hL]; exact hi), br_t, req_of (inRl (by rw [hL]; exact hi)), hg, hm, Option.bind_some, lt_false (by omega), br_f, b1, e3]
  · simp only [L_laws_heldRectSS_x3, letO_eq]
    rw [show std.lt (l.length : Int) (std.ofN (len ((List.range l.length).map (mSS l k)))) = false from lt_false (by rw [s_ofN, len_eq, hL]; omega), br_f]
theorem eqRectG (r : TRect) : F_laws_eqRect r r = some true := laws_eqRect_ok r
theorem eqRectS_okG (l : List TRect) (h : l.length ≤ 10000000) : F_laws_eqRectS l l = some true := by
  unfold F_laws_eqRectS
  rw [notEq (eq_true' rfl), br_f, while_eq (r := .inr ()) l.length (fun i hi => by
    simp only [L_laws_eqRectS_x2, letO_eq, s_toNn]
    rw [ltl_t hi, br_t, req_of (inRl hi), req_of (inRl hi), eqRectG, Option.bind_some, Bool.not_true, br_f, inc_nat (by omega)]) (by
    simp only [L_laws_eqRectS_x2, letO_eq]
    rw [ltl_f, br_f]), Option.bind_some]
theorem eqRectSS_okG (l : List (List TRect)) (h : l.length ≤ 10000000) (hs : ∀ x ∈ l, x.length ≤ 3200) : F_laws_eqRectSS l l = some true := by
  unfold F_laws_eqRectSS
  rw [notEq (eq_true' rfl), br_f, while_eq (r := .inr ()) l.length (fun i hi => by
    simp only [L_laws_eqRectSS_x2, letO_eq, s_toNn]
    rw [ltl_t hi, br_t, req_of (inRl hi), req_of (inRl hi), eqRectS_okG _ (by have := hs _ (gd_mem hi); omega), Option.bind_some, Bool.not_true, br_f, inc_nat (by omega)]) (by
    simp only [L_laws_eqRectSS_x2, letO_eq]
    rw [ltl_f, br_f]), Option.bind_some]
theorem wlR_small (a : TLibrary) (k : Int) (wd : TRect) : (wlR a k wd).1.length ≤ 8 ∧ ∀ x ∈ (wlR a k wd).1, x.length ≤ 3200 := by
  have h0 : ([] : List (List TRect)).length ≤ 8 ∧ ∀ x ∈ ([] : List (List TRect)), x.length ≤ 3200 := ⟨by simp, fun x hx => by cases hx⟩
  unfold wlR
  split
  · split
    · refine ⟨by simp only; rw [laysW_len]; omega, fun x hx => ?_⟩
      simp only at hx
      unfold laysW at hx
      obtain ⟨y, _, hx⟩ := List.mem_flatMap.1 hx
      rw [List.mem_singleton] at hx
      rw [hx]
      exact regn_len _
    · exact h0
  · exact h0
theorem lawW_EWindowLayers (a : TLibrary) (k : Int) (wd : TRect) (w : wfLibrary a) (_ : (Lit.int .i64 k).wf = true) (_ : wfRect wd) : F_laws_FnExactWindowLayers a k wd = some true := by
  unfold F_laws_FnExactWindowLayers
  try rw [show TLibrary.mk a.fCells = a from rfl]
  obtain ⟨z, hz, hs⟩ := laws_szLibrary_ok a (wfLb_of w)
  rw [hz, Option.bind_some, br_bool, s_lt]
  by_cases h0 : z < 0
  · rw [if_pos (by simpa using h0)]
  · have h := hs (by omega)
    obtain ⟨hlen, hsm⟩ := wlR_small a k wd
    have hr : F_laws_toRect wd = some wd := rfl
    have m1 := markLibrary_ok a 1 h (by omega)
    have m2 := markRectSS_ok (wlR a k wd).1 1 (by omega) hsm (by omega)
    have m3 := heldRectSS_ok (wlR a k wd).1 1 (by omega) hsm (by omega)
    have e1 : ((1 : Nat) : Int) = 1 := rfl
    rw [e1] at m1 m2 m3
    have hml : ((List.range (wlR a k wd).1.length).map (mSS (wlR a k wd).1 1)).length = (wlR a k wd).1.length := by simp
    rw [if_neg (by simpa using h0)]
    simp only [laws_toLibrary_ok a h, hr, Option.bind_some, spec_winLayers_ok a k wd h, winLayers_ok a k wd h, laws_eqLibrary_ok a h, eqRectSS_okG _ (show (wlR a k wd).1.length ≤ 10000000 by omega) hsm, Bool.not_true, br_f, m1, m2, m3, letO_eq, eq_true' rfl, s_not]
    rw [req_of (by simp [len_eq]), lt_false (by omega), br_f, Option.bind_some, br_f, req_of (by rw [len_eq, len_eq, hml]), req_of (by rw [len_eq, len_eq, hml]), lt_false (by omega), br_f, req_of (by rw [len_eq, len_eq, hml])]
    rfl
end Go.Proofs.YtpobpihakgegbaaGreat.AM
