/-
  What the functions that the law reaches compute, and that they do. No condition.
-/
import Derived.Test.YtnmfighfidaglaaAmIY
import Derived.Test.YtnmfighfidaglaaAmIX
namespace Go.Proofs.Ytnmfighfidaglaa.AM
open Go Go.Proofs Go.RowKit
set_option linter.unusedVariables false
set_option linter.unusedSimpArgs false
set_option maxRecDepth 100000

/- InsertEntry, both sides -/
theorem at_spec (a : TSpatialIndex) (k : Int) (h : a.fEntries.length ≤ 10000000) : ∃ r, F_spec_l11At a k = some r ∧ ((r = -1 ∧ ∀ i, i < a.fEntries.length → (gd a.fEntries i).fId ≠ k) ∨ ∃ i : Nat, i < a.fEntries.length ∧ r = (i : Int) ∧ (gd a.fEntries i).fId = k) := by
  obtain ⟨r, h1, h2⟩ := while_ex (step := L_spec_l11At_x2 a k) (x0 := 0) (fun x => ∃ i : Nat, i ≤ a.fEntries.length ∧ x = (i : Int) ∧ ∀ t, t < i → (gd a.fEntries t).fId ≠ k) (fun r => match r with | .inl y => ∃ i : Nat, i < a.fEntries.length ∧ y = (i : Int) ∧ (gd a.fEntries i).fId = k | .inr _ => ∀ i, i < a.fEntries.length → (gd a.fEntries i).fId ≠ k) (fun x => a.fEntries.length + 1 - x.toNat) ⟨0, by omega, rfl, fun t ht => absurd ht (by omega)⟩ (by
    rintro _ ⟨i, hi, rfl, hno⟩
    by_cases hlt : i < a.fEntries.length
    · simp only [L_spec_l11At_x2, letO_eq, s_toNn]
      rw [ltl_t hlt, br_t, req_of (inRl hlt), inc_nat (by omega)]
      by_cases hk : (gd a.fEntries i).fId = k
      · rw [eq_true' hk]
        exact .inr ⟨_, rfl, i, hlt, rfl, hk⟩
      · rw [eq_false' hk]
        refine .inl ⟨_, rfl, ⟨i + 1, by omega, rfl, fun t ht => ?_⟩, by simp only [Int.toNat_natCast]; omega⟩
        by_cases h : t = i
        · subst h; exact hk
        · exact hno t (by omega)
    · have : i = a.fEntries.length := by omega
      subst this
      simp only [L_spec_l11At_x2, letO_eq]
      rw [ltl_f]
      exact .inr ⟨_, rfl, hno⟩)
  unfold F_spec_l11At
  rw [h1]
  cases r with
  | inl y =>
    obtain ⟨i, h3, h4, h5⟩ := h2
    exact ⟨y, rfl, .inr ⟨i, h3, h4, h5⟩⟩
  | inr u => exact ⟨-1, rfl, .inl ⟨rfl, h2⟩⟩
theorem mid_eq (i j : Nat) (h : i + j ≤ 1000000) : std.conv .i64 (std.shr .u64 (std.conv .u64 (std.add .i64 (i : Int) (j : Int))) 1) = (((i + j) / 2 : Nat) : Int) := by
  rw [add_id (by omega) (by omega)]
  have e1 : std.conv .u64 ((i : Int) + j) = ((i + j : Nat) : Int) := by
    show IntKind.u64.wrap _ = _
    simp [IntKind.wrap, IntKind.bits, IntKind.signed]; omega
  rw [e1]
  have e2 : std.shr .u64 ((i + j : Nat) : Int) 1 = (((i + j) / 2 : Nat) : Int) := by
    show Int.fdiv _ (2 ^ min (1 : Int).toNat (IntKind.bits .u64)) = _
    have e3 : ((2 : Int) ^ min (1 : Int).toNat (IntKind.bits .u64)) = 2 := by decide
    rw [e3, Int.fdiv_eq_ediv_of_nonneg _ (by omega)]
    omega
  rw [e2]
  exact wrap_id (by omega) (by omega)
/-- the ids of the entries grow, and are small -/
structure Sorted (l : List TSpatialEntry) : Prop where
  len : l.length ≤ 40
  low : ∀ i, i < l.length → 1 ≤ (gd l i).fId ∧ (gd l i).fId ≤ 9999
  mono : ∀ s t, s < t → t < l.length → (gd l s).fId < (gd l t).fId
  box : ∀ e ∈ l, okBox e.fBox = true
theorem okIx_sorted {a : TSpatialIndex} (h : okIx a = true) : Sorted a.fEntries := by
  unfold okIx at h
  simp only [Bool.and_eq_true, decide_eq_true_eq] at h
  obtain ⟨hn, hv, _⟩ := h
  have hv2 : ∀ i, i < a.fEntries.length → okE a.fEntries i = true := fun i hi => List.all_eq_true.1 hv i (by simpa using hi)
  have step : ∀ t, t + 1 < a.fEntries.length → (gd a.fEntries t).fId < (gd a.fEntries (t + 1)).fId := fun t ht => by
    have := hv2 (t + 1) ht
    unfold okE at this
    simp only [Bool.and_eq_true, Bool.not_eq_true', Bool.and_eq_false_iff, s_lt, s_le, decide_eq_false_iff_not] at this
    rw [Nat.add_sub_cancel] at this
    omega
  refine ⟨hn, fun i hi => ?_, fun s t hst => ?_, okE_box hv⟩
  · have := hv2 i hi
    unfold okE wX at this
    simp only [Bool.and_eq_true, s_le, decide_eq_true_eq] at this
    exact this.1
  · induction t with
    | zero => omega
    | succ t ih =>
      intro ht
      by_cases h : s = t
      · subst h; exact step s ht
      · exact Int.lt_trans (ih (by omega) (by omega)) (step t ht)
theorem bs_ok (l : List TSpatialEntry) (k : Int) (hs : Sorted l) (hk : 1 ≤ k ∧ k ≤ 9999) :
    ∃ p : Nat, p ≤ l.length ∧ (∀ t, t < p → (gd l t).fId < k) ∧ (∀ t, p ≤ t → t < l.length → k ≤ (gd l t).fId) ∧ F_slices_BinarySearchFunc_Limpl_SpatialEntry_impl_SpatialEntry_int64_mbbFimpl_entryPlace_1 l k = some ((p : Int), decide (p < l.length ∧ (gd l p).fId = k)) := by
  have hn := hs.len
  obtain ⟨r, h1, p, h2, h3, h4, h5⟩ := while_ex (step := L_slices_BinarySearchFunc_Limpl_SpatialEntry_impl_SpatialEntry_int64_mbbFimpl_entryPlace_1_x3 l k) (x0 := (0, std.ofN (len l)))
    (fun x => ∃ i j : Nat, x = ((i : Int), (j : Int)) ∧ i ≤ j ∧ j ≤ l.length ∧ (∀ t, t < i → (gd l t).fId < k) ∧ ∀ t, j ≤ t → t < l.length → k ≤ (gd l t).fId)
    (fun r => ∃ p : Nat, r = (p : Int) ∧ p ≤ l.length ∧ (∀ t, t < p → (gd l t).fId < k) ∧ ∀ t, p ≤ t → t < l.length → k ≤ (gd l t).fId) (fun x => (x.2 - x.1).toNat)
    ⟨0, l.length, rfl, by omega, by omega, fun t ht => absurd ht (by omega), fun t h h' => absurd h' (by omega)⟩ (by
      rintro _ ⟨i, j, rfl, hij, hj, hlo, hhi⟩
      simp only [L_slices_BinarySearchFunc_Limpl_SpatialEntry_impl_SpatialEntry_int64_mbbFimpl_entryPlace_1_x3, letO_eq, mid_eq i j (by omega), F_impl_entryPlace_1, s_toNn, Option.bind_some]
      by_cases h : i < j
      · rw [lt_true (by omega), br_t, req_of (by rw [s_nneg]; omega), req_of (inRl (by omega))]
        obtain ⟨m, hm⟩ : ∃ m, m = (i + j) / 2 := ⟨_, rfl⟩
        rw [← hm]
        have hml := hs.low m (by omega)
        rw [sub_id (by omega) (by omega), inc_nat (by omega)]
        by_cases hc : (gd l m).fId - k < 0
        · rw [lt_true hc, br_t]
          refine .inl ⟨_, rfl, ⟨m + 1, j, rfl, by omega, hj, fun t ht => ?_, hhi⟩, by simp only; omega⟩
          by_cases h' : t = m
          · subst h'; omega
          · have := hs.mono t m (by omega) (by omega); omega
        · rw [lt_false hc, br_f]
          refine .inl ⟨_, rfl, ⟨i, m, rfl, by omega, by omega, hlo, fun t ht ht' => ?_⟩, by simp only; omega⟩
          by_cases h' : t = m
          · subst h'; omega
          · have := hs.mono m t (by omega) (by omega); omega
      · rw [lt_false (by omega), br_f]
        have : i = j := by omega
        subst this
        exact .inr ⟨_, rfl, i, rfl, hj, hlo, hhi⟩)
  refine ⟨p, h3, h4, h5, ?_⟩
  unfold F_slices_BinarySearchFunc_Limpl_SpatialEntry_impl_SpatialEntry_int64_mbbFimpl_entryPlace_1
  rw [h1, h2]
  simp only [Option.bind_some, letO_eq, F_impl_entryPlace_1, s_toNn]
  by_cases hp : p < l.length
  · have hml := hs.low p hp
    rw [ltl_t hp, br_t, req_of (inRl hp), sub_id (by omega) (by omega), Option.bind_some, s_eq]
    congr 2
    by_cases hc : (gd l p).fId = k
    · rw [decide_eq_true (show _ - _ = (0 : Int) by omega), decide_eq_true ⟨hp, hc⟩]
    · rw [decide_eq_false (show ¬ (_ - _ = (0 : Int)) by omega), decide_eq_false (fun h => hc h.2)]
  · rw [lt_false (by rw [s_ofN, len_eq]; omega), br_f, Option.bind_some, decide_eq_false (fun h => hp h.1)]
noncomputable def insL (l : List TSpatialEntry) (k : Int) (r : TRect) : List TSpatialEntry :=
  l.takeWhile (fun e => decide (e.fId < k)) ++ [⟨k, r⟩] ++ l.dropWhile (fun e => decide (e.fId < k))
theorem split_at {l : List TSpatialEntry} {k : Int} {p : Nat} (hp : p ≤ l.length) (h1 : ∀ t, t < p → (gd l t).fId < k) (h2 : ∀ t, p ≤ t → t < l.length → k ≤ (gd l t).fId) :
    l.takeWhile (fun e => decide (e.fId < k)) = l.take p ∧ l.dropWhile (fun e => decide (e.fId < k)) = l.drop p := by
  have e1 : ∀ e ∈ l.take p, decide (e.fId < k) = true := fun e he => by
    obtain ⟨t, ht, rfl⟩ := List.mem_iff_getElem.1 he
    rw [List.getElem_take]
    rw [List.length_take] at ht
    have := h1 t (by omega)
    rw [gd_lt (by omega)] at this
    exact decide_eq_true this
  have e2 : (l.drop p).takeWhile (fun e => decide (e.fId < k)) = [] ∧ (l.drop p).dropWhile (fun e => decide (e.fId < k)) = l.drop p := by
    cases hd : l.drop p with
    | nil => exact ⟨rfl, rfl⟩
    | cons e r =>
      have hlt : p < l.length := by
        have := congrArg List.length hd
        rw [List.length_drop, List.length_cons] at this; omega
      have h0 : e = l[p] := by
        have := congrArg (fun x => x[0]?) hd
        simp only [List.getElem?_drop, Nat.add_zero, List.getElem?_cons_zero, List.getElem?_eq_getElem hlt] at this
        injection this with this; exact this.symm
      have h3 := h2 p (Nat.le_refl _) hlt
      rw [gd_lt hlt] at h3
      have h4 : decide (e.fId < k) = false := by rw [h0]; exact decide_eq_false (by omega)
      exact ⟨by rw [List.takeWhile_cons, h4]; rfl, by rw [List.dropWhile_cons, h4]; rfl⟩
  constructor
  · conv => lhs; rw [← List.take_append_drop p l]
    rw [List.takeWhile_append_of_pos e1, e2.1, List.append_nil]
  · conv => lhs; rw [← List.take_append_drop p l]
    rw [List.dropWhile_append_of_pos e1, e2.2]
noncomputable def insX (a : TSpatialIndex) (k : Int) (r : TRect) : TSpatialIndex × Int :=
  if okIx a = false ∨ okBox r = false then (⟨[], []⟩, 1)
  else if wX k 1 9999 = false then (⟨[], []⟩, 2)
  else if ∃ i, i < a.fEntries.length ∧ (gd a.fEntries i).fId = k then (⟨[], []⟩, 6)
  else if a.fEntries.length = 40 then (⟨[], []⟩, 3)
  else (made (insL a.fEntries k r), 0)
theorem insL_len (l : List TSpatialEntry) (k : Int) (r : TRect) : (insL l k r).length = l.length + 1 := by
  unfold insL
  have := congrArg List.length (List.takeWhile_append_dropWhile (p := fun e : TSpatialEntry => decide (e.fId < k)) (l := l))
  rw [List.length_append] at this
  simp only [List.length_append, List.length_singleton]
  omega
theorem insL_box {l : List TSpatialEntry} {k : Int} {r : TRect} (h : ∀ e ∈ l, okBox e.fBox = true) (hr : okBox r = true) : ∀ e ∈ insL l k r, okBox e.fBox = true := by
  intro e he
  unfold insL at he
  simp only [List.mem_append, List.mem_singleton] at he
  rcases he with (he | rfl) | he
  · exact h e ((List.takeWhile_sublist _).subset he)
  · exact hr
  · exact h e ((List.dropWhile_sublist _).subset he)
theorem impl_InsertEntry_ok (a : TSpatialIndex) (k : Int) (r : TRect) (h : SmallX a) : F_impl_InsertEntry a k r = some (insX a k r) := by
  unfold F_impl_InsertEntry insX
  rw [show TSpatialIndex.mk a.fEntries a.fBuckets = a from rfl, impl_IsValidIndex_ok a h, Option.bind_some, impl_IsValidRect_okX, Option.bind_some]
  cases hv : okIx a with
  | false => rfl
  | true =>
    rw [Bool.not_true, br_f, Option.bind_some]
    cases hb : okBox r with
    | false => rfl
    | true =>
      simp only [letO_eq, Bool.not_true, br_f, reduceCtorEq, or_self, if_false]
      rw [impl_within_okX, Option.bind_some]
      cases hw : wX k 1 9999 with
      | false => rfl
      | true =>
        have hk : 1 ≤ k ∧ k ≤ 9999 := by
          unfold wX at hw
          simpa only [Bool.and_eq_true, s_le, decide_eq_true_eq] using hw
        have hs := okIx_sorted hv
        have hn := hs.len
        obtain ⟨p, hp, hlo, hhi, he⟩ := bs_ok a.fEntries k hs hk
        unfold F_impl_entryPlace
        simp only [Bool.not_true, br_f, reduceCtorEq, if_false, he, Option.bind_some]
        by_cases hf : p < a.fEntries.length ∧ (gd a.fEntries p).fId = k
        · rw [decide_eq_true hf, br_t, if_pos ⟨p, hf⟩]
        · have hno : ¬ ∃ i, i < a.fEntries.length ∧ (gd a.fEntries i).fId = k := by
            rintro ⟨i, hi, hik⟩
            by_cases h1 : i < p
            · have := hlo i h1; omega
            · have h2 := hhi p (Nat.le_refl _) (by omega)
              by_cases h3 : i = p
              · subst h3; exact hf ⟨hi, hik⟩
              · have := hs.mono p i (by omega) hi; omega
          rw [decide_eq_false hf, br_f, if_neg hno, len_eq, show std.eq (std.ofN a.fEntries.length) 40 = decide (a.fEntries.length = 40) from eqlen _ 40]
          by_cases h40 : a.fEntries.length = 40
          · rw [decide_eq_true h40, br_t, if_pos h40]
          · have ec : F_slices_Clone_Limpl_SpatialEntry_impl_SpatialEntry a.fEntries = some a.fEntries := by
              unfold F_slices_Clone_Limpl_SpatialEntry_impl_SpatialEntry nilB
              have e : (letO ([] : List TSpatialEntry) fun l1 => req (std.room (std.nadd (len l1) (len a.fEntries)) 40) <| letO (l1 ++ a.fEntries) fun l3 => some l3) = some a.fEntries := by
                simp only [letO_eq]
                rw [req_of (roomN (by rw [s_nadd, len_eq, len_eq]; simp; omega) (by omega)), List.nil_append]
              rw [e]
              by_cases h0 : a.fEntries.length = 0
              · rw [List.length_eq_zero_iff.1 h0]; simp
              · rw [if_neg (by rw [len_eq]; omega)]
            obtain ⟨e1, e2⟩ := split_at hp hlo hhi
            have e3 : insL a.fEntries k r = a.fEntries.take p ++ [⟨k, r⟩] ++ a.fEntries.drop p := by unfold insL; rw [e1, e2]
            rw [decide_eq_false h40, br_f, if_neg h40, ec, Option.bind_some]
            unfold F_slices_Insert_Limpl_SpatialEntry_impl_SpatialEntry_mobo
            rw [if_pos ⟨by omega, by omega, by simp, by simp; omega⟩, Option.bind_some, Int.toNat_natCast, ← e3, impl_indexOf_ok _ (by rw [insL_len]; omega) (insL_box hs.box hb)]
            rfl
theorem take_one {l : List TSpatialEntry} {i : Nat} (h : i < l.length) : l.take (i + 1) = l.take i ++ [gd l i] := by
  rw [List.take_succ_eq_append_getElem h, gd_lt h]
theorem spec_InsertEntry_ok (a : TSpatialIndex) (k : Int) (r : TRect) (h : SmallX a) : F_spec_InsertEntry a k r = some (insX a k r) := by
  unfold F_spec_InsertEntry insX
  rw [spec_IsValidIndex_ok a h, Option.bind_some, spec_l09Rect_okX, Option.bind_some]
  cases hv : okIx a with
  | false => rfl
  | true =>
    rw [Bool.not_true, br_f, Option.bind_some]
    cases hb : okBox r with
    | false => rfl
    | true =>
      simp only [letO_eq, Bool.not_true, br_f, reduceCtorEq, or_self, if_false]
      rw [spec_l09In_okX, Option.bind_some]
      cases hw : wX k 1 9999 with
      | false => rfl
      | true =>
        have hk : 1 ≤ k ∧ k ≤ 9999 := by
          unfold wX at hw
          simpa only [Bool.and_eq_true, s_le, decide_eq_true_eq] using hw
        have hs := okIx_sorted hv
        have hn := hs.len
        obtain ⟨q, hq, hq2⟩ := at_spec a k (by omega)
        simp only [Bool.not_true, br_f, reduceCtorEq, if_false, hq, Option.bind_some]
        rcases hq2 with ⟨rfl, hno⟩ | ⟨i, hi, rfl, hik⟩
        · have hno' : ¬ ∃ i, i < a.fEntries.length ∧ (gd a.fEntries i).fId = k := fun ⟨i, hi, hik⟩ => hno i hi hik
          rw [le_false (by omega), br_f, if_neg hno', len_eq, show std.eq (std.ofN a.fEntries.length) 40 = decide (a.fEntries.length = 40) from eqlen _ 40]
          by_cases h40 : a.fEntries.length = 40
          · rw [decide_eq_true h40, br_t, if_pos h40]
          · obtain ⟨p, hp, hlo, hhi, _⟩ := bs_ok a.fEntries k hs hk
            obtain ⟨e1, e2⟩ := split_at hp hlo hhi
            have e3 : insL a.fEntries k r = a.fEntries.take p ++ [⟨k, r⟩] ++ a.fEntries.drop p := by unfold insL; rw [e1, e2]
            rw [decide_eq_false h40, br_f, if_neg h40]
            have hpl : (a.fEntries.take p).length = p := by rw [List.length_take]; omega
            have hle := insL_len a.fEntries k r
            have hlow : ∀ t, t < p → gd (insL a.fEntries k r) t = gd a.fEntries t := fun t ht => by
              rw [e3, gd_lt (by simp; omega), gd_lt (by omega), List.getElem_append_left (by simp; omega), List.getElem_append_left (by simp; omega), List.getElem_take]
            have hmid : gd (insL a.fEntries k r) p = ⟨k, r⟩ := by
              rw [e3, gd_lt (by simp; omega), List.getElem_append_left (by simp; omega), List.getElem_append_right (by simp; omega)]
              simp
            have hhigh : ∀ t, p ≤ t → t < a.fEntries.length → gd (insL a.fEntries k r) (t + 1) = gd a.fEntries t := fun t ht ht' => by
              rw [e3, gd_lt (by simp; omega), gd_lt ht', List.getElem_append_right (by simp; omega), List.getElem_drop]
              congr 1
              simp; omega
            have hw : whileP (L_spec_InsertEntry_x22 a k r) (false, 0, ([] : List TSpatialEntry)) = some (decide (p < a.fEntries.length), (insL a.fEntries k r).take (if p < a.fEntries.length then a.fEntries.length + 1 else a.fEntries.length)) := by
              refine while_from (fun i => (decide (p < i), (i : Int), (insL a.fEntries k r).take (if p < i then i + 1 else i))) a.fEntries.length (by simp) (fun i hi => ?_) ?_
              · simp only [L_spec_InsertEntry_x22, letO_eq, s_toNn]
                have rm : ∀ (x y : List TSpatialEntry), x.length ≤ 100 → y.length ≤ 1 → std.room (std.nadd (len x) (len y)) 40 := fun x y hx hy => roomN (by rw [s_nadd, len_eq, len_eq]; omega) (by omega)
                have tk : ∀ n, n ≤ 100 → ((insL a.fEntries k r).take n).length ≤ 100 := fun n hn => by rw [List.length_take]; omega
                rw [ltl_t hi, br_t, req_of (inRl hi), inc_nat (by omega)]
                by_cases h1 : p < i
                · rw [decide_eq_true h1, Bool.not_true, br_f, Option.bind_some, br_f, Option.bind_some, if_pos h1]
                  rw [req_of (inRl hi), req_of (rm _ _ (tk _ (by omega)) (by simp)), decide_eq_true (show p < i + 1 by omega), if_pos (show p < i + 1 by omega), take_one (i := i + 1) (by omega), hhigh i (by omega) hi]
                · rw [decide_eq_false h1, Bool.not_false, br_t, Option.bind_some, if_neg h1]
                  by_cases h2 : i = p
                  · subst h2
                    have := hhi i (Nat.le_refl _) hi
                    have := hno i hi
                    rw [lt_true (by omega), br_t, req_of (rm _ _ (tk _ (by omega)) (by simp)), Option.bind_some, req_of (inRl hi), req_of (rm _ _ (by rw [List.length_append, List.length_take]; simp; omega) (by simp)), decide_eq_true (show i < i + 1 by omega), if_pos (show i < i + 1 by omega), take_one (i := i + 1) (by omega), take_one (i := i) (by omega), hmid, hhigh i (by omega) hi]
                  · have := hlo i (by omega)
                    rw [lt_false (by omega), br_f, Option.bind_some, req_of (inRl hi), req_of (rm _ _ (tk _ (by omega)) (by simp)), decide_eq_false (show ¬ p < i + 1 by omega), if_neg (show ¬ p < i + 1 by omega), take_one (i := i) (by omega), hlow i (by omega)]
              · simp only [L_spec_InsertEntry_x22, letO_eq]
                rw [ltl_f]; rfl
            rw [hw]
            simp only [Option.bind_some]
            by_cases hpn : p < a.fEntries.length
            · rw [decide_eq_true hpn, Bool.not_true, br_f, Option.bind_some, if_pos hpn, List.take_of_length_le (by omega), spec_l11Made_mo_ok _ (by omega)]
              rfl
            · have hpe : p = a.fEntries.length := by omega
              have e4 : (insL a.fEntries k r).take a.fEntries.length ++ [⟨k, r⟩] = insL a.fEntries k r := by
                rw [e3, hpe, List.take_of_length_le (Nat.le_refl _), List.drop_of_length_le (Nat.le_refl _), List.append_nil, List.take_left]
              rw [decide_eq_false hpn, Bool.not_false, br_t, if_neg hpn, req_of (roomN (by rw [s_nadd, len_eq, len_eq, List.length_take]; simp; omega) (by omega)), Option.bind_some, e4, spec_l11Made_mo_ok _ (by omega)]
              rfl
        · rw [le_true (by omega), br_t, if_pos ⟨i, hi, hik⟩]
theorem toEntry_ok (a : TSpatialEntry) : F_laws_toSpatialEntry a = some a := rfl
theorem toEntryS_ok (a : List TSpatialEntry) (h : a.length ≤ 10000000) : F_laws_toSpatialEntryS a = some a := by
  unfold F_laws_toSpatialEntryS
  rw [req_of (nneg_len _), req_of (room_le (by rw [len_eq]; omega) (by decide))]
  simp only [letO_eq, s_ofN, s_toNn, len_eq]
  rw [bind_of (while_copy (st := L_laws_toSpatialEntryS_x7 a _) a (List.replicate a.length _) (by simp) (fun i hi v hv => ?_) (fun v => ?_)), req_of (by simp)]
  · simp only [L_laws_toSpatialEntryS_x7, letO_eq, s_toNn, s_nadd, Nat.zero_add]
    rw [ltl_t hi, br_t, req_of (inRl hi), toEntry_ok, Option.bind_some, req_of (inRl (by simpa using hi)), req_of (by simp [len_eq, hv]), inc_nat (by omega)]
  · simp only [L_laws_toSpatialEntryS_x7, letO_eq]
    rw [ltl_f, br_f]
theorem toIntS_ok (a : List Int) (h : a.length ≤ 10000000) : F_laws_toInt64S a = some a := by
  unfold F_laws_toInt64S
  rw [req_of (nneg_len _), req_of (room_le (by rw [len_eq]; omega) (by decide))]
  simp only [letO_eq, s_ofN, s_toNn, len_eq]
  rw [bind_of (while_copy (st := L_laws_toInt64S_x7 a _) a (List.replicate a.length _) (by simp) (fun i hi v hv => ?_) (fun v => ?_)), req_of (by simp)]
  · simp only [L_laws_toInt64S_x7, letO_eq, s_toNn, s_nadd, Nat.zero_add]
    rw [ltl_t hi, br_t, req_of (inRl hi), req_of (inRl (by simpa using hi)), req_of (by simp [len_eq, hv]), inc_nat (by omega)]
  · simp only [L_laws_toInt64S_x7, letO_eq]
    rw [ltl_f, br_f]
theorem toIntSS_ok (a : List (List Int)) (h : a.length ≤ 1048576) (hc : ∀ c ∈ a, c.length ≤ 1048576) : F_laws_toInt64SS a = some a := by
  unfold F_laws_toInt64SS
  rw [req_of (nneg_len _), req_of (room_le (by rw [len_eq]; omega) (by decide))]
  simp only [letO_eq, s_ofN, s_toNn, len_eq, Option.bind_some]
  rw [bind_of (while_copy (st := L_laws_toInt64SS_x14 a _) a (List.replicate a.length _) (by simp) (fun i hi v hv => ?_) (fun v => ?_)), req_of (by simp)]
  · simp only [L_laws_toInt64SS_x14, letO_eq, s_toNn, s_nadd, Nat.zero_add]
    rw [ltl_t hi, br_t, req_of (inRl hi), toIntS_ok _ (by have := hc _ (gd_mem hi); omega), Option.bind_some, req_of (inRl (by simpa using hi)), req_of (by simp [len_eq, hv]), inc_nat (by omega)]
    rfl
  · simp only [L_laws_toInt64SS_x14, letO_eq]
    rw [ltl_f, br_f]
theorem toIx_ok (a : TSpatialIndex) (h : SmallX a) : F_laws_toSpatialIndex a = some a := by
  unfold F_laws_toSpatialIndex
  rw [toEntryS_ok _ (by have := h.entries; omega), Option.bind_some, toIntSS_ok _ h.buckets h.bucket]; rfl
theorem subX {n : Nat} {x : Int} (h : n ≤ maxLen) (hx : 0 ≤ x ∧ x ≤ 1048576) : std.sub .i64 x (std.ofN n) = x - n := by
  have := maxLen_eq
  rw [s_ofN, sub_id (by omega) (by omega)]
theorem szEntryS_ok (a : List TSpatialEntry) (x : Int) (ha : a.length ≤ maxLen) (hx : 0 ≤ x ∧ x ≤ 1048576) : ∃ y, F_laws_szSpatialEntryS a x = some y ∧ (0 ≤ y → y ≤ x ∧ a.length ≤ 1048576) := by
  unfold F_laws_szSpatialEntryS
  rw [len_eq, subX ha hx, br_bool, s_lt]
  by_cases h : x - (a.length : Int) < 0
  · exact ⟨-1, by simp [h], fun h => by omega⟩
  · exact ⟨x - a.length, by simp [h], fun _ => ⟨by omega, by omega⟩⟩
theorem szIntS_ok (a : List Int) (x : Int) (ha : a.length ≤ maxLen) (hx : 0 ≤ x ∧ x ≤ 1048576) : ∃ y, F_laws_szInt64S a x = some y ∧ (0 ≤ y → y ≤ x ∧ a.length ≤ 1048576) := by
  unfold F_laws_szInt64S
  rw [len_eq, subX ha hx, br_bool, s_lt]
  by_cases h : x - (a.length : Int) < 0
  · exact ⟨-1, by simp [h], fun h => by omega⟩
  · exact ⟨x - a.length, by simp [h], fun _ => ⟨by omega, by omega⟩⟩
theorem while_szX {α : Type} [Inhabited α] {st : Int × Int → Option ((Int × Int) ⊕ (Int ⊕ Int))} (l : List α) (ok : α → Prop) (x : Int) (hx : 0 ≤ x ∧ x ≤ 1048576)
    (h : ∀ i, i < l.length → ∀ y : Int, 0 ≤ y ∧ y ≤ 1048576 → ∃ z : Int, (z < 0 ∧ st (y, (i : Int)) = some (.inr (.inl (-1)))) ∨ (0 ≤ z ∧ z ≤ y ∧ ok (gd l i) ∧ st (y, (i : Int)) = some (.inl (z, ((i + 1 : Nat) : Int)))))
    (he : ∀ y, st (y, (l.length : Int)) = some (.inr (.inr y))) : ∃ r, whileP st (x, 0) = some r ∧ (r = .inl (-1) ∨ ∃ z, r = .inr z ∧ 0 ≤ z ∧ z ≤ x ∧ ∀ e ∈ l, ok e) := by
  refine while_ex (fun s => ∃ (i : Nat) (y : Int), s = (y, (i : Int)) ∧ i ≤ l.length ∧ 0 ≤ y ∧ y ≤ x ∧ ∀ j, j < i → ok (gd l j)) _ (fun s => l.length + 1 - s.2.toNat) ⟨0, x, rfl, by omega, by omega, by omega, fun j hj => by omega⟩ ?_
  rintro _ ⟨i, y, rfl, h1, h2, h3, h4⟩
  by_cases hi : i < l.length
  · obtain ⟨z, ⟨_, hz⟩ | ⟨g1, g2, g3, hz⟩⟩ := h i hi y ⟨h2, by omega⟩
    · exact .inr ⟨_, hz, .inl rfl⟩
    · exact .inl ⟨_, hz, ⟨i + 1, z, rfl, by omega, g1, by omega, fun j hj => by
        rcases Nat.lt_or_ge j i with hj' | hj'
        · exact h4 j hj'
        · rw [show j = i by omega]; exact g3⟩, by simp only [Int.toNat_natCast]; omega⟩
  · have hil : i = l.length := by omega
    subst hil
    refine .inr ⟨_, he y, .inr ⟨y, rfl, h2, h3, fun e hm => ?_⟩⟩
    obtain ⟨j, hj, rfl⟩ := List.getElem_of_mem hm
    rw [← gd_lt hj]; exact h4 j hj
theorem szIntSS_ok (a : List (List Int)) (x : Int) (ha : a.length ≤ maxLen) (hn : ∀ l ∈ a, l.length ≤ maxLen) (hx : 0 ≤ x ∧ x ≤ 1048576) : ∃ y, F_laws_szInt64SS a x = some y ∧ (0 ≤ y → y ≤ x ∧ a.length ≤ 1048576 ∧ ∀ l ∈ a, l.length ≤ 1048576) := by
  have hb := maxLen_eq
  unfold F_laws_szInt64SS
  rw [len_eq, subX ha hx, br_bool, s_lt]
  by_cases h : x - (a.length : Int) < 0
  · exact ⟨-1, by simp [h], fun h => by omega⟩
  · rw [if_neg (by simpa using h)]
    obtain ⟨r, h1, h2⟩ := while_szX (st := L_laws_szInt64SS_x3 a) a (fun l => l.length ≤ 1048576) (x - a.length) ⟨by omega, by omega⟩ (fun i hi y hy => by
      obtain ⟨z, hz, hz2⟩ := szIntS_ok (gd a i) y (hn _ (gd_mem hi)) hy
      refine ⟨z, ?_⟩
      simp only [L_laws_szInt64SS_x3, letO_eq, s_toNn]
      rw [ltl_t hi, br_t, req_of (inRl hi), hz, Option.bind_some, br_bool, s_lt, inc_nat (by omega)]
      by_cases h0 : z < 0
      · exact .inl ⟨h0, by simp [h0]⟩
      · exact .inr ⟨by omega, (hz2 (by omega)).1, (hz2 (by omega)).2, by simp [h0]⟩) (fun y => by
      simp only [L_laws_szInt64SS_x3, letO_eq]
      rw [ltl_f, br_f])
    rw [h1, Option.bind_some]
    rcases h2 with rfl | ⟨z, rfl, h3, h4, h5⟩
    · exact ⟨-1, rfl, fun h => by omega⟩
    · exact ⟨z, rfl, fun _ => ⟨by omega, by omega, h5⟩⟩
theorem szIx_ok (a : TSpatialIndex) (h1 : a.fEntries.length ≤ maxLen) (h2 : a.fBuckets.length ≤ maxLen) (h3 : ∀ l ∈ a.fBuckets, l.length ≤ maxLen) : ∃ y, F_laws_szSpatialIndex a 1048576 = some y ∧ (0 ≤ y → SmallX a) := by
  unfold F_laws_szSpatialIndex
  obtain ⟨y, hy, hy2⟩ := szEntryS_ok a.fEntries 1048576 h1 ⟨by omega, by omega⟩
  rw [hy, Option.bind_some, br_bool, s_lt]
  by_cases h : y < 0
  · exact ⟨-1, by simp [h], fun h => by omega⟩
  · rw [if_neg (by simpa using h)]
    obtain ⟨g1, g2⟩ := hy2 (by omega)
    obtain ⟨z, hz, hz2⟩ := szIntSS_ok a.fBuckets y h2 h3 ⟨by omega, by omega⟩
    rw [hz, Option.bind_some, br_bool, s_lt]
    by_cases h' : z < 0
    · exact ⟨-1, by simp [h'], fun h => by omega⟩
    · refine ⟨z, by simp [h'], fun _ => ?_⟩
      obtain ⟨g3, g4, g5⟩ := hz2 (by omega)
      exact ⟨g2, g4, g5⟩
-- equality with itself
theorem eqRectX (a : TRect) : F_laws_eqRect a a = some true := by unfold F_laws_eqRect; simp [eq_true', s_not, br]
theorem eqEntryX (a : TSpatialEntry) : F_laws_eqSpatialEntry a a = some true := by unfold F_laws_eqSpatialEntry; simp [eq_true', s_not, br, eqRectX]
theorem eqEntrySX (l : List TSpatialEntry) (h : l.length ≤ 10000000) : F_laws_eqSpatialEntryS l l = some true := by
  unfold F_laws_eqSpatialEntryS
  rw [notEq (eq_true' rfl), br_f]
  refine Eq.trans (bind_of (while_eq (r := .inr ()) l.length (fun i hi => ?_) ?_)) rfl
  · simp only [L_laws_eqSpatialEntryS_x2, letO_eq, s_toNn, eqEntryX, Option.bind_some]
    rw [ltl_t hi, br_t, req_of (inRl hi), req_of (inRl hi), inc_nat (by omega)]; rfl
  · simp only [L_laws_eqSpatialEntryS_x2, letO_eq]
    rw [ltl_f]; rfl
theorem eqIntSX (l : List Int) (h : l.length ≤ 10000000) : F_laws_eqInt64S l l = some true := by
  unfold F_laws_eqInt64S
  rw [notEq (eq_true' rfl), br_f]
  refine Eq.trans (bind_of (while_eq (r := .inr ()) l.length (fun i hi => ?_) ?_)) rfl
  · simp only [L_laws_eqInt64S_x2, letO_eq, s_toNn, notEq (eq_true' rfl)]
    rw [ltl_t hi, br_t, req_of (inRl hi), req_of (inRl hi), inc_nat (by omega)]; rfl
  · simp only [L_laws_eqInt64S_x2, letO_eq]
    rw [ltl_f]; rfl
theorem eqIntSSX (l : List (List Int)) (h : l.length ≤ 10000000) (hc : ∀ c ∈ l, c.length ≤ 1048576) : F_laws_eqInt64SS l l = some true := by
  unfold F_laws_eqInt64SS
  rw [notEq (eq_true' rfl), br_f]
  refine Eq.trans (bind_of (while_eq (r := .inr ()) l.length (fun i hi => ?_) ?_)) rfl
  · simp only [L_laws_eqInt64SS_x2, letO_eq, s_toNn]
    rw [ltl_t hi, br_t, req_of (inRl hi), req_of (inRl hi), eqIntSX _ (by have := hc _ (gd_mem hi); omega), inc_nat (by omega)]; rfl
  · simp only [L_laws_eqInt64SS_x2, letO_eq]
    rw [ltl_f]; rfl
theorem eqIxX (a : TSpatialIndex) (h : SmallX a) : F_laws_eqSpatialIndex a a = some true := by
  unfold F_laws_eqSpatialIndex
  rw [eqEntrySX _ (by have := h.entries; omega), Option.bind_some, eqIntSSX _ (by have := h.buckets; omega) h.bucket]; rfl
-- marks
def mE (k i : Nat) : TSpatialEntry := ⟨((k + 5 * i : Nat) : Int), ⟨((k + 5 * i + 1 : Nat) : Int), ((k + 5 * i + 1 + 1 : Nat) : Int), ((k + 5 * i + 1 + 1 + 1 : Nat) : Int), ((k + 5 * i + 1 + 1 + 1 + 1 : Nat) : Int)⟩⟩
theorem gd_set_self {α : Type} [Inhabited α] (l : List α) (i : Nat) (x : α) (h : i < l.length) : gd (l.set i x) i = x := by
  rw [gd_lt (by simpa using h)]; simp
theorem req_refl {α β : Type} (x : α) (k : Option β) : req (x = x) k = k := req_of rfl
theorem markEntryS_ok (l : List TSpatialEntry) (k : Nat) (h : k + 5 * l.length ≤ 1000000000000000) : F_laws_markSpatialEntryS_mob l k = some (((k + 5 * l.length : Nat) : Int), (List.range l.length).map (mE k)) := by
  unfold F_laws_markSpatialEntryS_mob
  refine Eq.trans (bind_of (while_from (r := (((k + 5 * l.length : Nat) : Int), (List.range l.length).map (mE k))) (fun i => (((k + 5 * i : Nat) : Int), (i : Int), markd (mE k) l i)) l.length (by simp [markd_zero]) (fun i hi => ?_) ?_)) ?_
  · have hml : (markd (mE k) l i).length = l.length := markd_len _ _ _ (by omega)
    have hmi : i < (markd (mE k) l i).length := by rw [hml]; exact hi
    have hin : std.inR (i : Int) l.length := inRl hi
    have hlt : std.lt (i : Int) (std.ofN l.length) = true := ltl_t hi
    have a1 : std.add .i64 ((k + 5 * i : Nat) : Int) 1 = ((k + 5 * i + 1 : Nat) : Int) := inc_nat (by omega)
    have a2 : std.add .i64 ((k + 5 * i + 1 : Nat) : Int) 1 = ((k + 5 * i + 1 + 1 : Nat) : Int) := inc_nat (by omega)
    have a3 : std.add .i64 ((k + 5 * i + 1 + 1 : Nat) : Int) 1 = ((k + 5 * i + 1 + 1 + 1 : Nat) : Int) := inc_nat (by omega)
    have a4 : std.add .i64 ((k + 5 * i + 1 + 1 + 1 : Nat) : Int) 1 = ((k + 5 * i + 1 + 1 + 1 + 1 : Nat) : Int) := inc_nat (by omega)
    have a5 : std.add .i64 ((k + 5 * i + 1 + 1 + 1 + 1 : Nat) : Int) 1 = ((k + 5 * i + 1 + 1 + 1 + 1 + 1 : Nat) : Int) := inc_nat (by omega)
    have a6 : std.add .i64 (i : Int) 1 = ((i + 1 : Nat) : Int) := inc_nat (by omega)
    simp only [L_laws_markSpatialEntryS_mob_x4, letO_eq, s_toNn, s_nadd, Nat.zero_add, len_eq, List.length_set, hml, hlt, br_t, req_of hin, req_refl, List.set_set, gd_set_self _ _ _ hmi, a1, a2, a3, a4, a5, a6]
    simp only [req_true]
    rw [← markd_set (mE k) l i hi]
    rfl
  · simp only [L_laws_markSpatialEntryS_mob_x4, letO_eq]
    rw [ltl_f, br_f, markd_full]
  · simp only [letO_eq]
    rw [req_of (by simp [len_eq])]
theorem heldEntryS_ok (n k : Nat) (h : k + 5 * n ≤ 1000000000000000) : F_laws_heldSpatialEntryS ((List.range n).map (mE k)) k = some ((k + 5 * n : Nat) : Int) := by
  unfold F_laws_heldSpatialEntryS
  have hL : ((List.range n).map (mE k)).length = n := by simp
  refine Eq.trans (bind_of (while_from (r := .inr ((k + 5 * n : Nat) : Int)) (fun i => (((k + 5 * i : Nat) : Int), (i : Int))) n rfl (fun i hi => ?_) ?_)) rfl
  · have hin : std.inR (i : Int) n := inRn hi
    have hlt : std.lt (i : Int) (std.ofN n) = true := lt_true (by rw [s_ofN]; omega)
    have a1 : std.add .i64 ((k + 5 * i : Nat) : Int) 1 = ((k + 5 * i + 1 : Nat) : Int) := inc_nat (by omega)
    have a2 : std.add .i64 ((k + 5 * i + 1 : Nat) : Int) 1 = ((k + 5 * i + 1 + 1 : Nat) : Int) := inc_nat (by omega)
    have a3 : std.add .i64 ((k + 5 * i + 1 + 1 : Nat) : Int) 1 = ((k + 5 * i + 1 + 1 + 1 : Nat) : Int) := inc_nat (by omega)
    have a4 : std.add .i64 ((k + 5 * i + 1 + 1 + 1 : Nat) : Int) 1 = ((k + 5 * i + 1 + 1 + 1 + 1 : Nat) : Int) := inc_nat (by omega)
    have a5 : std.add .i64 ((k + 5 * i + 1 + 1 + 1 + 1 : Nat) : Int) 1 = ((k + 5 * i + 1 + 1 + 1 + 1 + 1 : Nat) : Int) := inc_nat (by omega)
    have a6 : std.add .i64 (i : Int) 1 = ((i + 1 : Nat) : Int) := inc_nat (by omega)
    simp only [L_laws_heldSpatialEntryS_x3, letO_eq, s_toNn, len_eq, hL, hlt, br_t, req_of hin, range_gd (mE k) n i hi, a1, a2, a3, a4, a5, a6]
    simp only [mE, notEq (eq_true' rfl), br_f]
    rfl
  · simp only [L_laws_heldSpatialEntryS_x3, letO_eq, len_eq, hL]
    rw [lt_false (by rw [s_ofN]; omega), br_f]
def mI (k : Nat) (n : Nat) : List Int := (List.range n).map fun i => ((k + i : Nat) : Int)
theorem markIntS_ok (l : List Int) (k : Nat) (h : k + l.length ≤ 1000000000000000) : F_laws_markInt64S_mob l k = some (((k + l.length : Nat) : Int), mI k l.length) := by
  unfold F_laws_markInt64S_mob mI
  refine Eq.trans (bind_of (while_from (r := (((k + l.length : Nat) : Int), (List.range l.length).map fun i => ((k + i : Nat) : Int))) (fun i => (((k + i : Nat) : Int), (i : Int), markd (fun i => ((k + i : Nat) : Int)) l i)) l.length (by simp [markd_zero]) (fun i hi => ?_) ?_)) ?_
  · simp only [L_laws_markInt64S_mob_x4, letO_eq, s_toNn, s_nadd, Nat.zero_add]
    rw [ltl_t hi, br_t, req_of (inRl hi), req_of (by rw [len_eq, len_eq, markd_len _ _ _ (by omega)]), inc_nat (by omega), inc_nat (by omega), markd_set _ _ _ hi]
    simp [Nat.add_assoc]
  · simp only [L_laws_markInt64S_mob_x4, letO_eq]
    rw [ltl_f, br_f, markd_full]
  · simp only [letO_eq]
    rw [req_of (by simp [len_eq])]
theorem heldIntS_ok (n k : Nat) (h : k + n ≤ 1000000000000000) : F_laws_heldInt64S (mI k n) k = some ((k + n : Nat) : Int) := by
  unfold F_laws_heldInt64S mI
  refine Eq.trans (bind_of (while_from (r := .inr ((k + n : Nat) : Int)) (fun i => (((k + i : Nat) : Int), (i : Int))) n rfl (fun i hi => ?_) ?_)) rfl
  · simp only [L_laws_heldInt64S_x3, letO_eq, s_toNn]
    rw [lt_true (by rw [s_ofN, len_eq]; simp; omega), br_t, req_of (inRl (by simpa using hi)), range_gd _ _ _ hi, eq_true' rfl, inc_nat (by omega), inc_nat (by omega)]
    rfl
  · simp only [L_laws_heldInt64S_x3, letO_eq]
    rw [lt_false (by rw [s_ofN, len_eq]; simp), br_f]
def offs (l : List (List Int)) : Nat → Nat
  | 0 => 0
  | i + 1 => offs l i + (gd l i).length
theorem offs_le (l : List (List Int)) (hc : ∀ c ∈ l, c.length ≤ 1048576) : ∀ i, i ≤ l.length → offs l i ≤ i * 1048576
  | 0, _ => by simp [offs]
  | i + 1, h => by
    have h1 := offs_le l hc i (by omega)
    have h2 := hc _ (gd_mem (show i < l.length by omega))
    show offs l i + (gd l i).length ≤ _
    omega
def mR (l : List (List Int)) (k i : Nat) : List Int := mI (k + offs l i) (gd l i).length
theorem markd_gd {α : Type} [Inhabited α] (f : Nat → α) (a : List α) (i : Nat) (h : i < a.length) : gd (markd f a i) i = gd a i := by
  unfold gd markd
  rw [List.getD_eq_getElem?_getD, List.getD_eq_getElem?_getD, List.getElem?_append_right (by simp)]
  simp
theorem markIntSS_ok (l : List (List Int)) (k : Nat) (hl : l.length ≤ 1048576) (hc : ∀ c ∈ l, c.length ≤ 1048576) (hk : k ≤ 100000000) : F_laws_markInt64SS_mob l k = some (((k + offs l l.length : Nat) : Int), (List.range l.length).map (mR l k)) := by
  unfold F_laws_markInt64SS_mob
  refine Eq.trans (bind_of (while_from (r := (((k + offs l l.length : Nat) : Int), (List.range l.length).map (mR l k))) (fun i => (((k + offs l i : Nat) : Int), (i : Int), markd (mR l k) l i)) l.length (by simp [markd_zero, offs]) (fun i hi => ?_) ?_)) ?_
  · have ho := offs_le l hc i (by omega)
    have h2 := hc _ (gd_mem hi)
    simp only [L_laws_markInt64SS_mob_x4, letO_eq, s_toNn, s_nadd, Nat.zero_add, markd_gd (mR l k) l i hi]
    rw [ltl_t hi, br_t, req_of (inRl hi), markIntS_ok _ _ (by omega), Option.bind_some, req_of (by simp [len_eq, mI]), req_of (by rw [len_eq, len_eq, markd_len _ _ _ (by omega)]), Option.bind_some, inc_nat (by omega), show mI (k + offs l i) (gd l i).length = mR l k i from rfl, markd_set _ _ _ hi]
    simp [offs, Nat.add_assoc]
  · simp only [L_laws_markInt64SS_mob_x4, letO_eq]
    rw [ltl_f, br_f, markd_full]
  · simp only [letO_eq]
    rw [req_of (by simp [len_eq])]
theorem heldIntSS_ok (l : List (List Int)) (k : Nat) (hl : l.length ≤ 1048576) (hc : ∀ c ∈ l, c.length ≤ 1048576) (hk : k ≤ 100000000) : F_laws_heldInt64SS ((List.range l.length).map (mR l k)) k = some ((k + offs l l.length : Nat) : Int) := by
  unfold F_laws_heldInt64SS
  refine Eq.trans (bind_of (while_from (r := .inr ((k + offs l l.length : Nat) : Int)) (fun i => (((k + offs l i : Nat) : Int), (i : Int))) l.length rfl (fun i hi => ?_) ?_)) rfl
  · have ho := offs_le l hc i (by omega)
    have h2 := hc _ (gd_mem hi)
    simp only [L_laws_heldInt64SS_x3, letO_eq, s_toNn]
    rw [lt_true (by rw [s_ofN, len_eq]; simp; omega), br_t, req_of (inRl (by simpa using hi)), range_gd _ _ _ hi]
    unfold mR
    rw [heldIntS_ok _ _ (by omega), Option.bind_some, lt_false (by omega), br_f, inc_nat (by omega)]
    simp [offs, Nat.add_assoc]
  · simp only [L_laws_heldInt64SS_x3, letO_eq]
    rw [lt_false (by rw [s_ofN, len_eq]; simp), br_f]
theorem markIx_ok (a : TSpatialIndex) (h : SmallX a) : ∃ (y : Nat) (E : List TSpatialEntry) (B : List (List Int)), F_laws_markSpatialIndex_moob a 1 = some ((y : Int), E, B) ∧ E.length = a.fEntries.length ∧ B.length = a.fBuckets.length ∧ F_laws_heldSpatialIndex ⟨E, B⟩ 1 = some (y : Int) := by
  have h1 := h.entries
  refine ⟨1 + 5 * a.fEntries.length + offs a.fBuckets a.fBuckets.length, (List.range a.fEntries.length).map (mE 1), (List.range a.fBuckets.length).map (mR a.fBuckets (1 + 5 * a.fEntries.length)), ?_, by simp, by simp, ?_⟩
  · unfold F_laws_markSpatialIndex_moob
    rw [show (1 : Int) = ((1 : Nat) : Int) from rfl, markEntryS_ok _ 1 (by omega), Option.bind_some, req_of (by simp [len_eq]), markIntSS_ok _ _ h.buckets h.bucket (by omega), Option.bind_some, req_of (by simp [len_eq]), req_of (by simp [len_eq]), req_of (by simp [len_eq])]
  · unfold F_laws_heldSpatialIndex
    simp only
    rw [show (1 : Int) = ((1 : Nat) : Int) from rfl, heldEntryS_ok _ 1 (by omega), Option.bind_some, lt_false (by omega), br_f, heldIntSS_ok _ _ h.buckets h.bucket (by omega), Option.bind_some, lt_false (by omega), br_f]
theorem made_small (a : List TSpatialEntry) (h : a.length ≤ 1048576) : SmallX (made a) := by
  refine ⟨h, by simp [made], fun b hb => ?_⟩
  unfold made at hb
  simp only [List.mem_map] at hb
  obtain ⟨k, _, rfl⟩ := hb
  exact Nat.le_trans (idsF_len a k) h
theorem insX_small (a : TSpatialIndex) (k : Int) (r : TRect) (h : SmallX a) : SmallX (insX a k r).1 := by
  have h1 := h.entries
  have h0 : SmallX ⟨[], []⟩ := ⟨by simp, by simp, fun b hb => by simp at hb⟩
  unfold insX
  by_cases hv : okIx a = false ∨ okBox r = false
  · rw [if_pos hv]; exact h0
  · rw [if_neg hv]
    split
    · exact h0
    · split
      · exact h0
      · split
        · exact h0
        · have hs : okIx a = true := by
            cases h : okIx a with
            | true => rfl
            | false => exact absurd (.inl h) hv
          have := (okIx_sorted hs).len
          exact made_small _ (by rw [insL_len]; omega)
theorem lawW_InsertEntry (a : TSpatialIndex) (k : Int) (r : TRect) (hw : wfSpatialIndex a) (_ : (Lit.int .i64 k).wf = true) (_ : wfRect r) : F_laws_FnExactInsertEntry a k r = some true := by
  obtain ⟨⟨w1, _⟩, ⟨w2, w3⟩⟩ := hw
  unfold F_laws_FnExactInsertEntry
  obtain ⟨y, hy, hs⟩ := szIx_ok a w1 w2 (fun l hl => (w3 l hl).1)
  rw [hy, Option.bind_some]
  by_cases h0 : y < 0
  · rw [lt_true h0, br_t]
  · rw [lt_false h0, br_f]
    have S := hs (by omega)
    have R := insX_small a k r S
    obtain ⟨n1, E1, B1, m1, m2, m3, m4⟩ := markIx_ok a S
    obtain ⟨n2, E2, B2, r1, r2, r3, r4⟩ := markIx_ok (insX a k r).1 R
    have hr : F_laws_toRect r = some r := rfl
    simp only [toIx_ok a S, hr, spec_InsertEntry_ok a k r S, impl_InsertEntry_ok a k r S, Option.bind_some, eqIxX _ R, eqIxX _ S, letO_eq, m1, r1, r4, eq_true' rfl, s_not, Bool.not_true, br_f]
    rw [req_of (by rw [len_eq, len_eq, m2]), req_of (by rw [len_eq, len_eq, m3]), lt_false (by omega), br_f]
    simp only [Option.bind_some, br_f]
    rw [req_of (by rw [len_eq, len_eq, r2]), req_of (by rw [len_eq, len_eq, r3]), req_of (by rw [len_eq, len_eq, r2]), req_of (by rw [len_eq, len_eq, r3]), lt_false (by omega), br_f]
    rw [req_of (by rw [len_eq, len_eq, r2]), req_of (by rw [len_eq, len_eq, r3])]
    rfl
end Go.Proofs.Ytnmfighfidaglaa.AM
