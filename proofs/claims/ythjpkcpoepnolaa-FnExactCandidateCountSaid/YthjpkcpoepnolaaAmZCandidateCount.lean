/-
  What the functions that the law reaches compute, and that they do. No condition.
-/
import Derived.Test.YthjpkcpoepnolaaAmP
import Derived.Lib.SlicesCompact
import Derived.Test.YthjpkcpoepnolaaAmSX
import Derived.Test.YthjpkcpoepnolaaAmSW
namespace Go.Proofs.Ythjpkcpoepnolaa.AM
open Go Go.Proofs Go.RowKit
set_option linter.unusedVariables false
set_option linter.unusedSimpArgs false
set_option maxRecDepth 100000

/- what is left of a sorted list when what stands twice goes -/
noncomputable def compL (l : List Int) : List Int := Lib.compactUpTo l.toArray l.length
theorem keeps_iff (l : List Int) (j : Nat) (hj : j < l.length) : Lib.keeps l.toArray j = true ↔ (j = 0 ∨ gd l j ≠ gd l (j - 1)) := by
  have e1 : l.toArray[j]! = gd l j := by rw [gd_lt hj, getElem!_pos _ j (by simpa using hj)]; simp
  have e2 : l.toArray[j - 1]! = gd l (j - 1) := by rw [gd_lt (by omega), getElem!_pos _ (j - 1) (by simp; omega)]; simp
  unfold Lib.keeps
  rw [e1, e2, decide_eq_true_iff]
theorem compL_eq (l : List Int) : compL l = ((List.range l.length).filter (Lib.keeps l.toArray)).map (gd l) := by
  unfold compL Lib.compactUpTo
  apply List.map_congr_left
  intro j hj
  have hj' : j < l.length := List.mem_range.1 (List.mem_filter.1 hj).1
  rw [gd_lt hj', getElem!_pos _ j (by simpa using hj')]; simp
theorem compL_mem (l : List Int) (x : Int) : x ∈ compL l ↔ x ∈ l := by
  rw [compL_eq, List.mem_map]
  constructor
  · rintro ⟨j, hj, rfl⟩
    have hj' : j < l.length := List.mem_range.1 (List.mem_filter.1 hj).1
    rw [gd_lt hj']
    exact List.getElem_mem hj'
  · intro hx
    obtain ⟨j, hj, rfl⟩ := List.getElem_of_mem hx
    have key : ∀ j (hj : j < l.length), ∃ i, i < l.length ∧ Lib.keeps l.toArray i = true ∧ gd l i = l[j] := by
      intro j
      induction j with
      | zero => intro hj; exact ⟨0, hj, (keeps_iff l 0 hj).2 (.inl rfl), gd_lt hj⟩
      | succ j ih =>
        intro hj
        by_cases h : gd l (j + 1) = gd l j
        · obtain ⟨i, h1, h2, h3⟩ := ih (by omega)
          refine ⟨i, h1, h2, ?_⟩
          rw [h3, ← gd_lt hj, h, gd_lt]
        · exact ⟨j + 1, hj, (keeps_iff l (j + 1) hj).2 (.inr h), gd_lt hj⟩
    obtain ⟨i, h1, h2, h3⟩ := key j hj
    exact ⟨i, List.mem_filter.2 ⟨List.mem_range.2 h1, h2⟩, h3⟩
theorem compL_nodup (l : List Int) (hs : l.Pairwise (· ≤ ·)) : (compL l).Nodup := by
  rw [compL_eq]
  unfold List.Nodup
  rw [List.pairwise_map]
  have h1 : ((List.range l.length).filter (Lib.keeps l.toArray)).Pairwise (· < ·) := List.Pairwise.filter _ List.pairwise_lt_range
  refine h1.imp_of_mem ?_
  intro i j hi hj hij
  have hi' : i < l.length := List.mem_range.1 (List.mem_filter.1 hi).1
  have hj' : j < l.length := List.mem_range.1 (List.mem_filter.1 hj).1
  have hk := (keeps_iff l j hj').1 (List.mem_filter.1 hj).2
  have hle : ∀ a b (hb : b < l.length), a ≤ b → gd l a ≤ gd l b := fun a b hb hab => by
    rcases Nat.lt_or_eq_of_le hab with h | h
    · rw [gd_lt (by omega), gd_lt hb]
      exact List.pairwise_iff_getElem.1 hs a b (by omega) hb h
    · subst h; exact Int.le_refl _
  rcases hk with hk | hk
  · omega
  · have g1 := hle i (j - 1) (by omega) (by omega)
    have g2 := hle (j - 1) j hj' (by omega)
    omega
theorem sort_le (l : List Int) : (l.mergeSort fun x y => decide (x ≤ y)).Pairwise (· ≤ ·) := by
  have := List.pairwise_mergeSort (le := fun x y : Int => decide (x ≤ y)) (fun a b c h1 h2 => by simp only [decide_eq_true_eq] at *; omega) (fun a b => by simp only [Bool.or_eq_true, decide_eq_true_eq]; omega) l
  exact this.imp fun h => by simpa using h
/-- how many there are: as many as in any list without repetitions that has the same members -/
theorem count_same {l q : List Int} (hq : q.Nodup) (hm : ∀ x, x ∈ l ↔ x ∈ q) : (compL (l.mergeSort fun x y => decide (x ≤ y))).length = q.length := by
  refine List.Perm.length_eq ((List.perm_ext_iff_of_nodup (compL_nodup _ (sort_le l)) hq).2 fun x => ?_)
  rw [compL_mem, List.mem_mergeSort, hm]
/- how many entries lie in the buckets of a window -/
/-- the ids of the entries grow, and are small -/
structure Sorted (l : List TSpatialEntry) : Prop where
  len : l.length ≤ 40
  low : ∀ i, i < l.length → 1 ≤ (gd l i).fId ∧ (gd l i).fId ≤ 9999
  mono : ∀ s t, s < t → t < l.length → (gd l s).fId < (gd l t).fId
  box : ∀ e ∈ l, okBox e.fBox = true
theorem okIx_sorted {a : TSpatialIndex} (h : okIx a = true) : Sorted a.fEntries := by
  unfold okIx at h
  simp only [Bool.and_eq_true, decide_eq_true_eq] at h
  obtain ⟨hn, hv, _⟩ := h
  have hv2 : ∀ i, i < a.fEntries.length → okE a.fEntries i = true := fun i hi => List.all_eq_true.1 hv i (by simpa using hi)
  have step : ∀ t, t + 1 < a.fEntries.length → (gd a.fEntries t).fId < (gd a.fEntries (t + 1)).fId := fun t ht => by
    have := hv2 (t + 1) ht
    unfold okE at this
    simp only [Bool.and_eq_true, Bool.not_eq_true', Bool.and_eq_false_iff, s_lt, s_le, decide_eq_false_iff_not] at this
    rw [Nat.add_sub_cancel] at this
    omega
  refine ⟨hn, fun i hi => ?_, fun s t hst => ?_, okE_box hv⟩
  · have := hv2 i hi
    unfold okE wX at this
    simp only [Bool.and_eq_true, s_le, decide_eq_true_eq] at this
    exact this.1
  · induction t with
    | zero => omega
    | succ t ih =>
      intro ht
      by_cases h : s = t
      · subst h; exact step s ht
      · exact Int.lt_trans (ih (by omega) (by omega)) (step t ht)
theorem eqI_eq {a b : List Int} (h : eqI a b = true) : a = b := by
  unfold eqI at h
  rw [Bool.and_eq_true, decide_eq_true_eq, List.all_eq_true] at h
  refine List.ext_getElem h.1 fun i h1 h2 => ?_
  have := h.2 i (by simpa using h1)
  rw [s_eq, decide_eq_true_eq, gd_lt h1, gd_lt h2] at this
  exact this
theorem okIx_buckets {a : TSpatialIndex} (h : okIx a = true) : a.fBuckets.length = 25 ∧ ∀ k, k < 25 → gd a.fBuckets k = idsF a.fEntries k := by
  unfold okIx at h
  simp only [Bool.and_eq_true, decide_eq_true_eq] at h
  refine ⟨h.2.2.1, fun k hk => eqI_eq (List.all_eq_true.1 h.2.2.2 k (by simpa using hk))⟩
/-- the ids of the window's buckets, bucket after bucket -/
noncomputable def idsW (a : TSpatialIndex) (l : List Int) : List Int := l.flatMap fun b => gd a.fBuckets b.toNat
noncomputable def inW (r : TRect) (e : TSpatialEntry) : Bool := (List.range 25).any fun k => ovl r (bk k) && ovl e.fBox (bk k)
theorem idsW_mem {a : TSpatialIndex} (h : okIx a = true) {r : TRect} (hr : okBox r = true) (x : Int) : x ∈ idsW a (bkOf r) ↔ x ∈ (a.fEntries.filter (inW r)).map fun e => e.fId := by
  obtain ⟨hl, hb⟩ := okIx_buckets h
  unfold idsW
  rw [List.mem_flatMap, List.mem_map]
  constructor
  · rintro ⟨b, hb1, hb2⟩
    obtain ⟨k, hk, rfl⟩ := bkOf_lt r hr b hb1
    rw [Int.toNat_natCast, hb k hk] at hb2
    unfold idsF at hb2
    obtain ⟨e, he, rfl⟩ := List.mem_map.1 hb2
    obtain ⟨h1, h2⟩ := List.mem_filter.1 he
    refine ⟨e, List.mem_filter.2 ⟨h1, ?_⟩, rfl⟩
    unfold inW
    rw [List.any_eq_true]
    exact ⟨k, List.mem_range.2 hk, by rw [(bkOf_mem r hr k hk).1 hb1, h2]; rfl⟩
  · rintro ⟨e, he, rfl⟩
    obtain ⟨h1, h2⟩ := List.mem_filter.1 he
    unfold inW at h2
    rw [List.any_eq_true] at h2
    obtain ⟨k, hk, h3⟩ := h2
    rw [Bool.and_eq_true] at h3
    have hk' := List.mem_range.1 hk
    refine ⟨(k : Int), (bkOf_mem r hr k hk').2 h3.1, ?_⟩
    rw [Int.toNat_natCast, hb k hk']
    unfold idsF
    exact List.mem_map.2 ⟨e, List.mem_filter.2 ⟨h1, h3.2⟩, rfl⟩
theorem ids_nodup {l : List TSpatialEntry} (hs : Sorted l) (p : TSpatialEntry → Bool) : ((l.filter p).map fun e => e.fId).Nodup := by
  unfold List.Nodup
  rw [List.pairwise_map]
  refine List.Pairwise.filter _ ?_
  rw [List.pairwise_iff_getElem]
  intro i j hi hj hij
  have := hs.mono i j hij hj
  rw [gd_lt hi, gd_lt hj] at this
  omega
/-- the number of entries in the window's buckets -/
noncomputable def candN (a : TSpatialIndex) (r : TRect) : Nat := (a.fEntries.filter (inW r)).length
theorem cand_count {a : TSpatialIndex} (h : okIx a = true) {r : TRect} (hr : okBox r = true) : (compL ((idsW a (bkOf r)).mergeSort fun x y => decide (x ≤ y))).length = candN a r := by
  rw [count_same (ids_nodup (okIx_sorted h) (inW r)) (idsW_mem h hr), List.length_map]
  rfl
theorem idsW_len {a : TSpatialIndex} (h : okIx a = true) : ∀ (l : List Int), (∀ b ∈ l, ∃ k : Nat, k < 25 ∧ b = (k : Int)) → (idsW a l).length ≤ l.length * 40
  | [], _ => by show 0 ≤ _; omega
  | b :: l, hl => by
    have h1 := idsW_len h l fun x hx => hl x (by simp [hx])
    obtain ⟨k, hk, rfl⟩ := hl b (by simp)
    have h2 := (okIx_buckets h).2 k hk
    have h3 := idsF_len a.fEntries k
    have h4 := (okIx_sorted h).len
    show (gd a.fBuckets ((k : Int).toNat) ++ idsW a l).length ≤ _
    rw [List.length_append, Int.toNat_natCast, h2, List.length_cons]
    omega
/- CandidateCount: both sides -/
noncomputable def candR (a : TSpatialIndex) (r : TRect) : Int := if okIx a = true ∧ okBox r = true then (candN a r : Int) else -1
theorem spec_cand_in (a : TSpatialIndex) (r : TRect) (v i : Nat) (hv : v ≤ 1000) (hi : i < a.fEntries.length) : whileP (L_spec_CandidateCount_x28 a r (v : Int) (i : Int)) 0 = some (((v + if inW r (gd a.fEntries i) = true then 1 else 0 : Nat)) : Int) := by
  rw [scan (ok := fun k => !(ovl r (bk k) && ovl (gd a.fEntries i).fBox (bk k))) (n := 25) (yes := (v : Int)) (no := ((v + 1 : Nat) : Int)) (fun k hk => ?_) ?_]
  · unfold inW
    have e : ((List.range 25).all fun k => !(ovl r (bk k) && ovl (gd a.fEntries i).fBox (bk k))) = !((List.range 25).any fun k => ovl r (bk k) && ovl (gd a.fEntries i).fBox (bk k)) := by
      rw [List.not_any_eq_all_not]
    rw [e]
    cases (List.range 25).any fun k => ovl r (bk k) && ovl (gd a.fEntries i).fBox (bk k) <;> rfl
  · simp only [L_spec_CandidateCount_x28, letO_eq]
    rw [lt_false (by omega), br_f]
  · simp only [L_spec_CandidateCount_x28, letO_eq, s_toNn]
    rw [lt_true (by omega), br_t, spec_l11Bucket_ok k hk, Option.bind_some, spec_l11Overlap_ok, Option.bind_some, Option.bind_some, spec_l11Overlap_ok]
    cases ovl r (bk k) with
    | false => rw [br_f, Option.bind_some, br_f, inc_nat (by omega)]; rfl
    | true =>
      rw [br_t, req_of (inRl hi), Option.bind_some, Option.bind_some]
      cases ovl (gd a.fEntries i).fBox (bk k) with
      | false => rw [br_f, inc_nat (by omega)]; rfl
      | true => rw [br_t, inc_nat (by omega)]; rfl
theorem spec_CandidateCount_ok (a : TSpatialIndex) (r : TRect) (h : SmallX a) : F_spec_CandidateCount a r = some (candR a r) := by
  unfold F_spec_CandidateCount candR
  try rw [show TSpatialIndex.mk a.fEntries a.fBuckets = a from rfl]
  rw [spec_IsValidIndex_ok a h, spec_l09Rect_okX, Option.bind_some]
  cases hx : okIx a with
  | false => rw [Bool.not_false, br_t, Option.bind_some, letO_eq, br_t, if_neg (by simp)]
  | true =>
    rw [Bool.not_true, br_f, Option.bind_some, Option.bind_some, letO_eq]
    cases hr : okBox r with
    | false => rw [Bool.not_false, br_t, if_neg (by simp)]
    | true =>
      have hn := (okIx_sorted hx).len
      rw [Bool.not_true, br_f, if_pos ⟨rfl, rfl⟩]
      have hw : whileP (L_spec_CandidateCount_x15 a r) (0, 0) = some ((candN a r : Nat) : Int) := by
       refine while_from (fun i => ((((a.fEntries.take i).filter (inW r)).length : Int), (i : Int))) a.fEntries.length rfl (fun i hi => ?_) ?_
       · have hl : ((a.fEntries.take i).filter (inW r)).length ≤ 40 := by
           have h1 := List.length_filter_le (inW r) (a.fEntries.take i)
           rw [List.length_take] at h1; omega
         simp only [L_spec_CandidateCount_x15, letO_eq]
         rw [ltl_t hi, br_t, spec_cand_in a r _ i (by omega) hi, Option.bind_some, inc_nat (by omega)]
         have e : a.fEntries.take (i + 1) = a.fEntries.take i ++ [gd a.fEntries i] := by
           rw [List.take_add_one, gd_lt hi, List.getElem?_eq_getElem hi]; rfl
         rw [e, List.filter_append, List.length_append]
         congr 4
         cases hq : inW r (gd a.fEntries i) <;> simp [hq]
       · simp only [L_spec_CandidateCount_x15, letO_eq]
         rw [ltl_f, br_f, List.take_length]
         rfl
      rw [hw]
      rfl
theorem impl_CandidateCount_ok (a : TSpatialIndex) (r : TRect) (h : SmallX a) : F_impl_CandidateCount a r = some (candR a r) := by
  unfold F_impl_CandidateCount candR
  try rw [show TSpatialIndex.mk a.fEntries a.fBuckets = a from rfl]
  rw [impl_IsValidIndex_ok a h, impl_IsValidRect_okX, Option.bind_some]
  cases hx : okIx a with
  | false => rw [Bool.not_false, br_t, Option.bind_some, letO_eq, br_t, if_neg (by simp)]
  | true =>
    rw [Bool.not_true, br_f, Option.bind_some, Option.bind_some, letO_eq]
    cases hr : okBox r with
    | false => rw [Bool.not_false, br_t, if_neg (by simp)]
    | true =>
      have hn := (okIx_sorted hx).len
      obtain ⟨hb1, hb2⟩ := okIx_buckets hx
      have hbl := bkOf_len r hr
      have hlt : ∀ n, ∀ b ∈ (bkOf r).take n, ∃ k : Nat, k < 25 ∧ b = (k : Int) := fun n b hb => bkOf_lt r hr b (List.mem_of_mem_take hb)
      have hid : ∀ n, (idsW a ((bkOf r).take n)).length ≤ 1000 := fun n => by
        have := idsW_len hx _ (hlt n)
        rw [List.length_take] at this; omega
      rw [Bool.not_true, br_f, if_pos ⟨rfl, rfl⟩]
      simp only [letO_eq]
      have hw : whileP (L_impl_CandidateCount_x19 a (bkOf r)) (0, []) = some (idsW a (bkOf r)) := by
        refine while_from (fun i => ((i : Int), idsW a ((bkOf r).take i))) (bkOf r).length rfl (fun i hi => ?_) ?_
        · obtain ⟨k, hk, hke⟩ := bkOf_lt r hr _ (gd_mem hi)
          simp only [L_impl_CandidateCount_x19, letO_eq, s_toNn, s_nadd, Nat.zero_add]
          have hbk : (gd a.fBuckets k).length ≤ 40 := by rw [hb2 k hk]; exact Nat.le_trans (idsF_len _ _) hn
          rw [ltl_t hi, br_t, req_of (inRl hi), hke, req_of (inRl (by omega)), s_toNn, req_of (roomN (by have := hid i; rw [len_eq, len_eq]; omega) (by omega)), inc_nat (by omega)]
          have e : (bkOf r).take (i + 1) = (bkOf r).take i ++ [gd (bkOf r) i] := by
            rw [List.take_add_one, gd_lt hi, List.getElem?_eq_getElem hi]; rfl
          unfold idsW
          rw [e, List.flatMap_append, hke]
          simp
        · simp only [L_impl_CandidateCount_x19, letO_eq]
          rw [ltl_f, br_f, List.take_length]
      rw [impl_buckets_ok r hr, Option.bind_some, hw, Option.bind_some]
      · have hF : (idsW a (bkOf r)).length ≤ 1000 := by
          have := hid (bkOf r).length
          rw [List.take_length] at this; exact this
        unfold F_slices_Sort_Lint64_int64_mo
        rw [if_pos (by omega), Option.bind_some]
        have hs : ((idsW a (bkOf r)).mergeSort fun x y => decide (x ≤ y)).length = (idsW a (bkOf r)).length := List.length_mergeSort _
        rw [req_of (by rw [len_eq, len_eq]; exact hs)]
        unfold F_slices_Compact_Lint64_int64_mo
        rw [if_pos (by omega), Option.bind_some, req_of (by rw [len_eq, len_eq]; exact hs.symm), s_ofN, len_eq]
        have := cand_count hx hr
        unfold compL at this
        rw [this]
theorem toEntry_ok (a : TSpatialEntry) : F_laws_toSpatialEntry a = some a := rfl
theorem toEntryS_ok (a : List TSpatialEntry) (h : a.length ≤ 10000000) : F_laws_toSpatialEntryS a = some a := by
  unfold F_laws_toSpatialEntryS
  rw [req_of (nneg_len _), req_of (room_le (by rw [len_eq]; omega) (by decide))]
  simp only [letO_eq, s_ofN, s_toNn, len_eq]
  rw [bind_of (while_copy (st := L_laws_toSpatialEntryS_x7 a _) a (List.replicate a.length _) (by simp) (fun i hi v hv => ?_) (fun v => ?_)), req_of (by simp)]
  · simp only [L_laws_toSpatialEntryS_x7, letO_eq, s_toNn, s_nadd, Nat.zero_add]
    rw [ltl_t hi, br_t, req_of (inRl hi), toEntry_ok, Option.bind_some, req_of (inRl (by simpa using hi)), req_of (by simp [len_eq, hv]), inc_nat (by omega)]
  · simp only [L_laws_toSpatialEntryS_x7, letO_eq]
    rw [ltl_f, br_f]
theorem toIntS_ok (a : List Int) (h : a.length ≤ 10000000) : F_laws_toInt64S a = some a := by
  unfold F_laws_toInt64S
  rw [req_of (nneg_len _), req_of (room_le (by rw [len_eq]; omega) (by decide))]
  simp only [letO_eq, s_ofN, s_toNn, len_eq]
  rw [bind_of (while_copy (st := L_laws_toInt64S_x7 a _) a (List.replicate a.length _) (by simp) (fun i hi v hv => ?_) (fun v => ?_)), req_of (by simp)]
  · simp only [L_laws_toInt64S_x7, letO_eq, s_toNn, s_nadd, Nat.zero_add]
    rw [ltl_t hi, br_t, req_of (inRl hi), req_of (inRl (by simpa using hi)), req_of (by simp [len_eq, hv]), inc_nat (by omega)]
  · simp only [L_laws_toInt64S_x7, letO_eq]
    rw [ltl_f, br_f]
theorem toIntSS_ok (a : List (List Int)) (h : a.length ≤ 1048576) (hc : ∀ c ∈ a, c.length ≤ 1048576) : F_laws_toInt64SS a = some a := by
  unfold F_laws_toInt64SS
  rw [req_of (nneg_len _), req_of (room_le (by rw [len_eq]; omega) (by decide))]
  simp only [letO_eq, s_ofN, s_toNn, len_eq, Option.bind_some]
  rw [bind_of (while_copy (st := L_laws_toInt64SS_x14 a _) a (List.replicate a.length _) (by simp) (fun i hi v hv => ?_) (fun v => ?_)), req_of (by simp)]
  · simp only [L_laws_toInt64SS_x14, letO_eq, s_toNn, s_nadd, Nat.zero_add]
    rw [ltl_t hi, br_t, req_of (inRl hi), toIntS_ok _ (by have := hc _ (gd_mem hi); omega), Option.bind_some, req_of (inRl (by simpa using hi)), req_of (by simp [len_eq, hv]), inc_nat (by omega)]
    rfl
  · simp only [L_laws_toInt64SS_x14, letO_eq]
    rw [ltl_f, br_f]
theorem toIx_ok (a : TSpatialIndex) (h : SmallX a) : F_laws_toSpatialIndex a = some a := by
  unfold F_laws_toSpatialIndex
  rw [toEntryS_ok _ (by have := h.entries; omega), Option.bind_some, toIntSS_ok _ h.buckets h.bucket]; rfl
theorem subX {n : Nat} {x : Int} (h : n ≤ maxLen) (hx : 0 ≤ x ∧ x ≤ 1048576) : std.sub .i64 x (std.ofN n) = x - n := by
  have := maxLen_eq
  rw [s_ofN, sub_id (by omega) (by omega)]
theorem szEntryS_ok (a : List TSpatialEntry) (x : Int) (ha : a.length ≤ maxLen) (hx : 0 ≤ x ∧ x ≤ 1048576) : ∃ y, F_laws_szSpatialEntryS a x = some y ∧ (0 ≤ y → y ≤ x ∧ a.length ≤ 1048576) := by
  unfold F_laws_szSpatialEntryS
  rw [len_eq, subX ha hx, br_bool, s_lt]
  by_cases h : x - (a.length : Int) < 0
  · exact ⟨-1, by simp [h], fun h => by omega⟩
  · exact ⟨x - a.length, by simp [h], fun _ => ⟨by omega, by omega⟩⟩
theorem szIntS_ok (a : List Int) (x : Int) (ha : a.length ≤ maxLen) (hx : 0 ≤ x ∧ x ≤ 1048576) : ∃ y, F_laws_szInt64S a x = some y ∧ (0 ≤ y → y ≤ x ∧ a.length ≤ 1048576) := by
  unfold F_laws_szInt64S
  rw [len_eq, subX ha hx, br_bool, s_lt]
  by_cases h : x - (a.length : Int) < 0
  · exact ⟨-1, by simp [h], fun h => by omega⟩
  · exact ⟨x - a.length, by simp [h], fun _ => ⟨by omega, by omega⟩⟩
theorem while_szX {α : Type} [Inhabited α] {st : Int × Int → Option ((Int × Int) ⊕ (Int ⊕ Int))} (l : List α) (ok : α → Prop) (x : Int) (hx : 0 ≤ x ∧ x ≤ 1048576)
    (h : ∀ i, i < l.length → ∀ y : Int, 0 ≤ y ∧ y ≤ 1048576 → ∃ z : Int, (z < 0 ∧ st (y, (i : Int)) = some (.inr (.inl (-1)))) ∨ (0 ≤ z ∧ z ≤ y ∧ ok (gd l i) ∧ st (y, (i : Int)) = some (.inl (z, ((i + 1 : Nat) : Int)))))
    (he : ∀ y, st (y, (l.length : Int)) = some (.inr (.inr y))) : ∃ r, whileP st (x, 0) = some r ∧ (r = .inl (-1) ∨ ∃ z, r = .inr z ∧ 0 ≤ z ∧ z ≤ x ∧ ∀ e ∈ l, ok e) := by
  refine while_ex (fun s => ∃ (i : Nat) (y : Int), s = (y, (i : Int)) ∧ i ≤ l.length ∧ 0 ≤ y ∧ y ≤ x ∧ ∀ j, j < i → ok (gd l j)) _ (fun s => l.length + 1 - s.2.toNat) ⟨0, x, rfl, by omega, by omega, by omega, fun j hj => by omega⟩ ?_
  rintro _ ⟨i, y, rfl, h1, h2, h3, h4⟩
  by_cases hi : i < l.length
  · obtain ⟨z, ⟨_, hz⟩ | ⟨g1, g2, g3, hz⟩⟩ := h i hi y ⟨h2, by omega⟩
    · exact .inr ⟨_, hz, .inl rfl⟩
    · exact .inl ⟨_, hz, ⟨i + 1, z, rfl, by omega, g1, by omega, fun j hj => by
        rcases Nat.lt_or_ge j i with hj' | hj'
        · exact h4 j hj'
        · rw [show j = i by omega]; exact g3⟩, by simp only [Int.toNat_natCast]; omega⟩
  · have hil : i = l.length := by omega
    subst hil
    refine .inr ⟨_, he y, .inr ⟨y, rfl, h2, h3, fun e hm => ?_⟩⟩
    obtain ⟨j, hj, rfl⟩ := List.getElem_of_mem hm
    rw [← gd_lt hj]; exact h4 j hj
theorem szIntSS_ok (a : List (List Int)) (x : Int) (ha : a.length ≤ maxLen) (hn : ∀ l ∈ a, l.length ≤ maxLen) (hx : 0 ≤ x ∧ x ≤ 1048576) : ∃ y, F_laws_szInt64SS a x = some y ∧ (0 ≤ y → y ≤ x ∧ a.length ≤ 1048576 ∧ ∀ l ∈ a, l.length ≤ 1048576) := by
  have hb := maxLen_eq
  unfold F_laws_szInt64SS
  rw [len_eq, subX ha hx, br_bool, s_lt]
  by_cases h : x - (a.length : Int) < 0
  · exact ⟨-1, by simp [h], fun h => by omega⟩
  · rw [if_neg (by simpa using h)]
    obtain ⟨r, h1, h2⟩ := while_szX (st := L_laws_szInt64SS_x3 a) a (fun l => l.length ≤ 1048576) (x - a.length) ⟨by omega, by omega⟩ (fun i hi y hy => by
      obtain ⟨z, hz, hz2⟩ := szIntS_ok (gd a i) y (hn _ (gd_mem hi)) hy
      refine ⟨z, ?_⟩
      simp only [L_laws_szInt64SS_x3, letO_eq, s_toNn]
      rw [ltl_t hi, br_t, req_of (inRl hi), hz, Option.bind_some, br_bool, s_lt, inc_nat (by omega)]
      by_cases h0 : z < 0
      · exact .inl ⟨h0, by simp [h0]⟩
      · exact .inr ⟨by omega, (hz2 (by omega)).1, (hz2 (by omega)).2, by simp [h0]⟩) (fun y => by
      simp only [L_laws_szInt64SS_x3, letO_eq]
      rw [ltl_f, br_f])
    rw [h1, Option.bind_some]
    rcases h2 with rfl | ⟨z, rfl, h3, h4, h5⟩
    · exact ⟨-1, rfl, fun h => by omega⟩
    · exact ⟨z, rfl, fun _ => ⟨by omega, by omega, h5⟩⟩
theorem szIx_ok (a : TSpatialIndex) (h1 : a.fEntries.length ≤ maxLen) (h2 : a.fBuckets.length ≤ maxLen) (h3 : ∀ l ∈ a.fBuckets, l.length ≤ maxLen) : ∃ y, F_laws_szSpatialIndex a 1048576 = some y ∧ (0 ≤ y → SmallX a) := by
  unfold F_laws_szSpatialIndex
  obtain ⟨y, hy, hy2⟩ := szEntryS_ok a.fEntries 1048576 h1 ⟨by omega, by omega⟩
  rw [hy, Option.bind_some, br_bool, s_lt]
  by_cases h : y < 0
  · exact ⟨-1, by simp [h], fun h => by omega⟩
  · rw [if_neg (by simpa using h)]
    obtain ⟨g1, g2⟩ := hy2 (by omega)
    obtain ⟨z, hz, hz2⟩ := szIntSS_ok a.fBuckets y h2 h3 ⟨by omega, by omega⟩
    rw [hz, Option.bind_some, br_bool, s_lt]
    by_cases h' : z < 0
    · exact ⟨-1, by simp [h'], fun h => by omega⟩
    · refine ⟨z, by simp [h'], fun _ => ?_⟩
      obtain ⟨g3, g4, g5⟩ := hz2 (by omega)
      exact ⟨g2, g4, g5⟩
-- equality with itself
theorem eqRectX (a : TRect) : F_laws_eqRect a a = some true := by unfold F_laws_eqRect; simp [eq_true', s_not, br]
theorem eqEntryX (a : TSpatialEntry) : F_laws_eqSpatialEntry a a = some true := by unfold F_laws_eqSpatialEntry; simp [eq_true', s_not, br, eqRectX]
theorem eqEntrySX (l : List TSpatialEntry) (h : l.length ≤ 10000000) : F_laws_eqSpatialEntryS l l = some true := by
  unfold F_laws_eqSpatialEntryS
  rw [notEq (eq_true' rfl), br_f]
  refine Eq.trans (bind_of (while_eq (r := .inr ()) l.length (fun i hi => ?_) ?_)) rfl
  · simp only [L_laws_eqSpatialEntryS_x2, letO_eq, s_toNn, eqEntryX, Option.bind_some]
    rw [ltl_t hi, br_t, req_of (inRl hi), req_of (inRl hi), inc_nat (by omega)]; rfl
  · simp only [L_laws_eqSpatialEntryS_x2, letO_eq]
    rw [ltl_f]; rfl
theorem eqIntSX (l : List Int) (h : l.length ≤ 10000000) : F_laws_eqInt64S l l = some true := by
  unfold F_laws_eqInt64S
  rw [notEq (eq_true' rfl), br_f]
  refine Eq.trans (bind_of (while_eq (r := .inr ()) l.length (fun i hi => ?_) ?_)) rfl
  · simp only [L_laws_eqInt64S_x2, letO_eq, s_toNn, notEq (eq_true' rfl)]
    rw [ltl_t hi, br_t, req_of (inRl hi), req_of (inRl hi), inc_nat (by omega)]; rfl
  · simp only [L_laws_eqInt64S_x2, letO_eq]
    rw [ltl_f]; rfl
theorem eqIntSSX (l : List (List Int)) (h : l.length ≤ 10000000) (hc : ∀ c ∈ l, c.length ≤ 1048576) : F_laws_eqInt64SS l l = some true := by
  unfold F_laws_eqInt64SS
  rw [notEq (eq_true' rfl), br_f]
  refine Eq.trans (bind_of (while_eq (r := .inr ()) l.length (fun i hi => ?_) ?_)) rfl
  · simp only [L_laws_eqInt64SS_x2, letO_eq, s_toNn]
    rw [ltl_t hi, br_t, req_of (inRl hi), req_of (inRl hi), eqIntSX _ (by have := hc _ (gd_mem hi); omega), inc_nat (by omega)]; rfl
  · simp only [L_laws_eqInt64SS_x2, letO_eq]
    rw [ltl_f]; rfl
theorem eqIxX (a : TSpatialIndex) (h : SmallX a) : F_laws_eqSpatialIndex a a = some true := by
  unfold F_laws_eqSpatialIndex
  rw [eqEntrySX _ (by have := h.entries; omega), Option.bind_some, eqIntSSX _ (by have := h.buckets; omega) h.bucket]; rfl
-- marks
def mE (k i : Nat) : TSpatialEntry := ⟨((k + 5 * i : Nat) : Int), ⟨((k + 5 * i + 1 : Nat) : Int), ((k + 5 * i + 1 + 1 : Nat) : Int), ((k + 5 * i + 1 + 1 + 1 : Nat) : Int), ((k + 5 * i + 1 + 1 + 1 + 1 : Nat) : Int)⟩⟩
def mI (k : Nat) (n : Nat) : List Int := (List.range n).map fun i => ((k + i : Nat) : Int)
def offs (l : List (List Int)) : Nat → Nat
  | 0 => 0
  | i + 1 => offs l i + (gd l i).length
def mR (l : List (List Int)) (k i : Nat) : List Int := mI (k + offs l i) (gd l i).length
/- the law of CandidateCount -/
theorem lawW_CandidateCount (a : TSpatialIndex) (r : TRect) (hw : wfSpatialIndex a) (_ : wfRect r) : F_laws_FnExactCandidateCount a r = some true := by
  obtain ⟨⟨w1, _⟩, ⟨w2, w3⟩⟩ := hw
  unfold F_laws_FnExactCandidateCount
  rw [show TSpatialIndex.mk a.fEntries a.fBuckets = a from rfl]
  obtain ⟨y, hy, hs⟩ := szIx_ok a w1 w2 (fun l hl => (w3 l hl).1)
  rw [hy, Option.bind_some]
  by_cases h0 : y < 0
  · rw [lt_true h0, br_t]
  · rw [lt_false h0, br_f]
    have S := hs (by omega)
    have e : F_laws_toRect r = some r := rfl
    simp only [toIx_ok a S, e, Option.bind_some, spec_CandidateCount_ok a r S, impl_CandidateCount_ok a r S, eqIxX _ S, eq_true' rfl, s_not, Bool.not_true, br_f]
end Go.Proofs.Ythjpkcpoepnolaa.AM
