/-
  What the functions that the law reaches compute, and that they do. No condition.
-/
import Derived.Test.YthjpkcpoepnolaaAnP
import Derived.Lib.SlicesCompact
import Derived.Test.YthjpkcpoepnolaaAnSX
import Derived.Test.YthjpkcpoepnolaaAnSW
namespace Go.Proofs.Ythjpkcpoepnolaa.AM
open Go Go.Proofs Go.RowKit
set_option linter.unusedVariables false
set_option linter.unusedSimpArgs false
set_option maxRecDepth 100000

/- what is left of a sorted list when what stands twice goes -/
noncomputable def compL (l : List Int) : List Int := Lib.compactUpTo l.toArray l.length
theorem keeps_iff (l : List Int) (j : Nat) (hj : j < l.length) : Lib.keeps l.toArray j = true ↔ (j = 0 ∨ gd l j ≠ gd l (j - 1)) := by
  have e1 : l.toArray[j]! = gd l j := by rw [gd_lt hj, getElem!_pos _ j (by simpa using hj)]; simp
  have e2 : l.toArray[j - 1]! = gd l (j - 1) := by rw [gd_lt (by omega), getElem!_pos _ (j - 1) (by simp; omega)]; simp
  unfold Lib.keeps
  rw [e1, e2, decide_eq_true_iff]
theorem compL_eq (l : List Int) : compL l = ((List.range l.length).filter (Lib.keeps l.toArray)).map (gd l) := by
  unfold compL Lib.compactUpTo
  apply List.map_congr_left
  intro j hj
  have hj' : j < l.length := List.mem_range.1 (List.mem_filter.1 hj).1
  rw [gd_lt hj', getElem!_pos _ j (by simpa using hj')]; simp
theorem compL_mem (l : List Int) (x : Int) : x ∈ compL l ↔ x ∈ l := by
  rw [compL_eq, List.mem_map]
  constructor
  · rintro ⟨j, hj, rfl⟩
    have hj' : j < l.length := List.mem_range.1 (List.mem_filter.1 hj).1
    rw [gd_lt hj']
    exact List.getElem_mem hj'
  · intro hx
    obtain ⟨j, hj, rfl⟩ := List.getElem_of_mem hx
    have key : ∀ j (hj : j < l.length), ∃ i, i < l.length ∧ Lib.keeps l.toArray i = true ∧ gd l i = l[j] := by
      intro j
      induction j with
      | zero => intro hj; exact ⟨0, hj, (keeps_iff l 0 hj).2 (.inl rfl), gd_lt hj⟩
      | succ j ih =>
        intro hj
        by_cases h : gd l (j + 1) = gd l j
        · obtain ⟨i, h1, h2, h3⟩ := ih (by omega)
          refine ⟨i, h1, h2, ?_⟩
          rw [h3, ← gd_lt hj, h, gd_lt]
        · exact ⟨j + 1, hj, (keeps_iff l (j + 1) hj).2 (.inr h), gd_lt hj⟩
    obtain ⟨i, h1, h2, h3⟩ := key j hj
    exact ⟨i, List.mem_filter.2 ⟨List.mem_range.2 h1, h2⟩, h3⟩
theorem compL_nodup (l : List Int) (hs : l.Pairwise (· ≤ ·)) : (compL l).Nodup := by
  rw [compL_eq]
  unfold List.Nodup
  rw [List.pairwise_map]
  have h1 : ((List.range l.length).filter (Lib.keeps l.toArray)).Pairwise (· < ·) := List.Pairwise.filter _ List.pairwise_lt_range
  refine h1.imp_of_mem ?_
  intro i j hi hj hij
  have hi' : i < l.length := List.mem_range.1 (List.mem_filter.1 hi).1
  have hj' : j < l.length := List.mem_range.1 (List.mem_filter.1 hj).1
  have hk := (keeps_iff l j hj').1 (List.mem_filter.1 hj).2
  have hle : ∀ a b (hb : b < l.length), a ≤ b → gd l a ≤ gd l b := fun a b hb hab => by
    rcases Nat.lt_or_eq_of_le hab with h | h
    · rw [gd_lt (by omega), gd_lt hb]
      exact List.pairwise_iff_getElem.1 hs a b (by omega) hb h
    · subst h; exact Int.le_refl _
  rcases hk with hk | hk
  · omega
  · have g1 := hle i (j - 1) (by omega) (by omega)
    have g2 := hle (j - 1) j hj' (by omega)
    omega
theorem sort_le (l : List Int) : (l.mergeSort fun x y => decide (x ≤ y)).Pairwise (· ≤ ·) := by
  have := List.pairwise_mergeSort (le := fun x y : Int => decide (x ≤ y)) (fun a b c h1 h2 => by simp only [decide_eq_true_eq] at *; omega) (fun a b => by simp only [Bool.or_eq_true, decide_eq_true_eq]; omega) l
  exact this.imp fun h => by simpa using h
/-- how many there are: as many as in any list without repetitions that has the same members -/
theorem count_same {l q : List Int} (hq : q.Nodup) (hm : ∀ x, x ∈ l ↔ x ∈ q) : (compL (l.mergeSort fun x y => decide (x ≤ y))).length = q.length := by
  refine List.Perm.length_eq ((List.perm_ext_iff_of_nodup (compL_nodup _ (sort_le l)) hq).2 fun x => ?_)
  rw [compL_mem, List.mem_mergeSort, hm]
/- how many entries lie in the buckets of a window -/
/-- the ids of the entries grow, and are small -/
structure Sorted (l : List TSpatialEntry) : Prop where
  len : l.length ≤ 40
  low : ∀ i, i < l.length → 1 ≤ (gd l i).fId ∧ (gd l i).fId ≤ 9999
  mono : ∀ s t, s < t → t < l.length → (gd l s).fId < (gd l t).fId
  box : ∀ e ∈ l, okBox e.fBox = true
theorem okIx_sorted {a : TSpatialIndex} (h : okIx a = true) : Sorted a.fEntries := by
  unfold okIx at h
  simp only [Bool.and_eq_true, decide_eq_true_eq] at h
  obtain ⟨hn, hv, _⟩ := h
  have hv2 : ∀ i, i < a.fEntries.length → okE a.fEntries i = true := fun i hi => List.all_eq_true.1 hv i (by simpa using hi)
  have step : ∀ t, t + 1 < a.fEntries.length → (gd a.fEntries t).fId < (gd a.fEntries (t + 1)).fId := fun t ht => by
    have := hv2 (t + 1) ht
    unfold okE at this
    simp only [Bool.and_eq_true, Bool.not_eq_true', Bool.and_eq_false_iff, s_lt, s_le, decide_eq_false_iff_not] at this
    rw [Nat.add_sub_cancel] at this
    omega
  refine ⟨hn, fun i hi => ?_, fun s t hst => ?_, okE_box hv⟩
  · have := hv2 i hi
    unfold okE wX at this
    simp only [Bool.and_eq_true, s_le, decide_eq_true_eq] at this
    exact this.1
  · induction t with
    | zero => omega
    | succ t ih =>
      intro ht
      by_cases h : s = t
      · subst h; exact step s ht
      · exact Int.lt_trans (ih (by omega) (by omega)) (step t ht)
theorem eqI_eq {a b : List Int} (h : eqI a b = true) : a = b := by
  unfold eqI at h
  rw [Bool.and_eq_true, decide_eq_true_eq, List.all_eq_true] at h
  refine List.ext_getElem h.1 fun i h1 h2 => ?_
  have := h.2 i (by simpa using h1)
  rw [s_eq, decide_eq_true_eq, gd_lt h1, gd_lt h2] at this
  exact this
theorem okIx_buckets {a : TSpatialIndex} (h : okIx a = true) : a.fBuckets.length = 25 ∧ ∀ k, k < 25 → gd a.fBuckets k = idsF a.fEntries k := by
  unfold okIx at h
  simp only [Bool.and_eq_true, decide_eq_true_eq] at h
  refine ⟨h.2.2.1, fun k hk => eqI_eq (List.all_eq_true.1 h.2.2.2 k (by simpa using hk))⟩
/-- the ids of the window's buckets, bucket after bucket -/
noncomputable def idsW (a : TSpatialIndex) (l : List Int) : List Int := l.flatMap fun b => gd a.fBuckets b.toNat
noncomputable def inW (r : TRect) (e : TSpatialEntry) : Bool := (List.range 25).any fun k => ovl r (bk k) && ovl e.fBox (bk k)
theorem idsW_mem {a : TSpatialIndex} (h : okIx a = true) {r : TRect} (hr : okBox r = true) (x : Int) : x ∈ idsW a (bkOf r) ↔ x ∈ (a.fEntries.filter (inW r)).map fun e => e.fId := by
  obtain ⟨hl, hb⟩ := okIx_buckets h
  unfold idsW
  rw [List.mem_flatMap, List.mem_map]
  constructor
  · rintro ⟨b, hb1, hb2⟩
    obtain ⟨k, hk, rfl⟩ := bkOf_lt r hr b hb1
    rw [Int.toNat_natCast, hb k hk] at hb2
    unfold idsF at hb2
    obtain ⟨e, he, rfl⟩ := List.mem_map.1 hb2
    obtain ⟨h1, h2⟩ := List.mem_filter.1 he
    refine ⟨e, List.mem_filter.2 ⟨h1, ?_⟩, rfl⟩
    unfold inW
    rw [List.any_eq_true]
    exact ⟨k, List.mem_range.2 hk, by rw [(bkOf_mem r hr k hk).1 hb1, h2]; rfl⟩
  · rintro ⟨e, he, rfl⟩
    obtain ⟨h1, h2⟩ := List.mem_filter.1 he
    unfold inW at h2
    rw [List.any_eq_true] at h2
    obtain ⟨k, hk, h3⟩ := h2
    rw [Bool.and_eq_true] at h3
    have hk' := List.mem_range.1 hk
    refine ⟨(k : Int), (bkOf_mem r hr k hk').2 h3.1, ?_⟩
    rw [Int.toNat_natCast, hb k hk']
    unfold idsF
    exact List.mem_map.2 ⟨e, List.mem_filter.2 ⟨h1, h3.2⟩, rfl⟩
theorem ids_nodup {l : List TSpatialEntry} (hs : Sorted l) (p : TSpatialEntry → Bool) : ((l.filter p).map fun e => e.fId).Nodup := by
  unfold List.Nodup
  rw [List.pairwise_map]
  refine List.Pairwise.filter _ ?_
  rw [List.pairwise_iff_getElem]
  intro i j hi hj hij
  have := hs.mono i j hij hj
  rw [gd_lt hi, gd_lt hj] at this
  omega
/-- the number of entries in the window's buckets -/
noncomputable def candN (a : TSpatialIndex) (r : TRect) : Nat := (a.fEntries.filter (inW r)).length
theorem cand_count {a : TSpatialIndex} (h : okIx a = true) {r : TRect} (hr : okBox r = true) : (compL ((idsW a (bkOf r)).mergeSort fun x y => decide (x ≤ y))).length = candN a r := by
  rw [count_same (ids_nodup (okIx_sorted h) (inW r)) (idsW_mem h hr), List.length_map]
  rfl
theorem idsW_len {a : TSpatialIndex} (h : okIx a = true) : ∀ (l : List Int), (∀ b ∈ l, ∃ k : Nat, k < 25 ∧ b = (k : Int)) → (idsW a l).length ≤ l.length * 40
  | [], _ => by show 0 ≤ _; omega
  | b :: l, hl => by
    have h1 := idsW_len h l fun x hx => hl x (by simp [hx])
    obtain ⟨k, hk, rfl⟩ := hl b (by simp)
    have h2 := (okIx_buckets h).2 k hk
    have h3 := idsF_len a.fEntries k
    have h4 := (okIx_sorted h).len
    show (gd a.fBuckets ((k : Int).toNat) ++ idsW a l).length ≤ _
    rw [List.length_append, Int.toNat_natCast, h2, List.length_cons]
    omega
/- CandidateCount: both sides -/
noncomputable def candR (a : TSpatialIndex) (r : TRect) : Int := if okIx a = true ∧ okBox r = true then (candN a r : Int) else -1
theorem impl_CandidateCount_ok (a : TSpatialIndex) (r : TRect) (h : SmallX a) : F_impl_CandidateCount a r = some (candR a r) := by
  unfold F_impl_CandidateCount candR
  try rw [show TSpatialIndex.mk a.fEntries a.fBuckets = a from rfl]
  rw [impl_IsValidIndex_ok a h, impl_IsValidRect_okX, Option.bind_some]
  cases hx : okIx a with
  | false => rw [Bool.not_false, br_t, Option.bind_some, letO_eq, br_t, if_neg (by simp)]
  | true =>
    rw [Bool.not_true, br_f, Option.bind_some, Option.bind_some, letO_eq]
    cases hr : okBox r with
    | false => rw [Bool.not_false, br_t, if_neg (by simp)]
    | true =>
      have hn := (okIx_sorted hx).len
      obtain ⟨hb1, hb2⟩ := okIx_buckets hx
      have hbl := bkOf_len r hr
      have hlt : ∀ n, ∀ b ∈ (bkOf r).take n, ∃ k : Nat, k < 25 ∧ b = (k : Int) := fun n b hb => bkOf_lt r hr b (List.mem_of_mem_take hb)
      have hid : ∀ n, (idsW a ((bkOf r).take n)).length ≤ 1000 := fun n => by
        have := idsW_len hx _ (hlt n)
        rw [List.length_take] at this; omega
      rw [Bool.not_true, br_f, if_pos ⟨rfl, rfl⟩]
      simp only [letO_eq]
      have hw : whileP (L_impl_CandidateCount_x19 a (bkOf r)) (0, []) = some (idsW a (bkOf r)) := by
        refine while_from (fun i => ((i : Int), idsW a ((bkOf r).take i))) (bkOf r).length rfl (fun i hi => ?_) ?_
        · obtain ⟨k, hk, hke⟩ := bkOf_lt r hr _ (gd_mem hi)
          simp only [L_impl_CandidateCount_x19, letO_eq, s_toNn, s_nadd, Nat.zero_add]
          have hbk : (gd a.fBuckets k).length ≤ 40 := by rw [hb2 k hk]; exact Nat.le_trans (idsF_len _ _) hn
          rw [ltl_t hi, br_t, req_of (inRl hi), hke, req_of (inRl (by omega)), s_toNn, req_of (roomN (by have := hid i; rw [len_eq, len_eq]; omega) (by omega)), inc_nat (by omega)]
          have e : (bkOf r).take (i + 1) = (bkOf r).take i ++ [gd (bkOf r) i] := by
            rw [List.take_add_one, gd_lt hi, List.getElem?_eq_getElem hi]; rfl
          unfold idsW
          rw [e, List.flatMap_append, hke]
          simp
        · simp only [L_impl_CandidateCount_x19, letO_eq]
          rw [ltl_f, br_f, List.take_length]
      rw [impl_buckets_ok r hr, Option.bind_some, hw, Option.bind_some]
      · have hF : (idsW a (bkOf r)).length ≤ 1000 := by
          have := hid (bkOf r).length
          rw [List.take_length] at this; exact this
        unfold F_slices_Sort_Lint64_int64_mo
        rw [if_pos (by omega), Option.bind_some]
        have hs : ((idsW a (bkOf r)).mergeSort fun x y => decide (x ≤ y)).length = (idsW a (bkOf r)).length := List.length_mergeSort _
        rw [req_of (by rw [len_eq, len_eq]; exact hs)]
        unfold F_slices_Compact_Lint64_int64_mo
        rw [if_pos (by omega), Option.bind_some, req_of (by rw [len_eq, len_eq]; exact hs.symm), s_ofN, len_eq]
        have := cand_count hx hr
        unfold compL at this
        rw [this]
/- what is drawn: it is drawn, and it is small -/
def Tot {α : Type} (x : Option α) (Q : α → Prop) : Prop := ∃ r, x = some r ∧ Q r
theorem Tot.ret {α : Type} {r : α} {Q : α → Prop} (h : Q r) : Tot (some r) Q := ⟨r, rfl, h⟩
theorem Tot.bind {α β : Type} {x : Option α} {f : α → Option β} {P : α → Prop} {Q : β → Prop} (h : Tot x P) (g : ∀ r, P r → Tot (f r) Q) : Tot (x.bind f) Q := by
  obtain ⟨r, h1, h2⟩ := h
  rw [h1]
  exact g r h2
theorem Tot.req {α : Type} {p : Prop} {k : Option α} {Q : α → Prop} (h : p) (g : Tot k Q) : Tot (Go.Proofs.Ythjpkcpoepnolaa.AM.req p k) Q := by rw [req_of h]; exact g
theorem Tot.br {α : Type} {b : Bool} {x y : Option α} {Q : α → Prop} (h1 : b = true → Tot x Q) (h2 : b = false → Tot y Q) : Tot (Go.Proofs.Ythjpkcpoepnolaa.AM.br b x y) Q := by
  cases b with
  | true => exact h1 rfl
  | false => exact h2 rfl
theorem Tot.letO {α β : Type} {e : α} {f : α → Option β} {Q : β → Prop} (h : Tot (f e) Q) : Tot (Go.Proofs.Ythjpkcpoepnolaa.AM.letO e f) Q := h
theorem Tot.mono {α : Type} {x : Option α} {P Q : α → Prop} (h : Tot x P) (g : ∀ r, P r → Q r) : Tot x Q := by
  obtain ⟨r, h1, h2⟩ := h
  exact ⟨r, h1, g r h2⟩
theorem Tot.whileP {σ ρ : Type} {step : σ → Option (σ ⊕ ρ)} {x0 : σ} {Post : ρ → Prop} (Inv : σ → Prop) (μ : σ → Nat) (h0 : Inv x0)
    (h : ∀ x, Inv x → Tot (step x) fun r => match r with | .inl x' => Inv x' ∧ μ x' < μ x | .inr r => Post r) : Tot (Go.Proofs.Ythjpkcpoepnolaa.AM.whileP step x0) Post := by
  refine while_ex Inv Post μ h0 fun x hx => ?_
  obtain ⟨r, h1, h2⟩ := h x hx
  cases r with
  | inl x' => exact .inl ⟨x', h1, h2.1, h2.2⟩
  | inr r => exact .inr ⟨r, h1, h2⟩
def OKc (c : List Int) : Prop := c.length ≤ 5000 ∧ ∀ b ∈ c, 0 ≤ b ∧ b ≤ 255
structure OKs (s : Tl01Source) : Prop where
  code : OKc s.gcode
  at0 : 0 ≤ s.gat
  at1 : s.gat ≤ 5000
  seed0 : 0 ≤ s.gseed
  seed1 : s.gseed < 2147483647
theorem lt_dec {x y : Int} (h : std.lt x y = true) : x < y := of_decide_eq_true h
theorem lt_decf {x y : Int} (h : std.lt x y = false) : y ≤ x := by
  have := of_decide_eq_false (show decide (x < y) = false from h); omega
theorem le_decf {x y : Int} (h : std.le x y = false) : y < x := by
  have := of_decide_eq_false (show decide (x ≤ y) = false from h); omega
theorem remB {x m : Int} (hx : 0 ≤ x) (hm : 0 < m) : 0 ≤ std.rem x m ∧ std.rem x m < m := by
  show 0 ≤ Int.tmod x m ∧ Int.tmod x m < m
  rw [Int.tmod_eq_emod_of_nonneg hx]
  exact ⟨Int.emod_nonneg _ (by omega), Int.emod_lt_of_pos _ hm⟩
theorem quoB {x m : Int} (hx : 0 ≤ x) (hx2 : x < 4611686018427387904) (hm : 0 < m) : 0 ≤ std.quo .i64 x m := by
  show 0 ≤ IntKind.i64.wrap (Int.tdiv x m)
  have h1 : Int.tdiv x m = x / m := Int.tdiv_eq_ediv_of_nonneg hx
  have h2 : 0 ≤ x / m := Int.ediv_nonneg hx (by omega)
  have h3 : x / m ≤ x := Int.ediv_le_self _ hx
  rw [h1, wrap_id (by omega) (by omega)]
  exact h2
theorem conv_id {x : Int} (h : 0 ≤ x ∧ x ≤ 255) : std.conv .i64 x = x := wrap_id (by omega) (by omega)
theorem gd_byte {c : List Int} (h : OKc c) {i : Int} (h0 : 0 ≤ i) (h1 : i < (c.length : Int)) : 0 ≤ gd c (std.toN i) ∧ gd c (std.toN i) ≤ 255 := by
  obtain ⟨n, rfl⟩ := Int.eq_ofNat_of_zero_le h0
  rw [s_toNn]
  exact h.2 _ (gd_mem (by omega))
theorem mulS {x y : Int} (h : -9223372036854775808 ≤ x * y) (g : x * y < 9223372036854775808) : std.mul .i64 x y = x * y := wrap_id h g
/-- the next number -/
theorem next_ok {s : Tl01Source} (hs : OKs s) {n : Int} (hn : n ≤ 1000000) : Tot (F_spec_l01Next_mPbb s n) fun r => OKs r.2 ∧ 0 ≤ r.1 ∧ (r.1 < n ∨ r.1 = 0) := by
  obtain ⟨hc, h0, h1, s0, s1⟩ := hs
  unfold F_spec_l01Next_mPbb
  have hm : std.mul .i64 s.gseed 48271 = s.gseed * 48271 := mulS (by omega) (by omega)
  refine Tot.br (fun h => Tot.ret ⟨⟨hc, h0, h1, s0, s1⟩, Int.le_refl _, .inr rfl⟩) fun h => ?_
  have hn1 := le_decf h
  have hnz : std.nz n := by show n ≠ 0; omega
  refine Tot.br (fun h => ?_) fun h => ?_
  · have hlt := lt_dec h
    rw [s_ofN, len_eq] at hlt
    obtain ⟨b0, b1⟩ := gd_byte hc h0 hlt
    have hl := hc.1
    have ha : std.add .i64 s.gat 1 = s.gat + 1 := add_id (by omega) (by omega)
    refine Tot.req ⟨h0, by rw [len_eq]; exact hlt⟩ (Tot.br (fun _ => ?_) fun _ => ?_)
    · rw [hm, conv_id ⟨b0, b1⟩, add_id (x := s.gseed * 48271) (by omega) (by omega), add_id (by omega) (by omega), ha]
      obtain ⟨r0, r1⟩ := remB (x := s.gseed * 48271 + gd s.gcode (std.toN s.gat) + 1) (m := 2147483647) (by omega) (by omega)
      obtain ⟨q0, q1⟩ := remB (m := n) r0 (by omega)
      exact Tot.req (by show (2147483647 : Int) ≠ 0; omega) (Tot.req hnz (Tot.ret ⟨⟨hc, by show 0 ≤ s.gat + 1; omega, by show s.gat + 1 ≤ 5000; omega, r0, r1⟩, q0, .inl q1⟩))
    · rw [conv_id ⟨b0, b1⟩, ha]
      obtain ⟨q0, q1⟩ := remB (m := n) b0 (by omega)
      exact Tot.req hnz (Tot.ret ⟨⟨hc, by show 0 ≤ s.gat + 1; omega, by show s.gat + 1 ≤ 5000; omega, s0, s1⟩, q0, .inl q1⟩)
  · rw [hm, add_id (by omega) (by omega)]
    obtain ⟨r0, r1⟩ := remB (x := s.gseed * 48271 + 11) (m := 2147483647) (by omega) (by omega)
    have q := quoB (m := 7) r0 (by omega) (by omega)
    obtain ⟨q0, q1⟩ := remB (m := n) q (by omega)
    exact Tot.req (by show (2147483647 : Int) ≠ 0; omega) (Tot.req (by show (7 : Int) ≠ 0; omega) (Tot.req hnz (Tot.ret ⟨⟨hc, h0, h1, r0, r1⟩, q0, .inl q1⟩)))
theorem from_ok {c : List Int} (hc : OKc c) : Tot (F_spec_l01From c) OKs := by
  unfold F_spec_l01From
  have hl := hc.1
  refine Tot.bind (P := fun v : Int => 0 ≤ v ∧ v < 2147483647) (Tot.whileP (fun x : Int × Int => 0 ≤ x.1 ∧ x.1 ≤ 64 ∧ 0 ≤ x.2 ∧ x.2 < 2147483647) (fun x => (64 - x.1).toNat) (by simp) fun x hx => ?_) fun v hv => Tot.ret ⟨hc, Int.le_refl _, by simp, hv.1, hv.2⟩
  obtain ⟨v1, v2⟩ := x
  obtain ⟨x0, x1, y0, y1⟩ := hx
  simp only at x0 x1 y0 y1
  unfold L_spec_l01From_x3
  simp only [letO_eq]
  refine Tot.bind (P := fun b => b = true → v1 < (c.length : Int) ∧ v1 < 64) (Tot.br (fun h => Tot.ret fun g => ?_) fun h => Tot.ret fun g => by cases g) fun b hb => Tot.br (fun h => ?_) fun h => ?_
  · have h1 := lt_dec h
    rw [s_ofN, len_eq] at h1
    exact ⟨h1, lt_dec g⟩
  · obtain ⟨h1, h2⟩ := hb h
    obtain ⟨b0, b1⟩ := gd_byte hc x0 h1
    have hm : std.mul .i64 v2 31 = v2 * 31 := mulS (by omega) (by omega)
    rw [hm, conv_id ⟨b0, b1⟩, add_id (x := v2 * 31) (by omega) (by omega), add_id (x := v1) (by omega) (by omega)]
    obtain ⟨r0, r1⟩ := remB (x := v2 * 31 + gd c (std.toN v1)) (m := 2147483647) (by omega) (by omega)
    exact Tot.req ⟨x0, by rw [len_eq]; exact h1⟩ (Tot.req (by show (2147483647 : Int) ≠ 0; omega) (Tot.ret ⟨⟨by show 0 ≤ v1 + 1; omega, by show v1 + 1 ≤ 64; omega, r0, r1⟩, by show (64 - (v1 + 1)).toNat < (64 - v1).toNat; omega⟩))
  · exact Tot.ret ⟨y0, y1⟩
/- what is drawn for queries of an index -/
theorem roomS {n b : Nat} (hn : n ≤ 1000) (hb : b ≤ 1000) : std.room n b := by
  show n * b ≤ 35184372088832
  exact Nat.le_trans (Nat.mul_le_mul hn hb) (by omega)
theorem nextS {s : Tl01Source} (hs : OKs s) {n : Int} (hn : n ≤ 1000000) {β : Type} {f : Int × Tl01Source → Option β} {Q : β → Prop} (g : ∀ v s', OKs s' → 0 ≤ v → (v < n ∨ v = 0) → Tot (f (v, s')) Q) : Tot ((F_spec_l01Next_mPbb s n).bind f) Q :=
  Tot.bind (next_ok hs hn) fun r hr => g r.1 r.2 hr.1 hr.2.1 hr.2.2
def BX (E : List TSpatialEntry) (B : List (List Int)) : Prop := E.length ≤ 40 ∧ B.length ≤ 25 ∧ ∀ b ∈ B, b.length ≤ 1000
theorem BX.small {E : List TSpatialEntry} {B : List (List Int)} (h : BX E B) : SmallX ⟨E, B⟩ := ⟨by have := h.1; show E.length ≤ _; omega, by have := h.2.1; show B.length ≤ _; omega, fun b hb => by have := h.2.2 b hb; omega⟩
theorem box11 {s : Tl01Source} (hs : OKs s) : Tot (F_spec_l11DrawBox_mPb s) fun r => OKs r.2 := by
  unfold F_spec_l11DrawBox_mPb
  exact nextS hs (by omega) fun _ _ h _ _ => nextS h (by omega) fun _ _ h _ _ => nextS h (by omega) fun _ _ h _ _ => nextS h (by omega) fun _ _ h _ _ => Tot.ret h
theorem window11 {s : Tl01Source} (hs : OKs s) : Tot (F_spec_l11DrawWindow_mPb s) fun r => OKs r.2 := by
  unfold F_spec_l11DrawWindow_mPb
  refine nextS hs (by omega) fun _ _ h _ _ => Tot.br (fun _ => ?_) fun _ => ?_
  · exact nextS h (by omega) fun _ _ h _ _ => nextS h (by omega) fun _ _ h _ _ => Tot.ret h
  · exact Tot.bind (box11 h) fun r hr => Tot.ret hr
theorem index11 {s : Tl01Source} (hs : OKs s) : Tot (F_spec_l11DrawIndex_mPb s) fun r => OKs r.2 ∧ BX r.1.fEntries r.1.fBuckets ∧ r.1.fBuckets.length = 25 := by
  unfold F_spec_l11DrawIndex_mPb
  simp only [letO_eq]
  refine nextS hs (by omega) fun n s1 h n0 n1 => nextS h (by omega) fun v s2 h2 _ _ => ?_
  refine Tot.bind (P := fun q : Int => 0 ≤ q ∧ q ≤ 40) (Tot.br (fun _ => Tot.ret ⟨by omega, by omega⟩) fun _ => Tot.ret ⟨n0, by simp only; omega⟩) fun q hq => ?_
  refine Tot.bind (P := fun y => y.1.length ≤ 40 ∧ OKs ⟨y.2.1, y.2.2.1, y.2.2.2⟩) (Tot.whileP (fun x => 0 ≤ x.2.1 ∧ (x.2.2.2.2.2.length : Int) + x.2.1 ≤ 40 ∧ OKs ⟨x.2.2.1, x.2.2.2.1, x.2.2.2.2.1⟩) (fun x => x.2.1.toNat) ⟨hq.1, by simp only [List.length_nil]; omega, h2⟩ fun x hx => ?_) fun y hy => ?_
  · obtain ⟨id, k, cd, at_, sd, l⟩ := x
    obtain ⟨x1, x2, x3⟩ := hx
    simp only at x1 x2 x3
    unfold L_spec_l11DrawIndex_mPb_x21
    simp only [letO_eq]
    refine Tot.br (fun hlt => ?_) fun _ => Tot.ret ⟨by simp only; omega, x3⟩
    have hk := lt_dec hlt
    refine nextS x3 (by omega) fun v s3 h3 _ _ => Tot.bind (box11 h3) fun b hb => ?_
    refine Tot.req (roomS (by simp only [s_nadd, len_eq, List.length_cons, List.length_nil]; omega) (by omega)) (Tot.ret ?_)
    rw [sub_id (x := k) (by omega) (by omega)]
    exact ⟨⟨by show 0 ≤ k - 1; omega, by simp only [List.length_append, List.length_cons, List.length_nil]; omega, hb⟩, by show (k - 1).toNat < k.toNat; omega⟩
  · obtain ⟨y1, y2⟩ := hy
    rw [spec_l11Made_mo_ok y.1 (by omega), Option.bind_some]
    have hl : (made y.1).fBuckets.length = 25 := by simp [made]
    refine Tot.ret ⟨y2, ⟨y1, by rw [hl]; omega, fun b hb => ?_⟩, hl⟩
    unfold made at hb
    simp only [List.mem_map] at hb
    obtain ⟨k, _, rfl⟩ := hb
    have := idsF_len y.1 k
    omega
set_option maxHeartbeats 4000000 in
theorem any11 {s : Tl01Source} (hs : OKs s) : Tot (F_spec_l11DrawAny_mPb s) fun r => OKs r.2 ∧ SmallX r.1 := by
  unfold F_spec_l11DrawAny_mPb
  simp only [letO_eq]
  refine Tot.bind (index11 (s := ⟨s.gcode, s.gat, s.gseed⟩) hs) fun y hy => nextS hy.1 (by omega) fun v s1 h v0 v1 => ?_
  obtain ⟨_, hB, h25⟩ := hy
  have i0 : 0 < y.1.fEntries.length → std.inR 0 (len y.1.fEntries) := fun h0 => ⟨by omega, by rw [len_eq]; omega⟩
  refine Tot.bind (P := fun z : List Int × Int × Int × List (List Int) × List TSpatialEntry => OKs ⟨z.1, z.2.1, z.2.2.1⟩ ∧ BX z.2.2.2.2 z.2.2.2.1 ∧ z.2.2.2.2.length = y.1.fEntries.length) (Tot.br (fun _ => ?_) fun _ => ?_) fun z hz => ?_
  · refine Tot.bind (P := fun z : List Int × Int × Int × List (List Int) => OKs ⟨z.1, z.2.1, z.2.2.1⟩ ∧ BX y.1.fEntries z.2.2.2 ∧ z.2.2.2.length = 25) (nextS h (by omega) fun k s2 h2 k0 k1 => nextS h2 (by omega) fun q s3 h3 _ _ => Tot.req ⟨k0, by rw [len_eq, h25]; simp only; omega⟩ (Tot.ret ⟨h3, ⟨hB.1, by rw [List.length_set]; exact hB.2.1, fun b hb => ?_⟩, by rw [List.length_set]; exact h25⟩)) fun z hz => Tot.req (by rw [len_eq, len_eq, h25, hz.2.2]) (Tot.ret ⟨hz.1, hz.2.1, rfl⟩)
    rcases List.mem_or_eq_of_mem_set hb with hb | rfl
    · exact hB.2.2 b hb
    · simp
  · refine Tot.bind (P := fun z : List (List Int) × List Int × Int × Int × List TSpatialEntry => OKs ⟨z.2.1, z.2.2.1, z.2.2.2.1⟩ ∧ BX z.2.2.2.2 z.1 ∧ z.2.2.2.2.length = y.1.fEntries.length) (Tot.br (fun _ => ?_) fun _ => ?_) fun z hz => Tot.ret hz
    · have e : std.nsub (std.toN 24) (std.toN 0) = 24 := rfl
      have e2 : std.nadd 0 (std.toN 0) = 0 := rfl
      rw [e, e2, List.drop_zero]
      refine Tot.req ⟨by omega, by rw [len_eq, h25]; omega⟩ (Tot.req ⟨by omega, by show (0 : Int) ≤ ((24 : Nat) : Int); omega⟩ (Tot.req (by rw [len_eq, List.length_take, h25]; rfl) (Tot.req (by omega) (Tot.ret ⟨h, ⟨hB.1, by rw [List.length_take]; omega, fun b hb => hB.2.2 b (List.mem_of_mem_take hb)⟩, rfl⟩))))
    · refine Tot.bind (P := fun z : List Int × Int × Int × List TSpatialEntry => OKs ⟨z.1, z.2.1, z.2.2.1⟩ ∧ z.2.2.2.length = y.1.fEntries.length) (Tot.br (fun _ => ?_) fun _ => ?_) fun z hz => Tot.ret ⟨hz.1, ⟨by simp only; rw [hz.2]; exact hB.1, hB.2⟩, hz.2⟩
      · refine Tot.bind (P := fun z : List Int × Int × Int × List TSpatialEntry => OKs ⟨z.1, z.2.1, z.2.2.1⟩ ∧ z.2.2.2.length = y.1.fEntries.length) (Tot.br (fun hlt => ?_) fun _ => Tot.ret ⟨h, rfl⟩) fun z hz => Tot.ret hz
        have hk := lt_dec hlt
        rw [s_ofN, len_eq] at hk
        exact nextS h (by omega) fun k s2 h2 _ _ => Tot.req (i0 (by omega)) (Tot.ret ⟨h2, by simp only [List.length_set]⟩)
      · refine Tot.bind (P := fun z : List TSpatialEntry => z.length = y.1.fEntries.length) (Tot.br (fun _ => ?_) fun _ => Tot.ret rfl) fun z hz => Tot.ret ⟨h, hz⟩
        refine Tot.bind (P := fun z : List TSpatialEntry => z.length = y.1.fEntries.length) (Tot.br (fun hlt => ?_) fun _ => Tot.ret rfl) fun z hz => Tot.ret hz
        have hk := lt_dec hlt
        rw [s_ofN, len_eq] at hk
        exact Tot.req (i0 (by omega)) (Tot.ret (by simp only [List.length_set]))
  · first
    | exact Tot.req (by rw [len_eq, len_eq, hz.2.2]) (Tot.ret ⟨hz.1, hz.2.1.small⟩)
    | exact Tot.ret ⟨hz.1, hz.2.1.small⟩
/- the law of candidates -/
theorem imax_eq (x y : Int) : std.imax x y = max x y := by
  simp only [std]
  split <;> omega
theorem imin_eq (x y : Int) : std.imin x y = min x y := by
  simp only [std]
  split <;> omega
theorem overlap_ok {a b : TRect} (ha : okBox a = true) (hb : okBox b = true) : F_impl_RectsOverlap a b = some (ovl a b) := by
  unfold F_impl_RectsOverlap F_impl_common
  rw [impl_IsValidRect_okX, Option.bind_some, ha, br_t, impl_IsValidRect_okX, Option.bind_some, hb, br_t, Option.bind_some, impl_IsValidRect_okX, Option.bind_some, Option.bind_some, letO_eq]
  have h1 := okBox_iff.1 ha
  have h2 := okBox_iff.1 hb
  congr 1
  rw [Bool.eq_iff_iff, okBox_iff, ovl_iff]
  simp only [imax_eq, imin_eq]
  omega
/-- a window that overlaps an entry's box shares a bucket with it -/
theorem ovl_in {r : TRect} {e : TSpatialEntry} (hr : okBox r = true) (he : okBox e.fBox = true) (h : ovl e.fBox r = true) : inW r e = true := by
  have h1 := okBox_iff.1 hr
  have h2 := okBox_iff.1 he
  have h3 := ovl_iff.1 h
  obtain ⟨x, hx⟩ : ∃ x : Int, x = max r.fX0 e.fBox.fX0 := ⟨_, rfl⟩
  obtain ⟨y, hy⟩ : ∃ y : Int, y = max r.fY0 e.fBox.fY0 := ⟨_, rfl⟩
  obtain ⟨i, hi⟩ : ∃ i : Nat, i = (x + 40).toNat / 16 := ⟨_, rfl⟩
  obtain ⟨j, hj⟩ : ∃ j : Nat, j = (y + 40).toNat / 16 := ⟨_, rfl⟩
  have hi5 : i < 5 := by omega
  have hj5 : j < 5 := by omega
  unfold inW
  rw [List.any_eq_true]
  refine ⟨5 * j + i, List.mem_range.2 (by omega), ?_⟩
  have m1 : (5 * j + i) % 5 = i := by omega
  have m2 : (5 * j + i) / 5 = j := by omega
  rw [Bool.and_eq_true, ovl_iff, ovl_iff]
  unfold bk
  simp only [m1, m2]
  omega
theorem bkOf_pos {r : TRect} (hr : okBox r = true) : 0 < (bkOf r).length := by
  have h1 := okBox_iff.1 hr
  obtain ⟨i, hi⟩ : ∃ i : Nat, i = (r.fX0 + 40).toNat / 16 := ⟨_, rfl⟩
  obtain ⟨j, hj⟩ : ∃ j : Nat, j = (r.fY0 + 40).toNat / 16 := ⟨_, rfl⟩
  have m1 : (5 * j + i) % 5 = i := by omega
  have m2 : (5 * j + i) / 5 = j := by omega
  have hm := (bkOf_mem r hr (5 * j + i) (by omega)).2 (by
    rw [ovl_iff]
    unfold bk
    simp only [m1, m2]
    omega)
  exact List.length_pos_of_mem hm
noncomputable def foundL (a : TSpatialIndex) (r : TRect) : List Int := (a.fEntries.filter fun e => ovl e.fBox r).map fun e => e.fId
theorem EntriesIn_ok (a : TSpatialIndex) (r : TRect) (h : SmallX a) : F_impl_EntriesIn a r = some (if okIx a = true ∧ okBox r = true then foundL a r else []) := by
  unfold F_impl_EntriesIn
  try rw [show TSpatialIndex.mk a.fEntries a.fBuckets = a from rfl]
  rw [impl_IsValidIndex_ok a h, impl_IsValidRect_okX, Option.bind_some]
  cases hx : okIx a with
  | false => rw [Bool.not_false, br_t, Option.bind_some, letO_eq, br_t, if_neg (by simp)]
  | true =>
    rw [Bool.not_true, br_f, Option.bind_some, Option.bind_some, letO_eq]
    cases hr : okBox r with
    | false => rw [Bool.not_false, br_t, if_neg (by simp)]
    | true =>
      have hn := (okIx_sorted hx).len
      have hw : whileP (L_impl_EntriesIn_x17 a r) (0, []) = some (foundL a r) := by
        refine while_from (fun i => ((i : Int), (((a.fEntries.take i).filter fun e => ovl e.fBox r).map fun e => e.fId))) a.fEntries.length rfl (fun i hi => ?_) ?_
        · have hl : ((a.fEntries.take i).filter fun e => ovl e.fBox r).length ≤ 40 := by
            have h1 := List.length_filter_le (fun e : TSpatialEntry => ovl e.fBox r) (a.fEntries.take i)
            rw [List.length_take] at h1; omega
          have e : a.fEntries.take (i + 1) = a.fEntries.take i ++ [gd a.fEntries i] := by
            rw [List.take_add_one, gd_lt hi, List.getElem?_eq_getElem hi]; rfl
          simp only [L_impl_EntriesIn_x17, letO_eq, s_toNn]
          rw [ltl_t hi, br_t, req_of (inRl hi), overlap_ok ((okIx_sorted hx).box _ (gd_mem hi)) hr, Option.bind_some, e, List.filter_append, List.map_append]
          cases hq : ovl (gd a.fEntries i).fBox r with
          | false => rw [br_f, Option.bind_some, inc_nat (by omega)]; simp [hq]
          | true => rw [br_t, req_of (roomN (by simp only [s_nadd, len_eq, List.length_map, List.length_cons, List.length_nil]; omega) (by omega)), Option.bind_some, inc_nat (by omega)]; simp [hq]
        · simp only [L_impl_EntriesIn_x17, letO_eq]
          rw [ltl_f, br_f, List.take_length]
          rfl
      rw [Bool.not_true, br_f, if_pos ⟨rfl, rfl⟩, letO_eq, hw]
      rfl
theorem wf_byteU {x : Int} (h : wfI .u8 x) : 0 ≤ x ∧ x ≤ 255 := by
  have h' : (Lit.int .u8 x).wf = true := h
  have e1 : IntKind.min .u8 = 0 := rfl
  have e2 : IntKind.max .u8 = 255 := rfl
  simp [Lit.wf] at h'
  omega
theorem lawW_Candidates (c : List Int) (w : (wfL (wfI .u8)) c) : F_laws_FnCandidates c = some true := by
  unfold F_laws_FnCandidates F_laws_big
  rw [Option.bind_some]
  cases hb : std.lt 4096 (std.ofN (len c)) with
  | true => rw [br_t]
  | false =>
    have hl := lt_decf hb
    rw [s_ofN, len_eq] at hl
    have hc : OKc c := ⟨by omega, fun b hb => wf_byteU (w.2 b hb)⟩
    obtain ⟨⟨x, r⟩, hd, hx⟩ : Tot (F_spec_DrawEntriesIn c) fun z => SmallX z.1 := by
      unfold F_spec_DrawEntriesIn
      exact Tot.bind (from_ok hc) fun s hs => Tot.bind (any11 hs) fun y hy => Tot.bind (window11 hy.1) fun q hq => Tot.ret hy.2
    simp only at hx
    rw [br_f, hd, Option.bind_some]
    simp only
    rw [EntriesIn_ok x r hx, Option.bind_some, impl_CandidateCount_ok x r hx, Option.bind_some]
    unfold candR
    by_cases hq : okIx x = true ∧ okBox r = true
    · rw [if_pos hq, if_pos hq]
      obtain ⟨h1, h2⟩ := hq
      have g1 : (foundL x r).length ≤ candN x r := by
        unfold foundL candN
        rw [List.length_map, ← List.countP_eq_length_filter, ← List.countP_eq_length_filter]
        exact List.countP_mono_left fun e he hp => ovl_in h2 ((okIx_sorted h1).box e he) hp
      have g2 : candN x r ≤ x.fEntries.length := List.length_filter_le _ _
      have g3 := bkOf_pos h2
      rw [lt_false (by omega), br_f, s_ofN, s_ofN, len_eq, len_eq, le_true (by omega), br_t, le_true (by omega), br_t]
      unfold F_impl_BucketsOf
      rw [impl_IsValidRect_okX, Option.bind_some, h2, Bool.not_true, br_f, impl_buckets_ok r h2, Option.bind_some, Option.bind_some, Option.bind_some, letO_eq, s_ofN, len_eq, lt_true (by omega)]
    · rw [if_neg hq, if_neg hq, lt_true (by omega), br_t, eq_true' (by rfl)]
end Go.Proofs.Ythjpkcpoepnolaa.AM
