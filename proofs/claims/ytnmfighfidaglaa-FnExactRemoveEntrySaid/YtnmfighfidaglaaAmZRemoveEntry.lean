/-
  What the functions that the law reaches compute, and that they do. No condition.
-/
import Derived.Test.YtnmfighfidaglaaAmRX
namespace Go.Proofs.Ytnmfighfidaglaa.AM
open Go Go.Proofs Go.RowKit
set_option linter.unusedVariables false
set_option linter.unusedSimpArgs false
set_option maxRecDepth 100000

theorem toEntry_ok (a : TSpatialEntry) : F_laws_toSpatialEntry a = some a := rfl
theorem toEntryS_ok (a : List TSpatialEntry) (h : a.length ≤ 10000000) : F_laws_toSpatialEntryS a = some a := by
  unfold F_laws_toSpatialEntryS
  rw [req_of (nneg_len _), req_of (room_le (by rw [len_eq]; omega) (by decide))]
  simp only [letO_eq, s_ofN, s_toNn, len_eq]
  rw [bind_of (while_copy (st := L_laws_toSpatialEntryS_x7 a _) a (List.replicate a.length _) (by simp) (fun i hi v hv => ?_) (fun v => ?_)), req_of (by simp)]
  · simp only [L_laws_toSpatialEntryS_x7, letO_eq, s_toNn, s_nadd, Nat.zero_add]
    rw [ltl_t hi, br_t, req_of (inRl hi), toEntry_ok, Option.bind_some, req_of (inRl (by simpa using hi)), req_of (by simp [len_eq, hv]), inc_nat (by omega)]
  · simp only [L_laws_toSpatialEntryS_x7, letO_eq]
    rw [ltl_f, br_f]
theorem toIntS_ok (a : List Int) (h : a.length ≤ 10000000) : F_laws_toInt64S a = some a := by
  unfold F_laws_toInt64S
  rw [req_of (nneg_len _), req_of (room_le (by rw [len_eq]; omega) (by decide))]
  simp only [letO_eq, s_ofN, s_toNn, len_eq]
  rw [bind_of (while_copy (st := L_laws_toInt64S_x7 a _) a (List.replicate a.length _) (by simp) (fun i hi v hv => ?_) (fun v => ?_)), req_of (by simp)]
  · simp only [L_laws_toInt64S_x7, letO_eq, s_toNn, s_nadd, Nat.zero_add]
    rw [ltl_t hi, br_t, req_of (inRl hi), req_of (inRl (by simpa using hi)), req_of (by simp [len_eq, hv]), inc_nat (by omega)]
  · simp only [L_laws_toInt64S_x7, letO_eq]
    rw [ltl_f, br_f]
theorem toIntSS_ok (a : List (List Int)) (h : a.length ≤ 1048576) (hc : ∀ c ∈ a, c.length ≤ 1048576) : F_laws_toInt64SS a = some a := by
  unfold F_laws_toInt64SS
  rw [req_of (nneg_len _), req_of (room_le (by rw [len_eq]; omega) (by decide))]
  simp only [letO_eq, s_ofN, s_toNn, len_eq, Option.bind_some]
  rw [bind_of (while_copy (st := L_laws_toInt64SS_x14 a _) a (List.replicate a.length _) (by simp) (fun i hi v hv => ?_) (fun v => ?_)), req_of (by simp)]
  · simp only [L_laws_toInt64SS_x14, letO_eq, s_toNn, s_nadd, Nat.zero_add]
    rw [ltl_t hi, br_t, req_of (inRl hi), toIntS_ok _ (by have := hc _ (gd_mem hi); omega), Option.bind_some, req_of (inRl (by simpa using hi)), req_of (by simp [len_eq, hv]), inc_nat (by omega)]
    rfl
  · simp only [L_laws_toInt64SS_x14, letO_eq]
    rw [ltl_f, br_f]
theorem toIx_ok (a : TSpatialIndex) (h : SmallX a) : F_laws_toSpatialIndex a = some a := by
  unfold F_laws_toSpatialIndex
  rw [toEntryS_ok _ (by have := h.entries; omega), Option.bind_some, toIntSS_ok _ h.buckets h.bucket]; rfl
theorem subX {n : Nat} {x : Int} (h : n ≤ maxLen) (hx : 0 ≤ x ∧ x ≤ 1048576) : std.sub .i64 x (std.ofN n) = x - n := by
  have := maxLen_eq
  rw [s_ofN, sub_id (by omega) (by omega)]
theorem szEntryS_ok (a : List TSpatialEntry) (x : Int) (ha : a.length ≤ maxLen) (hx : 0 ≤ x ∧ x ≤ 1048576) : ∃ y, F_laws_szSpatialEntryS a x = some y ∧ (0 ≤ y → y ≤ x ∧ a.length ≤ 1048576) := by
  unfold F_laws_szSpatialEntryS
  rw [len_eq, subX ha hx, br_bool, s_lt]
  by_cases h : x - (a.length : Int) < 0
  · exact ⟨-1, by simp [h], fun h => by omega⟩
  · exact ⟨x - a.length, by simp [h], fun _ => ⟨by omega, by omega⟩⟩
theorem szIntS_ok (a : List Int) (x : Int) (ha : a.length ≤ maxLen) (hx : 0 ≤ x ∧ x ≤ 1048576) : ∃ y, F_laws_szInt64S a x = some y ∧ (0 ≤ y → y ≤ x ∧ a.length ≤ 1048576) := by
  unfold F_laws_szInt64S
  rw [len_eq, subX ha hx, br_bool, s_lt]
  by_cases h : x - (a.length : Int) < 0
  · exact ⟨-1, by simp [h], fun h => by omega⟩
  · exact ⟨x - a.length, by simp [h], fun _ => ⟨by omega, by omega⟩⟩
theorem while_szX {α : Type} [Inhabited α] {st : Int × Int → Option ((Int × Int) ⊕ (Int ⊕ Int))} (l : List α) (ok : α → Prop) (x : Int) (hx : 0 ≤ x ∧ x ≤ 1048576)
    (h : ∀ i, i < l.length → ∀ y : Int, 0 ≤ y ∧ y ≤ 1048576 → ∃ z : Int, (z < 0 ∧ st (y, (i : Int)) = some (.inr (.inl (-1)))) ∨ (0 ≤ z ∧ z ≤ y ∧ ok (gd l i) ∧ st (y, (i : Int)) = some (.inl (z, ((i + 1 : Nat) : Int)))))
    (he : ∀ y, st (y, (l.length : Int)) = some (.inr (.inr y))) : ∃ r, whileP st (x, 0) = some r ∧ (r = .inl (-1) ∨ ∃ z, r = .inr z ∧ 0 ≤ z ∧ z ≤ x ∧ ∀ e ∈ l, ok e) := by
  refine while_ex (fun s => ∃ (i : Nat) (y : Int), s = (y, (i : Int)) ∧ i ≤ l.length ∧ 0 ≤ y ∧ y ≤ x ∧ ∀ j, j < i → ok (gd l j)) _ (fun s => l.length + 1 - s.2.toNat) ⟨0, x, rfl, by omega, by omega, by omega, fun j hj => by omega⟩ ?_
  rintro _ ⟨i, y, rfl, h1, h2, h3, h4⟩
  by_cases hi : i < l.length
  · obtain ⟨z, ⟨_, hz⟩ | ⟨g1, g2, g3, hz⟩⟩ := h i hi y ⟨h2, by omega⟩
    · exact .inr ⟨_, hz, .inl rfl⟩
    · exact .inl ⟨_, hz, ⟨i + 1, z, rfl, by omega, g1, by omega, fun j hj => by
        rcases Nat.lt_or_ge j i with hj' | hj'
        · exact h4 j hj'
        · rw [show j = i by omega]; exact g3⟩, by simp only [Int.toNat_natCast]; omega⟩
  · have hil : i = l.length := by omega
    subst hil
    refine .inr ⟨_, he y, .inr ⟨y, rfl, h2, h3, fun e hm => ?_⟩⟩
    obtain ⟨j, hj, rfl⟩ := List.getElem_of_mem hm
    rw [← gd_lt hj]; exact h4 j hj
theorem szIntSS_ok (a : List (List Int)) (x : Int) (ha : a.length ≤ maxLen) (hn : ∀ l ∈ a, l.length ≤ maxLen) (hx : 0 ≤ x ∧ x ≤ 1048576) : ∃ y, F_laws_szInt64SS a x = some y ∧ (0 ≤ y → y ≤ x ∧ a.length ≤ 1048576 ∧ ∀ l ∈ a, l.length ≤ 1048576) := by
  have hb := maxLen_eq
  unfold F_laws_szInt64SS
  rw [len_eq, subX ha hx, br_bool, s_lt]
  by_cases h : x - (a.length : Int) < 0
  · exact ⟨-1, by simp [h], fun h => by omega⟩
  · rw [if_neg (by simpa using h)]
    obtain ⟨r, h1, h2⟩ := while_szX (st := L_laws_szInt64SS_x3 a) a (fun l => l.length ≤ 1048576) (x - a.length) ⟨by omega, by omega⟩ (fun i hi y hy => by
      obtain ⟨z, hz, hz2⟩ := szIntS_ok (gd a i) y (hn _ (gd_mem hi)) hy
      refine ⟨z, ?_⟩
      simp only [L_laws_szInt64SS_x3, letO_eq, s_toNn]
      rw [ltl_t hi, br_t, req_of (inRl hi), hz, Option.bind_some, br_bool, s_lt, inc_nat (by omega)]
      by_cases h0 : z < 0
      · exact .inl ⟨h0, by simp [h0]⟩
      · exact .inr ⟨by omega, (hz2 (by omega)).1, (hz2 (by omega)).2, by simp [h0]⟩) (fun y => by
      simp only [L_laws_szInt64SS_x3, letO_eq]
      rw [ltl_f, br_f])
    rw [h1, Option.bind_some]
    rcases h2 with rfl | ⟨z, rfl, h3, h4, h5⟩
    · exact ⟨-1, rfl, fun h => by omega⟩
    · exact ⟨z, rfl, fun _ => ⟨by omega, by omega, h5⟩⟩
theorem szIx_ok (a : TSpatialIndex) (h1 : a.fEntries.length ≤ maxLen) (h2 : a.fBuckets.length ≤ maxLen) (h3 : ∀ l ∈ a.fBuckets, l.length ≤ maxLen) : ∃ y, F_laws_szSpatialIndex a 1048576 = some y ∧ (0 ≤ y → SmallX a) := by
  unfold F_laws_szSpatialIndex
  obtain ⟨y, hy, hy2⟩ := szEntryS_ok a.fEntries 1048576 h1 ⟨by omega, by omega⟩
  rw [hy, Option.bind_some, br_bool, s_lt]
  by_cases h : y < 0
  · exact ⟨-1, by simp [h], fun h => by omega⟩
  · rw [if_neg (by simpa using h)]
    obtain ⟨g1, g2⟩ := hy2 (by omega)
    obtain ⟨z, hz, hz2⟩ := szIntSS_ok a.fBuckets y h2 h3 ⟨by omega, by omega⟩
    rw [hz, Option.bind_some, br_bool, s_lt]
    by_cases h' : z < 0
    · exact ⟨-1, by simp [h'], fun h => by omega⟩
    · refine ⟨z, by simp [h'], fun _ => ?_⟩
      obtain ⟨g3, g4, g5⟩ := hz2 (by omega)
      exact ⟨g2, g4, g5⟩
-- equality with itself
theorem eqRectX (a : TRect) : F_laws_eqRect a a = some true := by unfold F_laws_eqRect; simp [eq_true', s_not, br]
theorem eqEntryX (a : TSpatialEntry) : F_laws_eqSpatialEntry a a = some true := by unfold F_laws_eqSpatialEntry; simp [eq_true', s_not, br, eqRectX]
theorem eqEntrySX (l : List TSpatialEntry) (h : l.length ≤ 10000000) : F_laws_eqSpatialEntryS l l = some true := by
  unfold F_laws_eqSpatialEntryS
  rw [notEq (eq_true' rfl), br_f]
  refine Eq.trans (bind_of (while_eq (r := .inr ()) l.length (fun i hi => ?_) ?_)) rfl
  · simp only [L_laws_eqSpatialEntryS_x2, letO_eq, s_toNn, eqEntryX, Option.bind_some]
    rw [ltl_t hi, br_t, req_of (inRl hi), req_of (inRl hi), inc_nat (by omega)]; rfl
  · simp only [L_laws_eqSpatialEntryS_x2, letO_eq]
    rw [ltl_f]; rfl
theorem eqIntSX (l : List Int) (h : l.length ≤ 10000000) : F_laws_eqInt64S l l = some true := by
  unfold F_laws_eqInt64S
  rw [notEq (eq_true' rfl), br_f]
  refine Eq.trans (bind_of (while_eq (r := .inr ()) l.length (fun i hi => ?_) ?_)) rfl
  · simp only [L_laws_eqInt64S_x2, letO_eq, s_toNn, notEq (eq_true' rfl)]
    rw [ltl_t hi, br_t, req_of (inRl hi), req_of (inRl hi), inc_nat (by omega)]; rfl
  · simp only [L_laws_eqInt64S_x2, letO_eq]
    rw [ltl_f]; rfl
theorem eqIntSSX (l : List (List Int)) (h : l.length ≤ 10000000) (hc : ∀ c ∈ l, c.length ≤ 1048576) : F_laws_eqInt64SS l l = some true := by
  unfold F_laws_eqInt64SS
  rw [notEq (eq_true' rfl), br_f]
  refine Eq.trans (bind_of (while_eq (r := .inr ()) l.length (fun i hi => ?_) ?_)) rfl
  · simp only [L_laws_eqInt64SS_x2, letO_eq, s_toNn]
    rw [ltl_t hi, br_t, req_of (inRl hi), req_of (inRl hi), eqIntSX _ (by have := hc _ (gd_mem hi); omega), inc_nat (by omega)]; rfl
  · simp only [L_laws_eqInt64SS_x2, letO_eq]
    rw [ltl_f]; rfl
theorem eqIxX (a : TSpatialIndex) (h : SmallX a) : F_laws_eqSpatialIndex a a = some true := by
  unfold F_laws_eqSpatialIndex
  rw [eqEntrySX _ (by have := h.entries; omega), Option.bind_some, eqIntSSX _ (by have := h.buckets; omega) h.bucket]; rfl
-- marks
def mE (k i : Nat) : TSpatialEntry := ⟨((k + 5 * i : Nat) : Int), ⟨((k + 5 * i + 1 : Nat) : Int), ((k + 5 * i + 1 + 1 : Nat) : Int), ((k + 5 * i + 1 + 1 + 1 : Nat) : Int), ((k + 5 * i + 1 + 1 + 1 + 1 : Nat) : Int)⟩⟩
theorem gd_set_self {α : Type} [Inhabited α] (l : List α) (i : Nat) (x : α) (h : i < l.length) : gd (l.set i x) i = x := by
  rw [gd_lt (by simpa using h)]; simp
theorem req_refl {α β : Type} (x : α) (k : Option β) : req (x = x) k = k := req_of rfl
theorem markEntryS_ok (l : List TSpatialEntry) (k : Nat) (h : k + 5 * l.length ≤ 1000000000000000) : F_laws_markSpatialEntryS_mob l k = some (((k + 5 * l.length : Nat) : Int), (List.range l.length).map (mE k)) := by
  unfold F_laws_markSpatialEntryS_mob
  refine Eq.trans (bind_of (while_from (r := (((k + 5 * l.length : Nat) : Int), (List.range l.length).map (mE k))) (fun i => (((k + 5 * i : Nat) : Int), (i : Int), markd (mE k) l i)) l.length (by simp [markd_zero]) (fun i hi => ?_) ?_)) ?_
  · have hml : (markd (mE k) l i).length = l.length := markd_len _ _ _ (by omega)
    have hmi : i < (markd (mE k) l i).length := by rw [hml]; exact hi
    have hin : std.inR (i : Int) l.length := inRl hi
    have hlt : std.lt (i : Int) (std.ofN l.length) = true := ltl_t hi
    have a1 : std.add .i64 ((k + 5 * i : Nat) : Int) 1 = ((k + 5 * i + 1 : Nat) : Int) := inc_nat (by omega)
    have a2 : std.add .i64 ((k + 5 * i + 1 : Nat) : Int) 1 = ((k + 5 * i + 1 + 1 : Nat) : Int) := inc_nat (by omega)
    have a3 : std.add .i64 ((k + 5 * i + 1 + 1 : Nat) : Int) 1 = ((k + 5 * i + 1 + 1 + 1 : Nat) : Int) := inc_nat (by omega)
    have a4 : std.add .i64 ((k + 5 * i + 1 + 1 + 1 : Nat) : Int) 1 = ((k + 5 * i + 1 + 1 + 1 + 1 : Nat) : Int) := inc_nat (by omega)
    have a5 : std.add .i64 ((k + 5 * i + 1 + 1 + 1 + 1 : Nat) : Int) 1 = ((k + 5 * i + 1 + 1 + 1 + 1 + 1 : Nat) : Int) := inc_nat (by omega)
    have a6 : std.add .i64 (i : Int) 1 = ((i + 1 : Nat) : Int) := inc_nat (by omega)
    simp only [L_laws_markSpatialEntryS_mob_x4, letO_eq, s_toNn, s_nadd, Nat.zero_add, len_eq, List.length_set, hml, hlt, br_t, req_of hin, req_refl, List.set_set, gd_set_self _ _ _ hmi, a1, a2, a3, a4, a5, a6]
    simp only [req_true]
    rw [← markd_set (mE k) l i hi]
    rfl
  · simp only [L_laws_markSpatialEntryS_mob_x4, letO_eq]
    rw [ltl_f, br_f, markd_full]
  · simp only [letO_eq]
    rw [req_of (by simp [len_eq])]
theorem heldEntryS_ok (n k : Nat) (h : k + 5 * n ≤ 1000000000000000) : F_laws_heldSpatialEntryS ((List.range n).map (mE k)) k = some ((k + 5 * n : Nat) : Int) := by
  unfold F_laws_heldSpatialEntryS
  have hL : ((List.range n).map (mE k)).length = n := by simp
  refine Eq.trans (bind_of (while_from (r := .inr ((k + 5 * n : Nat) : Int)) (fun i => (((k + 5 * i : Nat) : Int), (i : Int))) n rfl (fun i hi => ?_) ?_)) rfl
  · have hin : std.inR (i : Int) n := inRn hi
    have hlt : std.lt (i : Int) (std.ofN n) = true := lt_true (by rw [s_ofN]; omega)
    have a1 : std.add .i64 ((k + 5 * i : Nat) : Int) 1 = ((k + 5 * i + 1 : Nat) : Int) := inc_nat (by omega)
    have a2 : std.add .i64 ((k + 5 * i + 1 : Nat) : Int) 1 = ((k + 5 * i + 1 + 1 : Nat) : Int) := inc_nat (by omega)
    have a3 : std.add .i64 ((k + 5 * i + 1 + 1 : Nat) : Int) 1 = ((k + 5 * i + 1 + 1 + 1 : Nat) : Int) := inc_nat (by omega)
    have a4 : std.add .i64 ((k + 5 * i + 1 + 1 + 1 : Nat) : Int) 1 = ((k + 5 * i + 1 + 1 + 1 + 1 : Nat) : Int) := inc_nat (by omega)
    have a5 : std.add .i64 ((k + 5 * i + 1 + 1 + 1 + 1 : Nat) : Int) 1 = ((k + 5 * i + 1 + 1 + 1 + 1 + 1 : Nat) : Int) := inc_nat (by omega)
    have a6 : std.add .i64 (i : Int) 1 = ((i + 1 : Nat) : Int) := inc_nat (by omega)
    simp only [L_laws_heldSpatialEntryS_x3, letO_eq, s_toNn, len_eq, hL, hlt, br_t, req_of hin, range_gd (mE k) n i hi, a1, a2, a3, a4, a5, a6]
    simp only [mE, notEq (eq_true' rfl), br_f]
    rfl
  · simp only [L_laws_heldSpatialEntryS_x3, letO_eq, len_eq, hL]
    rw [lt_false (by rw [s_ofN]; omega), br_f]
def mI (k : Nat) (n : Nat) : List Int := (List.range n).map fun i => ((k + i : Nat) : Int)
theorem markIntS_ok (l : List Int) (k : Nat) (h : k + l.length ≤ 1000000000000000) : F_laws_markInt64S_mob l k = some (((k + l.length : Nat) : Int), mI k l.length) := by
  unfold F_laws_markInt64S_mob mI
  refine Eq.trans (bind_of (while_from (r := (((k + l.length : Nat) : Int), (List.range l.length).map fun i => ((k + i : Nat) : Int))) (fun i => (((k + i : Nat) : Int), (i : Int), markd (fun i => ((k + i : Nat) : Int)) l i)) l.length (by simp [markd_zero]) (fun i hi => ?_) ?_)) ?_
  · simp only [L_laws_markInt64S_mob_x4, letO_eq, s_toNn, s_nadd, Nat.zero_add]
    rw [ltl_t hi, br_t, req_of (inRl hi), req_of (by rw [len_eq, len_eq, markd_len _ _ _ (by omega)]), inc_nat (by omega), inc_nat (by omega), markd_set _ _ _ hi]
    simp [Nat.add_assoc]
  · simp only [L_laws_markInt64S_mob_x4, letO_eq]
    rw [ltl_f, br_f, markd_full]
  · simp only [letO_eq]
    rw [req_of (by simp [len_eq])]
theorem heldIntS_ok (n k : Nat) (h : k + n ≤ 1000000000000000) : F_laws_heldInt64S (mI k n) k = some ((k + n : Nat) : Int) := by
  unfold F_laws_heldInt64S mI
  refine Eq.trans (bind_of (while_from (r := .inr ((k + n : Nat) : Int)) (fun i => (((k + i : Nat) : Int), (i : Int))) n rfl (fun i hi => ?_) ?_)) rfl
  · simp only [L_laws_heldInt64S_x3, letO_eq, s_toNn]
    rw [lt_true (by rw [s_ofN, len_eq]; simp; omega), br_t, req_of (inRl (by simpa using hi)), range_gd _ _ _ hi, eq_true' rfl, inc_nat (by omega), inc_nat (by omega)]
    rfl
  · simp only [L_laws_heldInt64S_x3, letO_eq]
    rw [lt_false (by rw [s_ofN, len_eq]; simp), br_f]
def offs (l : List (List Int)) : Nat → Nat
  | 0 => 0
  | i + 1 => offs l i + (gd l i).length
theorem offs_le (l : List (List Int)) (hc : ∀ c ∈ l, c.length ≤ 1048576) : ∀ i, i ≤ l.length → offs l i ≤ i * 1048576
  | 0, _ => by simp [offs]
  | i + 1, h => by
    have h1 := offs_le l hc i (by omega)
    have h2 := hc _ (gd_mem (show i < l.length by omega))
    show offs l i + (gd l i).length ≤ _
    omega
def mR (l : List (List Int)) (k i : Nat) : List Int := mI (k + offs l i) (gd l i).length
theorem markd_gd {α : Type} [Inhabited α] (f : Nat → α) (a : List α) (i : Nat) (h : i < a.length) : gd (markd f a i) i = gd a i := by
  unfold gd markd
  rw [List.getD_eq_getElem?_getD, List.getD_eq_getElem?_getD, List.getElem?_append_right (by simp)]
  simp
theorem markIntSS_ok (l : List (List Int)) (k : Nat) (hl : l.length ≤ 1048576) (hc : ∀ c ∈ l, c.length ≤ 1048576) (hk : k ≤ 100000000) : F_laws_markInt64SS_mob l k = some (((k + offs l l.length : Nat) : Int), (List.range l.length).map (mR l k)) := by
  unfold F_laws_markInt64SS_mob
  refine Eq.trans (bind_of (while_from (r := (((k + offs l l.length : Nat) : Int), (List.range l.length).map (mR l k))) (fun i => (((k + offs l i : Nat) : Int), (i : Int), markd (mR l k) l i)) l.length (by simp [markd_zero, offs]) (fun i hi => ?_) ?_)) ?_
  · have ho := offs_le l hc i (by omega)
    have h2 := hc _ (gd_mem hi)
    simp only [L_laws_markInt64SS_mob_x4, letO_eq, s_toNn, s_nadd, Nat.zero_add, markd_gd (mR l k) l i hi]
    rw [ltl_t hi, br_t, req_of (inRl hi), markIntS_ok _ _ (by omega), Option.bind_some, req_of (by simp [len_eq, mI]), req_of (by rw [len_eq, len_eq, markd_len _ _ _ (by omega)]), Option.bind_some, inc_nat (by omega), show mI (k + offs l i) (gd l i).length = mR l k i from rfl, markd_set _ _ _ hi]
    simp [offs, Nat.add_assoc]
  · simp only [L_laws_markInt64SS_mob_x4, letO_eq]
    rw [ltl_f, br_f, markd_full]
  · simp only [letO_eq]
    rw [req_of (by simp [len_eq])]
theorem heldIntSS_ok (l : List (List Int)) (k : Nat) (hl : l.length ≤ 1048576) (hc : ∀ c ∈ l, c.length ≤ 1048576) (hk : k ≤ 100000000) : F_laws_heldInt64SS ((List.range l.length).map (mR l k)) k = some ((k + offs l l.length : Nat) : Int) := by
  unfold F_laws_heldInt64SS
  refine Eq.trans (bind_of (while_from (r := .inr ((k + offs l l.length : Nat) : Int)) (fun i => (((k + offs l i : Nat) : Int), (i : Int))) l.length rfl (fun i hi => ?_) ?_)) rfl
  · have ho := offs_le l hc i (by omega)
    have h2 := hc _ (gd_mem hi)
    simp only [L_laws_heldInt64SS_x3, letO_eq, s_toNn]
    rw [lt_true (by rw [s_ofN, len_eq]; simp; omega), br_t, req_of (inRl (by simpa using hi)), range_gd _ _ _ hi]
    unfold mR
    rw [heldIntS_ok _ _ (by omega), Option.bind_some, lt_false (by omega), br_f, inc_nat (by omega)]
    simp [offs, Nat.add_assoc]
  · simp only [L_laws_heldInt64SS_x3, letO_eq]
    rw [lt_false (by rw [s_ofN, len_eq]; simp), br_f]
theorem markIx_ok (a : TSpatialIndex) (h : SmallX a) : ∃ (y : Nat) (E : List TSpatialEntry) (B : List (List Int)), F_laws_markSpatialIndex_moob a 1 = some ((y : Int), E, B) ∧ E.length = a.fEntries.length ∧ B.length = a.fBuckets.length ∧ F_laws_heldSpatialIndex ⟨E, B⟩ 1 = some (y : Int) := by
  have h1 := h.entries
  refine ⟨1 + 5 * a.fEntries.length + offs a.fBuckets a.fBuckets.length, (List.range a.fEntries.length).map (mE 1), (List.range a.fBuckets.length).map (mR a.fBuckets (1 + 5 * a.fEntries.length)), ?_, by simp, by simp, ?_⟩
  · unfold F_laws_markSpatialIndex_moob
    rw [show (1 : Int) = ((1 : Nat) : Int) from rfl, markEntryS_ok _ 1 (by omega), Option.bind_some, req_of (by simp [len_eq]), markIntSS_ok _ _ h.buckets h.bucket (by omega), Option.bind_some, req_of (by simp [len_eq]), req_of (by simp [len_eq]), req_of (by simp [len_eq])]
  · unfold F_laws_heldSpatialIndex
    simp only
    rw [show (1 : Int) = ((1 : Nat) : Int) from rfl, heldEntryS_ok _ 1 (by omega), Option.bind_some, lt_false (by omega), br_f, heldIntSS_ok _ _ h.buckets h.bucket (by omega), Option.bind_some, lt_false (by omega), br_f]
theorem made_small (a : List TSpatialEntry) (h : a.length ≤ 1048576) : SmallX (made a) := by
  refine ⟨h, by simp [made], fun b hb => ?_⟩
  unfold made at hb
  simp only [List.mem_map] at hb
  obtain ⟨k, _, rfl⟩ := hb
  exact Nat.le_trans (idsF_len a k) h
theorem remX_small (a : TSpatialIndex) (k : Int) (h : SmallX a) : SmallX (remX a k).1 := by
  have h1 := h.entries
  have h0 : SmallX ⟨[], []⟩ := ⟨by simp, by simp, fun b hb => by simp at hb⟩
  unfold remX
  split
  · split
    · split
      · exact h0
      · exact made_small _ (by rw [List.length_append, List.length_take, List.length_drop]; omega)
    · exact h0
  · exact h0
theorem lawW_RemoveEntry (a : TSpatialIndex) (k : Int) (hw : wfSpatialIndex a) (_ : (Lit.int .i64 k).wf = true) : F_laws_FnExactRemoveEntry a k = some true := by
  obtain ⟨⟨w1, _⟩, ⟨w2, w3⟩⟩ := hw
  unfold F_laws_FnExactRemoveEntry
  obtain ⟨y, hy, hs⟩ := szIx_ok a w1 w2 (fun l hl => (w3 l hl).1)
  rw [hy, Option.bind_some]
  by_cases h0 : y < 0
  · rw [lt_true h0, br_t]
  · rw [lt_false h0, br_f]
    have S := hs (by omega)
    have R := remX_small a k S
    obtain ⟨n1, E1, B1, m1, m2, m3, m4⟩ := markIx_ok a S
    obtain ⟨n2, E2, B2, r1, r2, r3, r4⟩ := markIx_ok (remX a k).1 R
    simp only [toIx_ok a S, spec_RemoveEntry_ok a k S, impl_RemoveEntry_ok a k S, Option.bind_some, eqIxX _ R, eqIxX _ S, letO_eq, m1, r1, r4, eq_true' rfl, s_not, Bool.not_true, br_f]
    rw [req_of (by rw [len_eq, len_eq, m2]), req_of (by rw [len_eq, len_eq, m3]), lt_false (by omega), br_f]
    simp only [Option.bind_some, br_f]
    rw [req_of (by rw [len_eq, len_eq, r2]), req_of (by rw [len_eq, len_eq, r3]), req_of (by rw [len_eq, len_eq, r2]), req_of (by rw [len_eq, len_eq, r3]), lt_false (by omega), br_f]
    rw [req_of (by rw [len_eq, len_eq, r2]), req_of (by rw [len_eq, len_eq, r3])]
    rfl
end Go.Proofs.Ytnmfighfidaglaa.AM
