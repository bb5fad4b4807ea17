/-
  What the functions that the law reaches compute, and that they do. No condition.
-/
import Derived.Test.YtnmfighfidaglaaAmDV
import Derived.Test.YtnmfighfidaglaaAmE
import Derived.Test.YtnmfighfidaglaaAmP
namespace Go.Proofs.Ytnmfighfidaglaa.AM
open Go Go.Proofs Go.RowKit
set_option linter.unusedVariables false
set_option linter.unusedSimpArgs false
set_option maxRecDepth 100000

theorem op_9 (d : Nat) : Opens T (d + 1) 9 (clS) (wfS) := op_str (show T 9 = some d9 from rfl) rfl
/-- line ends ahead of i; where the last one stands -/
noncomputable def cnt (a : ByteArray) : Nat → Nat
  | 0 => 0
  | i + 1 => if std.sat a i = 10 then cnt a i + 1 else cnt a i
noncomputable def last (a : ByteArray) : Nat → Int
  | 0 => -1
  | i + 1 => if std.sat a i = 10 then (i : Int) else last a i
theorem cnt_le (a : ByteArray) : ∀ i, cnt a i ≤ i
  | 0 => by unfold cnt; omega
  | i + 1 => by have := cnt_le a i; unfold cnt; split <;> omega
theorem last_in (a : ByteArray) : ∀ i : Nat, -1 ≤ last a i ∧ last a i < i
  | 0 => by unfold last; omega
  | i + 1 => by have := last_in a i; unfold last; split <;> omega
/-- the texts agree at i -/
noncomputable def sameAt (a b : ByteArray) (i : Nat) : Bool := decide (i < a.size) && (decide (i < b.size) && std.eq (std.sat a i) (std.sat b i))
theorem sameTest (a b : ByteArray) (i : Nat) : ((br (std.lt (i : Int) (std.ofN (std.slen a)))
        (br (std.lt (i : Int) (std.ofN (std.slen b)))
        (req (std.inR (i : Int) (std.slen a)) (req (std.inR (i : Int) (std.slen b)) (some (std.eq (std.sat a (std.toN (i : Int))) (std.sat b (std.toN (i : Int)))))))
        (some false))
        (some false)) : Option Bool) = some (sameAt a b i) := by
  unfold sameAt
  rw [s_toNn]
  by_cases h1 : i < a.size
  · rw [lt_true (by rw [s_ofN, s_slen]; omega), br_t]
    by_cases h2 : i < b.size
    · rw [lt_true (by rw [s_ofN, s_slen]; omega), br_t, req_of (show std.inR (i : Int) (std.slen a) from inRn h1), req_of (show std.inR (i : Int) (std.slen b) from inRn h2)]
      simp [h1, h2]
    · rw [lt_false (by rw [s_ofN, s_slen]; omega), br_f]
      simp [h2]
  · rw [lt_false (by rw [s_ofN, s_slen]; omega), br_f]
    simp [h1]
theorem sameAt_lt {a b : ByteArray} {i : Nat} (h : sameAt a b i = true) : i < a.size := by
  unfold sameAt at h
  rw [Bool.and_eq_true] at h
  exact of_decide_eq_true h.1
/-- the first place where they differ -/
theorem first_ex (a b : ByteArray) : ∃ e, e ≤ a.size ∧ sameAt a b e = false ∧ ∀ i, i < e → sameAt a b i = true := by
  have key : ∀ m i, i + m = a.size → (∀ j, j < i → sameAt a b j = true) → ∃ e, e ≤ a.size ∧ sameAt a b e = false ∧ ∀ i, i < e → sameAt a b i = true := by
    intro m
    induction m with
    | zero =>
      intro i hi h
      refine ⟨i, by omega, ?_, h⟩
      unfold sameAt
      have : decide (i < a.size) = false := by simp; omega
      rw [this]; rfl
    | succ m ih =>
      intro i hi h
      cases hb : sameAt a b i with
      | false => exact ⟨i, by omega, hb, h⟩
      | true =>
        refine ih (i + 1) (by omega) fun j hj => ?_
        rcases Nat.lt_or_ge j i with h1 | h1
        · exact h j h1
        · rw [show j = i by omega]; exact hb
  exact key a.size 0 (by omega) fun j hj => by omega
theorem trip {γ : Type} {a b c a' b' c' : Int} (h1 : a = a') (h2 : b = b') (h3 : c = c') : (some (Sum.inl (a, b, c)) : Option ((Int × Int × Int) ⊕ γ)) = some (Sum.inl (a', b', c')) := by subst h1; subst h2; subst h3; rfl
theorem spec_TextDifference_ok (a b : ByteArray) (ha : a.size ≤ 1048576) (e : Nat) (he : e ≤ a.size) (h1 : sameAt a b e = false) (h2 : ∀ i, i < e → sameAt a b i = true) : F_spec_TextDifference a b = some (if std.seq a b then (0, 0) else ((cnt a e : Int) + 1, (e : Int) - last a e)) := by
  unfold F_spec_TextDifference
  cases std.seq a b with
  | true => rfl
  | false =>
    rw [br_f]
    refine Eq.trans (bind_of (while_from (r := ((cnt a e : Int) + 1, (e : Int) - last a e)) (fun i => ((cnt a i : Int) + 1, (i : Int) - last a i, (i : Int))) e rfl (fun i hi => ?_) ?_)) rfl
    · have h3 := h2 i hi
      have h4 := cnt_le a i
      have h5 := last_in a i
      simp only [L_spec_TextDifference_x4, letO_eq, sameTest, h3, Option.bind_some, br_t]
      rw [req_of (show std.inR (i : Int) (std.slen a) from inRn (sameAt_lt h3)), s_toNn, inc_nat (by omega), s_eq, add_id (x := (cnt a i : Int) + 1) (by omega) (by omega), add_id (x := (i : Int) - last a i) (by omega) (by omega)]
      by_cases h6 : std.sat a i = 10
      · have e1 : cnt a (i + 1) = cnt a i + 1 := by simp [cnt, h6]
        have e2 : last a (i + 1) = (i : Int) := by simp [last, h6]
        simp only [h6, decide_true, br_t, Option.bind_some, e1, e2]
        exact trip (by omega) (by omega) (by omega)
      · have e1 : cnt a (i + 1) = cnt a i := by simp [cnt, h6]
        have e2 : last a (i + 1) = last a i := by simp [last, h6]
        simp only [h6, decide_false, br_f, Option.bind_some, e1, e2]
        exact trip rfl (by omega) (by omega)
    · simp only [L_spec_TextDifference_x4, letO_eq, sameTest, h1, Option.bind_some, br_f]
theorem ssub_size (a : ByteArray) {e : Nat} (h : e ≤ a.size) : (std.ssub a 0 e).size = e := by
  show (a.extract 0 e).size = e
  rw [ByteArray.size_extract]; omega
theorem ssub_sat (a : ByteArray) {e i : Nat} (h : e ≤ a.size) (hi : i < e) : std.sat (std.ssub a 0 e) i = std.sat a i := by
  show ((((a.extract 0 e)[i]?.getD 0).toNat : Nat) : Int) = (((a[i]?.getD 0).toNat : Nat) : Int)
  have h1 : i < (a.extract 0 e).size := by rw [ByteArray.size_extract]; omega
  have h2 : i < a.size := by omega
  rw [getElem?_pos (a.extract 0 e) i h1, getElem?_pos a i h2]
  simp [ByteArray.getElem_extract]
theorem count_cnt (a : ByteArray) : ∀ e, e ≤ a.size → (Lib.countByte ((a.data.toList).take e) 10) = cnt a e
  | 0, _ => by simp [Lib.countByte, cnt]
  | e + 1, h => by
    have ih := count_cnt a e (by omega)
    unfold Lib.countByte at ih ⊢
    have hl : e < a.data.toList.length := by rw [Array.length_toList]; exact h
    rw [List.take_succ_eq_append_getElem hl, List.count_append, ih]
    have hs : std.sat a e = ((a.data.toList[e].toNat : Nat) : Int) := by
      show (((a[e]?.getD 0).toNat : Nat) : Int) = _
      rw [getElem?_pos a e (by omega)]; rfl
    show _ = if std.sat a e = 10 then cnt a e + 1 else cnt a e
    rw [hs]
    by_cases h6 : a.data.toList[e] = 10
    · rw [h6]; simp
    · have h7 : ¬ ((a.data.toList[e].toNat : Nat) : Int) = 10 := by
        intro h8
        apply h6
        apply UInt8.toNat_inj.1
        show _ = 10
        omega
      rw [if_neg h7]
      have h8 : ¬ a.data[e] = 10 := by simpa using h6
      simp [h8]
theorem lastIndex_ok (a : ByteArray) {e : Nat} (ha : a.size ≤ 1048576) (he : e ≤ a.size) : F_strings_LastIndex (std.ssub a 0 e) (ByteArray.mk #[10]) = some (last a e) := by
  have hsz := ssub_size a he
  unfold F_strings_LastIndex F_bytealg_LastIndexByteString
  have e1 : (ByteArray.mk #[10]).size = 1 := rfl
  rw [s_slen, e1, eq_false' (by rw [s_ofN]; decide), br_f, show std.eq (std.ofN 1) 1 = true from rfl, br_t, req_of (show std.inR 0 1 from ⟨by omega, by omega⟩), s_slen, hsz, s_ofN, sub_id (by omega) (by omega)]
  have e2 : std.sat (ByteArray.mk #[10]) (std.toN 0) = 10 := rfl
  rw [e2]
  obtain ⟨r, h1, h2⟩ := while_ex (step := L_bytealg_LastIndexByteString_x2 (std.ssub a 0 e) 10) (x0 := (e : Int) - 1) (fun x => ∃ i : Nat, x = (i : Int) - 1 ∧ i ≤ e ∧ last a e = last a i) (fun r => (match r with | .inl y => some y | .inr _ => some (-1)) = some (last a e)) (fun x => (x + 1).toNat) ⟨e, rfl, by omega, rfl⟩ (by
    rintro _ ⟨i, rfl, h3, h4⟩
    cases i with
    | zero =>
      right
      refine ⟨.inr (), ?_, by rw [h4]; rfl⟩
      simp only [L_bytealg_LastIndexByteString_x2, letO_eq]
      rw [le_false (by omega), br_f]
    | succ i =>
      have e3 : ((i + 1 : Nat) : Int) - 1 = (i : Int) := by omega
      simp only [L_bytealg_LastIndexByteString_x2, letO_eq, e3]
      rw [le_true (by omega), br_t, req_of (show std.inR (i : Int) (std.slen (std.ssub a 0 e)) from inRn (show i < (std.ssub a 0 e).size by rw [hsz]; omega)), s_toNn, ssub_sat a he (by omega), s_eq, sub_id (by omega) (by omega)]
      by_cases h6 : std.sat a i = 10
      · right
        refine ⟨.inl (i : Int), by simp [h6, br], ?_⟩
        rw [h4]; simp [last, h6]
      · left
        refine ⟨(i : Int) - 1, by simp [h6, br], ⟨i, rfl, by omega, ?_⟩, by omega⟩
        rw [h4]; simp [last, h6])
  rw [bind_of h1]
  cases r with
  | inl y => exact h2
  | inr u => exact h2
theorem impl_TextDifference_ok (a b : ByteArray) (ha : a.size ≤ 1048576) (e : Nat) (he : e ≤ a.size) (h1 : sameAt a b e = false) (h2 : ∀ i, i < e → sameAt a b i = true) : F_impl_TextDifference a b = some (if std.seq a b then (0, 0) else ((cnt a e : Int) + 1, (e : Int) - last a e)) := by
  have h4 := cnt_le a e
  have h5 := last_in a e
  unfold F_impl_TextDifference
  cases std.seq a b with
  | true => rfl
  | false =>
    rw [br_f]
    have hw : whileP (L_impl_TextDifference_x2 a b) (0 : Int) = some (e : Int) := by
      refine while_from (step := L_impl_TextDifference_x2 a b) (r := (e : Int)) (fun i => (i : Int)) e rfl (fun i hi => ?_) ?_
      · simp only [L_impl_TextDifference_x2, letO_eq, sameTest, h2 i hi, Option.bind_some, br_t]
        rw [inc_nat (by omega)]
      · simp only [L_impl_TextDifference_x2, letO_eq, sameTest, h1, Option.bind_some, br_f]
    rw [hw, Option.bind_some]
    simp only [letO_eq]
    have hu : std.upTo (e : Int) (std.slen a) := ⟨by omega, by rw [s_slen]; omega⟩
    have hc : F_strings_Count (std.ssub a 0 (std.toN (e : Int))) (ByteArray.mk #[10]) = some (cnt a e : Int) := by
      unfold F_strings_Count
      rw [if_pos rfl, s_toNn]
      have : (std.ssub a 0 e).data.toList = a.data.toList.take e := by
        show (a.extract 0 e).data.toList = _
        rw [ByteArray.data_extract, Array.toList_extract, List.extract_eq_take_drop]; simp
      rw [this, count_cnt a e he]
    rw [req_of hu, hc, Option.bind_some, req_of hu, s_toNn, lastIndex_ok a ha he, Option.bind_some, add_id (by omega) (by omega), sub_id (by omega) (by omega)]
    rfl
theorem lawW_TextDifference (a b : ByteArray) (_ : a.size ≤ maxLen) (_ : b.size ≤ maxLen) : F_laws_FnExactTextDifference a b = some true := by
  unfold F_laws_FnExactTextDifference
  by_cases ha : a.size ≤ 1048576
  · rw [lt_false (by rw [s_ofN, s_slen]; omega), br_f]
    by_cases hb : b.size ≤ 1048576
    · rw [lt_false (by rw [s_ofN, s_slen]; omega), br_f]
      obtain ⟨e, he, h1, h2⟩ := first_ex a b
      rw [spec_TextDifference_ok a b ha e he h1 h2, impl_TextDifference_ok a b ha e he h1 h2]
      simp only [Option.bind_some, eq_true' rfl, letO_eq]
      rfl
    · rw [lt_true (by rw [s_ofN, s_slen]; omega), br_t]
  · rw [lt_true (by rw [s_ofN, s_slen]; omega), br_t]
end Go.Proofs.Ytnmfighfidaglaa.AM
