/-
  What the functions that the law reaches compute, and that they do. No condition.
-/
import Derived.Test.YtnmfighfidaglaaAmJX
namespace Go.Proofs.Ytnmfighfidaglaa.AM
open Go Go.Proofs Go.RowKit
set_option linter.unusedVariables false
set_option linter.unusedSimpArgs false
set_option maxRecDepth 100000

structure SmallE (a : TEdit) : Prop where
  name : a.fName.size ≤ 1048576
  lname : a.fLabel.fName.size ≤ 1048576
theorem laws_szEdit_ok (a : TEdit) (x : Int) (h1 : a.fName.size ≤ maxLen) (h2 : a.fLabel.fName.size ≤ maxLen) (hx : 0 ≤ x ∧ x ≤ 1048576) : ∃ y, F_laws_szEdit a x = some y ∧ (0 ≤ y → y ≤ x ∧ SmallE a) := by
  have hb := maxLen_eq
  unfold F_laws_szEdit F_laws_szLabel
  rw [s_slen, s_ofN, sub_id (x := x) (by omega) (by omega), br_bool, s_lt]
  by_cases h : x - (a.fName.size : Int) < 0
  · exact ⟨-1, by simp [h], fun h => by omega⟩
  · rw [if_neg (by simpa using h), s_slen, s_ofN, sub_id (by omega) (by omega), br_bool, s_lt]
    by_cases g : x - (a.fName.size : Int) - (a.fLabel.fName.size : Int) < 0
    · exact ⟨-1, by simp [g, br_bool, s_lt], fun h => by omega⟩
    · exact ⟨x - (a.fName.size : Int) - (a.fLabel.fName.size : Int), by simp [g, br_bool, s_lt], fun _ => ⟨by omega, by omega, by omega⟩⟩
theorem while_sz {α : Type} [Inhabited α] {st : Int × Int → Option ((Int × Int) ⊕ (Int ⊕ Int))} (l : List α) (ok : α → Prop) (x : Int) (hx : 0 ≤ x ∧ x ≤ 1048576)
    (h : ∀ i, i < l.length → ∀ y : Int, 0 ≤ y ∧ y ≤ 1048576 → ∃ z : Int, (z < 0 ∧ st (y, (i : Int)) = some (.inr (.inl (-1)))) ∨ (0 ≤ z ∧ z ≤ y ∧ ok (gd l i) ∧ st (y, (i : Int)) = some (.inl (z, ((i + 1 : Nat) : Int)))))
    (he : ∀ y, st (y, (l.length : Int)) = some (.inr (.inr y))) : ∃ r, whileP st (x, 0) = some r ∧ (r = .inl (-1) ∨ ∃ z, r = .inr z ∧ 0 ≤ z ∧ z ≤ x ∧ ∀ e ∈ l, ok e) := by
  refine while_ex (fun s => ∃ (i : Nat) (y : Int), s = (y, (i : Int)) ∧ i ≤ l.length ∧ 0 ≤ y ∧ y ≤ x ∧ ∀ j, j < i → ok (gd l j)) _ (fun s => l.length + 1 - s.2.toNat) ⟨0, x, rfl, by omega, by omega, by omega, fun j hj => by omega⟩ ?_
  rintro _ ⟨i, y, rfl, h1, h2, h3, h4⟩
  by_cases hi : i < l.length
  · obtain ⟨z, ⟨_, hz⟩ | ⟨g1, g2, g3, hz⟩⟩ := h i hi y ⟨h2, by omega⟩
    · exact .inr ⟨_, hz, .inl rfl⟩
    · exact .inl ⟨_, hz, ⟨i + 1, z, rfl, by omega, g1, by omega, fun j hj => by
        rcases Nat.lt_or_ge j i with hj' | hj'
        · exact h4 j hj'
        · rw [show j = i by omega]; exact g3⟩, by simp only [Int.toNat_natCast]; omega⟩
  · have hil : i = l.length := by omega
    subst hil
    refine .inr ⟨_, he y, .inr ⟨y, rfl, h2, h3, fun e hm => ?_⟩⟩
    obtain ⟨j, hj, rfl⟩ := List.getElem_of_mem hm
    rw [← gd_lt hj]; exact h4 j hj
theorem laws_szEditS_ok (a : List TEdit) (ha : a.length ≤ maxLen) (hn : ∀ e ∈ a, e.fName.size ≤ maxLen ∧ e.fLabel.fName.size ≤ maxLen) : ∃ y, F_laws_szEditS a 1048576 = some y ∧ (0 ≤ y → a.length ≤ 1048576 ∧ ∀ e ∈ a, SmallE e) := by
  have hb := maxLen_eq
  unfold F_laws_szEditS
  rw [len_eq, s_ofN, sub_id (by omega) (by omega), br_bool, s_lt]
  by_cases h : (1048576 : Int) - (a.length : Int) < 0
  · exact ⟨-1, by simp [h], fun h => by omega⟩
  · rw [if_neg (by simpa using h)]
    obtain ⟨r, h1, h2⟩ := while_sz (st := L_laws_szEditS_x3 a) a SmallE (1048576 - a.length) ⟨by omega, by omega⟩ (fun i hi y hy => by
      obtain ⟨z, hz, hz2⟩ := laws_szEdit_ok (gd a i) y (hn _ (gd_mem hi)).1 (hn _ (gd_mem hi)).2 hy
      refine ⟨z, ?_⟩
      simp only [L_laws_szEditS_x3, letO_eq, s_toNn]
      rw [ltl_t hi, br_t, req_of (inRl hi), hz, Option.bind_some, br_bool, s_lt, inc_nat (by omega)]
      by_cases h0 : z < 0
      · exact .inl ⟨h0, by simp [h0]⟩
      · exact .inr ⟨by omega, (hz2 (by omega)).1, (hz2 (by omega)).2, by simp [h0]⟩) (fun y => by
      simp only [L_laws_szEditS_x3, letO_eq]
      rw [ltl_f, br_f])
    rw [h1, Option.bind_some]
    rcases h2 with rfl | ⟨z, rfl, h3, h4, h5⟩
    · exact ⟨-1, rfl, fun h => by omega⟩
    · exact ⟨z, rfl, fun _ => ⟨by omega, h5⟩⟩
theorem laws_toEdit_ok (a : TEdit) : F_laws_toEdit a = some a := rfl
theorem laws_toEditS_ok (a : List TEdit) (h : a.length ≤ 10000000) : F_laws_toEditS a = some a := by
  unfold F_laws_toEditS
  rw [req_of (nneg_len _), req_of (room_le (by rw [len_eq]; omega) (by decide))]
  simp only [letO_eq, s_ofN, s_toNn, len_eq]
  rw [bind_of (while_copy (st := L_laws_toEditS_x7 a _) a (List.replicate a.length _) (by simp) (fun i hi v hv => ?_) (fun v => ?_)), req_of (by simp)]
  · simp only [L_laws_toEditS_x7, letO_eq, s_toNn, s_nadd, Nat.zero_add]
    rw [ltl_t hi, br_t, req_of (inRl hi), laws_toEdit_ok, Option.bind_some, req_of (inRl (by simpa using hi)), req_of (by simp [len_eq, hv]), inc_nat (by omega)]
  · simp only [L_laws_toEditS_x7, letO_eq]
    rw [ltl_f, br_f]
theorem laws_eqRect_ok (a : TRect) : F_laws_eqRect a a = some true := by unfold F_laws_eqRect; simp [eq_true', s_not, br]
theorem laws_eqShape_ok (a : TShape) : F_laws_eqShape a a = some true := by unfold F_laws_eqShape; simp [eq_true', s_not, br, laws_eqRect_ok]
theorem laws_eqPoint_ok (a : TPoint) : F_laws_eqPoint a a = some true := by unfold F_laws_eqPoint; simp [eq_true', s_not, br]
theorem laws_eqLabel_ok (a : TLabel) : F_laws_eqLabel a a = some true := by unfold F_laws_eqLabel; simp [eq_true', s_not, br, laws_eqPoint_ok, seq_self]
theorem laws_eqTransform_ok (a : TTransform) : F_laws_eqTransform a a = some true := by unfold F_laws_eqTransform; simp [eq_true', s_not, br]
theorem laws_eqInstance_ok (a : TInstance) : F_laws_eqInstance a a = some true := by unfold F_laws_eqInstance; simp [eq_true', s_not, br, laws_eqTransform_ok]
theorem laws_eqEdit_ok (a : TEdit) : F_laws_eqEdit a a = some true := by unfold F_laws_eqEdit; simp [eq_true', s_not, br, laws_eqShape_ok, laws_eqLabel_ok, laws_eqInstance_ok, seq_self]
theorem laws_eqEditS_ok (l : List TEdit) (h : l.length ≤ 10000000) : F_laws_eqEditS l l = some true := by
  unfold F_laws_eqEditS
  rw [notEq (eq_true' rfl), br_f]
  refine Eq.trans (bind_of (while_eq (r := .inr ()) l.length (fun i hi => ?_) ?_)) rfl
  · simp only [L_laws_eqEditS_x2, letO_eq, s_toNn, laws_eqEdit_ok, Option.bind_some]
    rw [ltl_t hi, br_t, req_of (inRl hi), req_of (inRl hi), inc_nat (by omega)]; rfl
  · simp only [L_laws_eqEditS_x2, letO_eq]
    rw [ltl_f]; rfl
noncomputable def okTrans (l : List TEdit) : Bool := (decide (1 ≤ l.length) && decide (l.length ≤ 8)) && l.all okEdit
theorem le_one (n : Nat) : std.le 1 (std.ofN n) = decide (1 ≤ n) := by
  rw [s_le, s_ofN]; congr 1; simp; omega
theorem le_eight (n : Nat) : std.le (std.ofN n) 8 = decide (n ≤ 8) := by
  rw [s_le, s_ofN]; congr 1; simp; omega
theorem spec_l13Transaction_ok (l : List TEdit) (h : l.length ≤ 10000000) (hs : ∀ e ∈ l, SmallE e) : F_spec_l13Transaction l = some (okTrans l) := by
  have hb := maxLen_eq
  unfold F_spec_l13Transaction okTrans
  rw [bind_of (scan (ok := fun i => okEdit (gd l i)) (n := l.length) (yes := .inr ()) (no := .inl ()) (fun i hi => ?_) ?_), range_all]
  · cases l.all okEdit with
    | false => simp
    | true =>
      simp only [if_true, spec_l09In_ok, wB, len_eq, le_one, le_eight, Option.bind_some, Bool.and_true]
  · simp only [L_spec_l13Transaction_x2, letO_eq]
    rw [ltl_f, br_f]
  · have := hs _ (gd_mem hi)
    simp only [L_spec_l13Transaction_x2, letO_eq, s_toNn]
    rw [ltl_t hi, br_t, req_of (inRl hi), spec_IsValidEdit_ok _ (by have := this.name; omega) (by have := this.lname; omega), Option.bind_some, inc_nat (by omega)]
    cases okEdit (gd l i) <;> rfl
/-- a loop that stops at the first element that is met -/
theorem scan_first {step : Int → Option (Int ⊕ (Int ⊕ Unit))} {p : Nat → Bool} {n : Nat} (h : ∀ i : Nat, i < n → step i = some (cond (p i) (.inr (.inl (i : Int))) (.inl ((i + 1 : Nat) : Int)))) (hn : step n = some (.inr (.inr ()))) :
    whileP step 0 = some (match (List.range n).find? p with | some i => .inl (i : Int) | none => .inr ()) := by
  have key : ∀ m i : Nat, i + m = n → whileP step i = some (match (List.range' i m).find? p with | some i => .inl (i : Int) | none => .inr ()) := by
    intro m
    induction m with
    | zero =>
      intro i hi
      have : i = n := by omega
      subst this
      rw [whileP_unfold, hn]; rfl
    | succ m ih =>
      intro i hi
      rw [whileP_unfold, h i (by omega)]
      cases hb : p i with
      | true => simp [List.range', hb]
      | false =>
        simp only [cond]
        rw [ih (i + 1) (by omega)]
        simp [List.range', hb]
  have := key n 0 (by omega)
  rw [List.range_eq_range']
  exact this
theorem containsEdit (l : List TEdit) (h : l.length ≤ 10000000) (hs : ∀ e ∈ l, SmallE e) : F_slices_ContainsFunc_Limpl_Edit_impl_Edit_mbFimpl_isTransaction_1 l = some (!l.all okEdit) := by
  have hb := maxLen_eq
  unfold F_slices_ContainsFunc_Limpl_Edit_impl_Edit_mbFimpl_isTransaction_1 F_slices_IndexFunc_Limpl_Edit_impl_Edit_mbFimpl_isTransaction_1
  rw [bind_of (scan_first (p := fun i => !okEdit (gd l i)) (n := l.length) (fun i hi => ?_) ?_)]
  · have e := range_all okEdit l
    cases hf : (List.range l.length).find? (fun i => !okEdit (gd l i)) with
    | none =>
      rw [List.find?_eq_none] at hf
      have : l.all okEdit = true := by
        rw [← e, List.all_eq_true]; intro i hi; have := hf i hi; simpa using this
      rw [this]
      show some (std.le 0 (-1)) = some false
      rw [le_false (by omega)]
    | some i =>
      have h1 := List.find?_some hf
      have h2 := List.mem_of_find?_eq_some hf
      have : l.all okEdit = false := by
        rw [← e, Bool.eq_false_iff]; intro hc; rw [List.all_eq_true] at hc; have := hc i h2; simp [this] at h1
      rw [this]
      show some (std.le 0 (i : Int)) = some true
      rw [le_true (by omega)]
  · simp only [L_slices_IndexFunc_Limpl_Edit_impl_Edit_mbFimpl_isTransaction_1_x2, letO_eq]
    rw [ltl_f, br_f]
  · have := hs _ (gd_mem hi)
    simp only [L_slices_IndexFunc_Limpl_Edit_impl_Edit_mbFimpl_isTransaction_1_x2, letO_eq, s_toNn, F_impl_isTransaction_1]
    rw [ltl_t hi, br_t, req_of (inRl hi), impl_IsValidEdit_ok _ (show (gd l i).fName.size ≤ maxLen by have := this.name; omega) (show (gd l i).fLabel.fName.size ≤ maxLen by have := this.lname; omega), Option.bind_some, Option.bind_some, inc_nat (by omega)]
    show br (!okEdit (gd l i)) _ _ = _
    cases okEdit (gd l i) <;> rfl
theorem impl_isTransaction_ok (l : List TEdit) (h : l.length ≤ 10000000) (hs : ∀ e ∈ l, SmallE e) : F_impl_isTransaction l = some (okTrans l) := by
  unfold F_impl_isTransaction okTrans
  rw [containsEdit l h hs]
  simp only [len_eq, le_one, le_eight, letO_eq]
  cases decide (1 ≤ l.length) <;> cases decide (l.length ≤ 8) <;> cases l.all okEdit <;> rfl
/-- an edit's bytes -/
noncomputable def edR (a : TEdit) : ByteArray := if okEdit a then ofL (editB a) else ByteArray.mk #[]
theorem editB_le {a : TEdit} (h : okEdit a = true) : (editB a).length ≤ 2000 := by
  unfold editB
  rw [List.length_append, show (headB a).length = 3 from rfl]
  split
  · rw [shapeB_len]; omega
  · split
    · rename_i h3; rw [labelB_len]; have := okEdit_label h h3; omega
    · split
      · rw [instB_len]; omega
      · split
        · rename_i h7; rw [nameB_len]; have := okEdit_name h h7; omega
        · simp
theorem edR_le (a : TEdit) : (edR a).size ≤ 2000 := by
  unfold edR
  split
  · rename_i h; rw [ofL_size]; exact editB_le h
  · show 0 ≤ 2000; omega
noncomputable def bodyR (l : List TEdit) : ByteArray := catN (ByteArray.mk #[]) (fun i => edR (gd l i)) l.length
noncomputable def journalR (l : List TEdit) : ByteArray :=
  let s := std.scat (std.scat (std.scat (ByteArray.mk #[84]) (ofL (oneB (std.ofN (len l))))) (ofL (twoR (std.ofN (std.slen (bodyR l)))))) (bodyR l)
  std.scat s (ofL (twoR (ck s)))
theorem okTrans_le {l : List TEdit} (h : okTrans l = true) : l.length ≤ 8 := by
  unfold okTrans at h
  simp only [Bool.and_eq_true, decide_eq_true_eq] at h
  exact h.1.2
theorem bodyR_le {l : List TEdit} (h : okTrans l = true) : (bodyR l).size ≤ 16000 := by
  have h1 := catN_size (ByteArray.mk #[]) (fun i => edR (gd l i)) 2000 l.length fun i _ => edR_le _
  have h2 : l.length * 2000 ≤ 8 * 2000 := Nat.mul_le_mul_right _ (okTrans_le h)
  have h3 : (ByteArray.mk #[]).size = 0 := rfl
  unfold bodyR; omega
theorem spec_JournalRecord_ok (l : List TEdit) (h : l.length ≤ 10000000) (hs : ∀ e ∈ l, SmallE e) : F_spec_JournalRecord l = some (if okTrans l then journalR l else ByteArray.mk #[]) := by
  have hb := maxLen_eq
  unfold F_spec_JournalRecord
  rw [spec_l13Transaction_ok l h hs, Option.bind_some]
  cases ht : okTrans l with
  | false => rfl
  | true =>
    have hB := bodyR_le ht
    have h3 : (ByteArray.mk #[]).size = 0 := rfl
    have h84 : (ByteArray.mk #[84]).size = 1 := rfl
    have hl := okTrans_le ht
    simp only [Bool.not_true, br_f, if_true]
    rw [bind_of (while_cat (st := L_spec_JournalRecord_x5 l) (ByteArray.mk #[]) (fun i => edR (gd l i)) 2000 l.length (fun i _ => edR_le _) (fun i hi v hv => by
      have := hs _ (gd_mem hi)
      have h2 : l.length * 2000 ≤ 8 * 2000 := Nat.mul_le_mul_right _ hl
      have h5 := edR_le (gd l i)
      unfold edR at h5
      simp only [L_spec_JournalRecord_x5, letO_eq, s_toNn]
      rw [ltl_t hi, br_t, req_of (inRl hi), spec_EditBytes_ok _ (by have := this.name; omega) (by have := this.lname; omega), Option.bind_some, req_of (room1 (by rw [s_slen, s_slen]; omega)), inc_nat (by omega)]
      rfl) (fun v => by
      simp only [L_spec_JournalRecord_x5, letO_eq]
      rw [ltl_f, br_f]))]
    have eB : catN (ByteArray.mk #[]) (fun i => edR (gd l i)) l.length = bodyR l := rfl
    simp only [letO_eq, eB, spec_l13Byte_ok, spec_l13Two_ok, Option.bind_some]
    rw [req_of (room1 (by simp only [s_slen, ofL_size, one_len]; omega)), req_of (room1 (by simp only [s_slen, scat_size, ofL_size, one_len, twoR_len]; omega)), req_of (room1 (by simp only [s_slen, scat_size, ofL_size, one_len, twoR_len]; omega)), spec_Checksum16_ok _ (by simp only [scat_size, ofL_size, one_len, twoR_len]; omega), Option.bind_some, req_of (room1 (by simp only [s_slen, scat_size, ofL_size, one_len, twoR_len]; omega))]
    rfl
theorem impl_JournalRecord_ok (l : List TEdit) (h : l.length ≤ 10000000) (hs : ∀ e ∈ l, SmallE e) : F_impl_JournalRecord l = some (if okTrans l then journalR l else ByteArray.mk #[]) := by
  have hb := maxLen_eq
  unfold F_impl_JournalRecord
  rw [impl_isTransaction_ok l h hs, Option.bind_some]
  cases ht : okTrans l with
  | false => rfl
  | true =>
    have hB := bodyR_le ht
    have h3 : (ByteArray.mk #[]).size = 0 := rfl
    have hl := okTrans_le ht
    have eL : ∀ l : List Int, std.ofBytes (len l) (fun i => gd l (0 + i)) = ofL l := fun _ => rfl
    simp only [Bool.not_true, br_f, if_true]
    rw [bind_of (while_cat (st := L_impl_JournalRecord_x5 l) (ByteArray.mk #[]) (fun i => edR (gd l i)) 2000 l.length (fun i _ => edR_le _) (fun i hi v hv => by
      have := hs _ (gd_mem hi)
      have h2 : l.length * 2000 ≤ 8 * 2000 := Nat.mul_le_mul_right _ hl
      have h5 := edR_le (gd l i)
      unfold edR at h5
      simp only [L_impl_JournalRecord_x5, letO_eq, s_toNn]
      rw [ltl_t hi, br_t, req_of (inRl hi), impl_EditBytes_ok _ (by have := this.name; omega) (by have := this.lname; omega), Option.bind_some, req_of (room1 (by rw [s_slen, s_slen]; omega)), inc_nat (by omega)]
      rfl) (fun v => by
      simp only [L_impl_JournalRecord_x5, letO_eq]
      rw [ltl_f, br_f]))]
    have eB : catN (ByteArray.mk #[]) (fun i => edR (gd l i)) l.length = bodyR l := rfl
    simp only [letO_eq, eB, eL]
    rw [impl_two_ok _ _ (by simp), Option.bind_some, req_of (room1 (by rw [len_eq, s_slen, List.length_append, twoR_len]; simp only [List.length_cons, List.length_nil]; omega))]
    have e1 : ofL (([84, std.conv .u8 (std.ofN (len l))] ++ twoR (std.ofN (std.slen (bodyR l)))) ++ strL (bodyR l)) = std.scat (std.scat (std.scat (ByteArray.mk #[84]) (ofL (oneB (std.ofN (len l))))) (ofL (twoR (std.ofN (std.slen (bodyR l)))))) (bodyR l) := by
      have e84 : ofL [84] = ByteArray.mk #[84] := bytes_ext (by rw [ofL_data]; rfl)
      rw [ofL_cat, ← ofL_app, ← e84, ofL_app]
      rfl
    rw [e1, impl_Checksum16_ok _ (by simp only [scat_size, ofL_size, one_len, twoR_len]; have h84 : (ByteArray.mk #[84]).size = 1 := rfl; omega), Option.bind_some, impl_two_ok _ _ (by simp only [List.length_append, twoR_len, strL_length, List.length_cons, List.length_nil]; omega), Option.bind_some, ← ofL_app, e1]
    rfl
theorem lawW_JournalRecord (a : List TEdit) (w : (wfL wfEdit) a) : F_laws_FnExactJournalRecord a = some true := by
  unfold F_laws_FnExactJournalRecord
  obtain ⟨y, hy, hs⟩ := laws_szEditS_ok a w.1 (fun e he => ⟨(w.2 e he).2.2.2.1, (w.2 e he).2.2.2.2.2.1.2.2⟩)
  rw [hy, Option.bind_some, br_bool, s_lt]
  by_cases h0 : y < 0
  · rw [if_pos (by simpa using h0)]
  · obtain ⟨h1, h2⟩ := hs (by omega)
    rw [if_neg (by simpa using h0)]
    simp only [laws_toEditS_ok a (by omega), Option.bind_some, spec_JournalRecord_ok a (by omega) h2, impl_JournalRecord_ok a (by omega) h2, laws_eqEditS_ok a (by omega), seq_self]
    rfl
end Go.Proofs.Ytnmfighfidaglaa.AM
