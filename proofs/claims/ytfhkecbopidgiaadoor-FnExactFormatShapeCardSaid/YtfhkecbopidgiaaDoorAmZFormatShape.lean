/-
  What the functions that the law reaches compute, and that they do. No condition.
-/
import Derived.Test.YtfhkecbopidgiaaDoorAmSV
import Derived.Test.YtfhkecbopidgiaaDoorAmE
import Derived.Test.YtfhkecbopidgiaaDoorAmP
import Derived.Lib.ItoaLen
import Derived.Lib.Join
namespace Go.Proofs.YtfhkecbopidgiaaDoor.AM
open Go Go.Proofs Go.RowKit
set_option linter.unusedVariables false
set_option linter.unusedSimpArgs false
set_option maxRecDepth 100000

theorem op_2 (d : Nat) : Opens T (d + 1) 2 (clI .i64) (wfI .i64) := op_int .i64 (show T 2 = some d2 from rfl) rfl
def clRect (e : TRect) : List AC := clI .i64 e.fX0 ++ (clI .i64 e.fY0 ++ (clI .i64 e.fX1 ++ (clI .i64 e.fY1 ++ ([]))))
def wfRect (e : TRect) : Prop := wfI .i64 e.fX0 ∧ wfI .i64 e.fY0 ∧ wfI .i64 e.fX1 ∧ wfI .i64 e.fY1
theorem op_23 (d : Nat) : Opens T (d + 2) 23 (clRect) (wfRect) := by
  intro cs hs
  obtain ⟨a0, b0, rfl, h0, a1, b1, rfl, h1, a2, b2, rfl, h2, a3, b3, rfl, h3, rfl⟩ := hs
  obtain ⟨e0, w0, r0⟩ := op_2 (d + 0) a0 h0
  obtain ⟨e1, w1, r1⟩ := op_2 (d + 0) a1 h1
  obtain ⟨e2, w2, r2⟩ := op_2 (d + 0) a2 h2
  obtain ⟨e3, w3, r3⟩ := op_2 (d + 0) a3 h3
  exact ⟨TRect.mk e0 e1 e2 e3, ⟨w0, w1, w2, w3⟩, rlist_app r0 (rlist_app r1 (rlist_app r2 (rlist_app r3 (trivial))))⟩
def clShape (e : TShape) : List AC := clI .i64 e.fLayer ++ (clRect e.fBox ++ ([]))
def wfShape (e : TShape) : Prop := wfI .i64 e.fLayer ∧ wfRect e.fBox
theorem op_25 (d : Nat) : Opens T (d + 3) 25 (clShape) (wfShape) := by
  intro cs hs
  obtain ⟨a0, b0, rfl, h0, a1, b1, rfl, h1, rfl⟩ := hs
  obtain ⟨e0, w0, r0⟩ := op_2 (d + 1) a0 h0
  obtain ⟨e1, w1, r1⟩ := op_23 (d + 0) a1 h1
  exact ⟨TShape.mk e0 e1, ⟨w0, w1⟩, rlist_app r0 (rlist_app r1 (trivial))⟩
theorem open_25 {H : Type} {enc : TypeId × Value → H} {W : World} {spare : Nat → Bool} {held : Bool} {r : Reach} {base : Nat} {v : Value} {x : DataW H} {ps : List MemPlace}
    (hv : Value.okWide Tryd.prog W r base 25 v) (h : DataW.Trod enc Tryd.prog W 0 spare held 25 v x ps) : ∃ e : TShape, wfShape e ∧ RelV (RelI (fun b => b < W.heap.size) W) (.agg [.v (.int .i64 e.fLayer), .v (.int .i64 e.fBox.fX0), .v (.int .i64 e.fBox.fY0), .v (.int .i64 e.fBox.fX1), .v (.int .i64 e.fBox.fY1)]) v :=
  opened_agg tok (op_25 0) (by kernel_rfl) (tok 25 d25 rfl).1 hv h
/-- the string of these bytes -/
def bS (l : List UInt8) : ByteArray := ⟨l.toArray⟩
theorem bS_data (l : List UInt8) : (bS l).data.toList = l := by simp [bS]
theorem bS_size (l : List UInt8) : (bS l).size = l.length := by
  show (bS l).data.size = _
  rw [← Array.length_toList, bS_data]
theorem bS_cat (a b : List UInt8) : std.scat (bS a) (bS b) = bS (a ++ b) := by
  apply bytes_ext
  show (bS a ++ bS b).data.toList = _
  rw [ByteArray.data_append, Array.toList_append, bS_data, bS_data, bS_data]
theorem bS_of (s : ByteArray) : s = bS s.data.toList := by apply bytes_ext; rw [bS_data]
/-- digits as numbers, none for 0 -/
def dz (n : Nat) : List Int := if n = 0 then [] else (Lib.decDigits n).map fun c => (c.toNat : Int)
theorem dz_step (n : Nat) (h : n ≠ 0) : dz n = dz (n / 10) ++ [((48 + n % 10 : Nat) : Int)] := by
  have e : ∀ k, k < 10 → ((UInt8.ofNat (48 + k)).toNat : Int) = ((48 + k : Nat) : Int) := by
    intro k hk
    have : (UInt8.ofNat (48 + k)).toNat = 48 + k := by simp; omega
    rw [this]
  unfold dz
  rw [if_neg h]
  conv => lhs; rw [Lib.decDigits]
  by_cases hn : n < 10
  · rw [dif_pos hn, if_pos (by omega), List.map_cons, List.map_nil, e n hn, Nat.mod_eq_of_lt hn]; rfl
  · rw [dif_neg hn, if_neg (by omega), List.map_append, List.map_cons, List.map_nil, e _ (Nat.mod_lt _ (by omega))]
theorem digit_ok (v : Int) (h : v.natAbs ≤ 1000000000000) : (((br (std.lt (std.rem v 10) 0) (some (std.sub .i64 0 (std.rem v 10))) (some (std.rem v 10))) : Option Int)) = some ((v.natAbs % 10 : Nat) : Int) := by
  have h1 : std.rem v 10 = v.tmod 10 := rfl
  have h2 : (v.tmod 10).natAbs = v.natAbs % 10 := by rw [Int.natAbs_tmod]; rfl
  rw [h1]
  by_cases hn : v.tmod 10 < 0
  · rw [lt_true hn, br_t, sub_id (by omega) (by omega)]
    congr 1; omega
  · rw [lt_false hn, br_f]
    congr 1; omega
theorem conv_digit (k : Nat) (h : k < 10) : std.conv .u8 (std.add .i64 48 (k : Int)) = ((48 + k : Nat) : Int) := by
  rw [add_id (by omega) (by omega)]
  show IntKind.u8.wrap _ = _
  simp [IntKind.wrap, IntKind.signed, IntKind.bits]
  omega
theorem quo_ok (v : Int) (h : v.natAbs ≤ 1000000000000) : std.quo .i64 v 10 = v.tdiv 10 := by
  have h2 : (v.tdiv 10).natAbs = v.natAbs / 10 := by rw [Int.natAbs_tdiv]; rfl
  exact wrap_id (by omega) (by omega)
theorem num_loop (k : Nat) : ∀ (v : Int) (acc : List Int), v.natAbs ≤ k → v.natAbs ≤ 1000000000000 → acc.length + v.natAbs ≤ 2000000000000 →
    whileP L_spec_l01Number_x5 (v, acc) = some (dz v.natAbs ++ acc) := by
  induction k with
  | zero =>
    intro v acc h h1 h2
    obtain rfl : v = 0 := by omega
    rw [whileP_unfold]
    rfl
  | succ k ih =>
    intro v acc h h1 h2
    rw [whileP_unfold]
    by_cases hv : v = 0
    · subst hv; rfl
    · have e : L_spec_l01Number_x5 (v, acc) = some (.inl (v.tdiv 10, ((48 + v.natAbs % 10 : Nat) : Int) :: acc)) := by
        unfold L_spec_l01Number_x5
        simp only [letO_eq]
        rw [eq_false' hv, s_not, Bool.not_false, br_t, req_of (by rw [s_nz]; decide), digit_ok v h1, Option.bind_some, conv_digit _ (Nat.mod_lt _ (by omega)), req_of (by rw [s_room, s_nadd, len_eq, len_eq]; simp only [List.length_singleton]; omega), req_of (by rw [s_nz]; decide), quo_ok v h1]
        rfl
      rw [e]
      show whileP L_spec_l01Number_x5 (v.tdiv 10, ((48 + v.natAbs % 10 : Nat) : Int) :: acc) = _
      have h3 : (v.tdiv 10).natAbs = v.natAbs / 10 := by rw [Int.natAbs_tdiv]; rfl
      rw [ih _ _ (by omega) (by omega) (by simp only [List.length_cons]; omega), h3, dz_step v.natAbs (by omega), List.append_assoc]
      rfl
theorem u8_back (l : List UInt8) : (l.map fun c => (c.toNat : Int)).map (fun x => UInt8.ofNat x.toNat) = l := by
  rw [List.map_map]
  refine Eq.trans (List.map_congr_left (g := id) fun x _ => ?_) (List.map_id _)
  show UInt8.ofNat ((x.toNat : Int)).toNat = x
  simp
theorem ofL_bytes (l : List UInt8) : ofL (l.map fun c => (c.toNat : Int)) = bS l := by
  apply bytes_ext
  rw [ofL_data, u8_back, bS_data]
/-- the numeral -/
theorem number_ok (n : Int) (h : n.natAbs ≤ 1000000) : F_spec_l01Number n = some (bS (Lib.itoa n)) := by
  unfold F_spec_l01Number
  by_cases h0 : n = 0
  · subst h0
    rw [eq_true' rfl, br_t]
    have : Lib.itoa 0 = [48] := by unfold Lib.itoa; rw [if_neg (by omega), Lib.decDigits]; rfl
    rw [this]; rfl
  · rw [eq_false' h0, br_f]
    simp only [letO_eq]
    rw [num_loop n.natAbs n [] (Nat.le_refl _) (by omega) (by simp only [List.length_nil]; omega), Option.bind_some, List.append_nil]
    have hd : dz n.natAbs = (Lib.decDigits n.natAbs).map fun c => (c.toNat : Int) := by unfold dz; rw [if_neg (by omega)]
    have hlen : (Lib.itoa n).length ≤ 21 := Lib.itoa_length_le n (by omega) (by omega)
    by_cases hn : n < 0
    · have hi : Lib.itoa n = 45 :: Lib.decDigits n.natAbs := by unfold Lib.itoa; rw [if_pos hn]
      rw [hi, List.length_cons] at hlen
      rw [lt_true hn, br_t, req_of (by rw [s_room, s_nadd, len_eq, len_eq, hd]; simp only [List.length_singleton, List.length_map]; omega), Option.bind_some, hd]
      show some (ofL ([45] ++ _)) = _
      rw [hi, ← ofL_bytes]; rfl
    · have hi : Lib.itoa n = Lib.decDigits n.natAbs := by unfold Lib.itoa; rw [if_neg hn]; congr 1; omega
      rw [lt_false hn, br_f, Option.bind_some, hd]
      show some (ofL _) = _
      rw [hi, ofL_bytes]
/-- numerals, each behind a blank -/
def numsL (l : List Int) : List UInt8 := l.flatMap fun n => 32 :: Lib.itoa n
theorem numsL_snoc (l : List Int) (n : Int) : numsL (l ++ [n]) = numsL l ++ (32 :: Lib.itoa n) := by unfold numsL; rw [List.flatMap_append, List.flatMap_cons, List.flatMap_nil, List.append_nil]
theorem numsL_len (l : List Int) (h : ∀ n ∈ l, n.natAbs ≤ 1000000) : (numsL l).length ≤ 22 * l.length := by
  induction l with
  | nil => simp [numsL]
  | cons n l ih =>
    have h1 := ih fun x hx => h x (List.mem_cons_of_mem _ hx)
    have h2 := Lib.itoa_length_le n (by have := h n List.mem_cons_self; omega) (by have := h n List.mem_cons_self; omega)
    show ((32 :: Lib.itoa n) ++ numsL l).length ≤ _
    rw [List.length_append, List.length_cons, List.length_cons]; omega
theorem take_snoc (l : List Int) (i : Nat) (h : i < l.length) : l.take (i + 1) = l.take i ++ [gd l i] := by
  rw [gd_lt h, List.take_add_one, List.getElem?_eq_getElem h]; rfl
theorem numbers_ok (l : List Int) (hl : l.length ≤ 1000) (h : ∀ n ∈ l, n.natAbs ≤ 1000000) : F_spec_l15Numbers l = some (bS (numsL l)) := by
  unfold F_spec_l15Numbers
  have hb : ∀ i, (numsL (l.take i)).length ≤ 22 * 1000 := fun i => by
    have h1 := numsL_len (l.take i) fun n hn => h n (List.mem_of_mem_take hn)
    have h2 : (l.take i).length ≤ l.length := List.length_take_le' _ _
    omega
  have hw : whileP (L_spec_l15Numbers_x3 l) ((ByteArray.mk #[]), 0) = some (bS (numsL l)) := by
    refine while_from (fun i => (bS (numsL (l.take i)), (i : Int))) l.length (by rfl) (fun i hi => ?_) ?_
    · unfold L_spec_l15Numbers_x3
      simp only [letO_eq]
      have h1 := hb i
      have h2 := h (gd l i) (gd_mem hi)
      have h3 := Lib.itoa_length_le (gd l i) (by omega) (by omega)
      have e0 : (ByteArray.mk #[32]) = bS [32] := rfl
      rw [ltl_t hi, br_t, e0, req_of (room1 (by rw [s_slen, s_slen, bS_size, bS_size]; simp only [List.length_singleton]; omega)), req_of (inRl hi), s_toNn, number_ok _ h2, Option.bind_some, bS_cat, req_of (room1 (by rw [s_slen, s_slen, bS_size, bS_size, List.length_append]; simp only [List.length_singleton]; omega)), bS_cat, inc_nat (by omega), take_snoc l i hi, numsL_snoc, List.append_assoc]
      rfl
    · unfold L_spec_l15Numbers_x3
      simp only [letO_eq]
      rw [ltl_f, br_f, List.take_length]
  rw [hw, Option.bind_some]
  rfl
theorem decimal_ok (n : Int) (h : n.natAbs ≤ 1000000) : F_impl_decimal n = some (bS (Lib.itoa n)) := by
  unfold F_impl_decimal F_strconv_FormatInt
  rw [if_pos ⟨rfl, by omega, by omega⟩, Option.bind_some]
  rfl
theorem join_loop (ws : List ByteArray) (l : List Int) (hw : ws.length ≤ 10) (hl : l.length ≤ 100) (h : ∀ n ∈ l, n.natAbs ≤ 1000000) :
    whileP (L_impl_join_mob_x3 l) (0, ws) = some (ws ++ l.map fun n => bS (Lib.itoa n)) := by
  refine while_from (fun i => ((i : Int), ws ++ (l.take i).map fun n => bS (Lib.itoa n))) l.length (by simp) (fun i hi => ?_) ?_
  · unfold L_impl_join_mob_x3
    simp only [letO_eq]
    rw [ltl_t hi, br_t, req_of (inRl hi), s_toNn, decimal_ok _ (h _ (gd_mem hi)), Option.bind_some, req_of, inc_nat (by omega), take_snoc l i hi, List.map_append, ← List.append_assoc]
    · rfl
    · rw [s_room, s_nadd, len_eq, len_eq, List.length_append, List.length_map, List.length_take]
      simp only [List.length_singleton]; omega
  · unfold L_impl_join_mob_x3
    simp only [letO_eq]
    rw [ltl_f, br_f, List.take_length]
theorem joinTail_nums (l : List Int) : Lib.joinTail [32] ((l.map fun n => bS (Lib.itoa n)).map fun s => s.data.toList) = numsL l := by
  unfold Lib.joinTail numsL
  rw [List.map_map, List.map_map, List.flatMap_def]
  congr 1
/-- words and numbers, blanks between -/
theorem join_ok (w : ByteArray) (ws : List ByteArray) (l : List Int) (hw : ws.length ≤ 9) (hl : l.length ≤ 100) (h : ∀ n ∈ l, n.natAbs ≤ 1000000) (hs : w.size + (ws.flatMap fun s => 32 :: s.data.toList).length ≤ 100000) :
    F_impl_join_mob (w :: ws) l = some (bS (w.data.toList ++ ((ws.flatMap fun s => 32 :: s.data.toList) ++ numsL l))) := by
  unfold F_impl_join_mob
  rw [join_loop (w :: ws) l (by simp only [List.length_cons]; omega) hl h, Option.bind_some]
  simp only [letO_eq]
  have e : Lib.join ((w :: ws ++ l.map fun n => bS (Lib.itoa n)).map fun s => s.data.toList) [32] = w.data.toList ++ ((ws.flatMap fun s => 32 :: s.data.toList) ++ numsL l) := by
    rw [List.cons_append, List.map_cons, Lib.join_cons, List.map_append]
    congr 1
    rw [← joinTail_nums]
    unfold Lib.joinTail
    rw [List.map_append, List.flatten_append, List.map_map]
    congr 1
  have hn := numsL_len l h
  have e2 : (ByteArray.mk #[32]).data.toList = [32] := rfl
  unfold F_strings_Join
  rw [if_pos ⟨by rw [List.length_append, List.length_map, List.length_cons]; omega, by
    rw [e2, e, List.length_append, List.length_append]
    have : w.data.toList.length = w.size := by rw [Array.length_toList]; rfl
    omega⟩, Option.bind_some, e2, e]
  rfl
theorem within_iff (a b c : Int) : F_impl_within a b c = some (decide (b ≤ a) && decide (a ≤ c)) := by
  unfold F_impl_within
  rw [s_le, s_le]
  cases decide (b ≤ a) <;> rfl
theorem l09In_iff (a b c : Int) : F_spec_l09In a b c = some (decide (b ≤ a) && decide (a ≤ c)) := by
  unfold F_spec_l09In
  rw [s_le, s_le]
  cases decide (b ≤ a) <;> rfl
theorem l16In_iff (a b c : Int) : F_spec_l16In a b c = some (decide (b ≤ a) && decide (a ≤ c)) := by
  unfold F_spec_l16In
  rw [s_le, s_le]
  cases decide (b ≤ a) <;> rfl
/-- a rectangle on the chip -/
def okRect (r : TRect) : Bool := decide (-40 ≤ r.fX0) && (decide (r.fX0 < r.fX1) && (decide (r.fX1 ≤ 40) && (decide (-40 ≤ r.fY0) && (decide (r.fY0 < r.fY1) && decide (r.fY1 ≤ 40)))))
theorem rect_impl (r : TRect) : F_impl_IsValidRect r = some (okRect r) := by
  unfold F_impl_IsValidRect okRect
  simp only [s_le, s_lt, letO_eq]
  cases decide (-40 ≤ r.fX0) <;> cases decide (r.fX0 < r.fX1) <;> cases decide (r.fX1 ≤ 40) <;> cases decide (-40 ≤ r.fY0) <;> cases decide (r.fY0 < r.fY1) <;> rfl
theorem rect_spec (r : TRect) : F_spec_l09Rect r = some (okRect r) := rect_impl r
def okShape (s : TShape) : Bool := (decide (0 ≤ s.fLayer) && decide (s.fLayer ≤ 7)) && okRect s.fBox
theorem shape_impl (s : TShape) : F_impl_validShape s = some (okShape s) := by
  unfold F_impl_validShape okShape
  rw [within_iff, Option.bind_some, rect_impl, Option.bind_some]
  cases (decide (0 ≤ s.fLayer) && decide (s.fLayer ≤ 7)) <;> rfl
theorem shape_spec (s : TShape) : F_spec_l09Shape s = some (okShape s) := by
  unfold F_spec_l09Shape F_spec_l09Layer okShape
  rw [l09In_iff, Option.bind_some, Option.bind_some, rect_spec, Option.bind_some]
  cases (decide (0 ≤ s.fLayer) && decide (s.fLayer ≤ 7)) <;> rfl
theorem layer_size (k : Int) (h : 0 ≤ k ∧ k ≤ 7) : (nameAt layerL k).size ≤ 9 := by
  obtain ⟨n, rfl⟩ := Int.eq_ofNat_of_zero_le h.1
  have : n = 0 ∨ n = 1 ∨ n = 2 ∨ n = 3 ∨ n = 4 ∨ n = 5 ∨ n = 6 ∨ n = 7 := by omega
  rcases this with rfl | rfl | rfl | rfl | rfl | rfl | rfl | rfl <;> decide
theorem layer_spec (k : Int) (h : 0 ≤ k ∧ k ≤ 7) : F_spec_LayerName k = some (nameAt layerL k) := by
  unfold F_spec_LayerName F_spec_l16Names
  rw [l16In_iff, decide_eq_true h.1, decide_eq_true h.2]
  obtain ⟨n, rfl⟩ := Int.eq_ofNat_of_zero_le h.1
  have hn : n < 8 := by omega
  simp only [Bool.and_self, Option.bind_some, Bool.not_true, br_f, letO_eq]
  rw [req_of (inRn (by rw [len_eq]; exact hn)), s_nadd, s_toNn, Nat.zero_add]
  have : n = 0 ∨ n = 1 ∨ n = 2 ∨ n = 3 ∨ n = 4 ∨ n = 5 ∨ n = 6 ∨ n = 7 := by omega
  rcases this with rfl | rfl | rfl | rfl | rfl | rfl | rfl | rfl <;> rfl
theorem lawW_FormatShape (a : TShape) (ha : wfShape a) : F_laws_FnExactFormatShape a = some true := by
  have e1 : F_laws_toShape (TShape.mk a.fLayer a.fBox) = some a := rfl
  unfold F_laws_FnExactFormatShape
  rw [e1, Option.bind_some]
  unfold F_spec_FormatShape F_impl_FormatShape
  have e2 : F_impl_validShape (TShape.mk a.fLayer a.fBox) = some (okShape a) := shape_impl a
  simp only [shape_spec, Option.bind_some, e2]
  cases hok : okShape a with
  | false =>
    simp only [Bool.not_false, br_t, Option.bind_some]
    rw [seq_self]; rfl
  | true =>
    simp only [Bool.not_true, br_f]
    unfold okShape okRect at hok
    simp only [Bool.and_eq_true, decide_eq_true_eq] at hok
    obtain ⟨hl, h1, h2, h3, h4, h5, h6⟩ := hok
    have hnums : ∀ n ∈ ([a.fBox.fX0, a.fBox.fY0, a.fBox.fX1, a.fBox.fY1] : List Int), n.natAbs ≤ 1000000 := by
      intro n hn
      simp only [List.mem_cons, List.not_mem_nil, or_false] at hn
      rcases hn with rfl | rfl | rfl | rfl <;> omega
    have hsz := layer_size a.fLayer hl
    have hN := numsL_len _ hnums
    unfold F_spec_l15Shape F_impl_LayerName
    simp only [letO_eq]
    rw [layer_spec _ hl, numbers_ok _ (by simp only [List.length_cons, List.length_nil]; omega) hnums]
    simp only [Option.bind_some]
    have e3 : (ByteArray.mk #[114, 101, 99, 116, 32]) = bS [114, 101, 99, 116, 32] := rfl
    have e4 : (ByteArray.mk #[114, 101, 99, 116]) = bS [114, 101, 99, 116] := rfl
    generalize nameAt layerL a.fLayer = N at hsz
    obtain ⟨nl, rfl⟩ : ∃ nl, N = bS nl := ⟨_, bS_of N⟩
    rw [bS_size] at hsz
    simp only [List.length_cons, List.length_nil] at hN
    rw [e3, req_of (room1 (by rw [s_slen, s_slen, bS_size, bS_size]; simp only [List.length_cons, List.length_nil]; omega)), bS_cat, req_of (room1 (by rw [s_slen, s_slen, bS_size, bS_size, List.length_append]; simp only [List.length_cons, List.length_nil]; omega)), bS_cat, e4,
      join_ok (bS [114, 101, 99, 116]) [bS nl] _ (by simp only [List.length_cons, List.length_nil]; omega) (by simp only [List.length_cons, List.length_nil]; omega) hnums (by rw [List.flatMap_cons, List.flatMap_nil, List.append_nil, bS_data, bS_size]; simp only [List.length_cons, List.length_nil]; omega)]
    simp only [Option.bind_some]
    have e5 : ([114, 101, 99, 116, 32] ++ nl ++ numsL [a.fBox.fX0, a.fBox.fY0, a.fBox.fX1, a.fBox.fY1] : List UInt8) = (bS [114, 101, 99, 116]).data.toList ++ (([bS nl].flatMap fun s => 32 :: s.data.toList) ++ numsL [a.fBox.fX0, a.fBox.fY0, a.fBox.fX1, a.fBox.fY1]) := by
      rw [List.flatMap_cons, List.flatMap_nil, List.append_nil, bS_data, bS_data]
      simp
    rw [e5, seq_self]
    rfl
end Go.Proofs.YtfhkecbopidgiaaDoor.AM
