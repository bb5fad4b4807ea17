/-
  What the functions that the law reaches compute, and that they do. No condition.
-/
import Derived.Test.YtfhkecbopidgiaaDoorAnSW
import Derived.Test.YtfhkecbopidgiaaDoorAnP
import Derived.Lib.ItoaLen
import Derived.Lib.Join
namespace Go.Proofs.YtfhkecbopidgiaaDoor.AM
open Go Go.Proofs Go.RowKit
set_option linter.unusedVariables false
set_option linter.unusedSimpArgs false
set_option maxRecDepth 100000

/-- the string of these bytes -/
def bS (l : List UInt8) : ByteArray := ⟨l.toArray⟩
theorem bS_data (l : List UInt8) : (bS l).data.toList = l := by simp [bS]
theorem bS_size (l : List UInt8) : (bS l).size = l.length := by
  show (bS l).data.size = _
  rw [← Array.length_toList, bS_data]
theorem bS_cat (a b : List UInt8) : std.scat (bS a) (bS b) = bS (a ++ b) := by
  apply bytes_ext
  show (bS a ++ bS b).data.toList = _
  rw [ByteArray.data_append, Array.toList_append, bS_data, bS_data, bS_data]
theorem bS_of (s : ByteArray) : s = bS s.data.toList := by apply bytes_ext; rw [bS_data]
/-- digits as numbers, none for 0 -/
def dz (n : Nat) : List Int := if n = 0 then [] else (Lib.decDigits n).map fun c => (c.toNat : Int)
theorem dz_step (n : Nat) (h : n ≠ 0) : dz n = dz (n / 10) ++ [((48 + n % 10 : Nat) : Int)] := by
  have e : ∀ k, k < 10 → ((UInt8.ofNat (48 + k)).toNat : Int) = ((48 + k : Nat) : Int) := by
    intro k hk
    have : (UInt8.ofNat (48 + k)).toNat = 48 + k := by simp; omega
    rw [this]
  unfold dz
  rw [if_neg h]
  conv => lhs; rw [Lib.decDigits]
  by_cases hn : n < 10
  · rw [dif_pos hn, if_pos (by omega), List.map_cons, List.map_nil, e n hn, Nat.mod_eq_of_lt hn]; rfl
  · rw [dif_neg hn, if_neg (by omega), List.map_append, List.map_cons, List.map_nil, e _ (Nat.mod_lt _ (by omega))]
theorem digit_ok (v : Int) (h : v.natAbs ≤ 1000000000000) : (((br (std.lt (std.rem v 10) 0) (some (std.sub .i64 0 (std.rem v 10))) (some (std.rem v 10))) : Option Int)) = some ((v.natAbs % 10 : Nat) : Int) := by
  have h1 : std.rem v 10 = v.tmod 10 := rfl
  have h2 : (v.tmod 10).natAbs = v.natAbs % 10 := by rw [Int.natAbs_tmod]; rfl
  rw [h1]
  by_cases hn : v.tmod 10 < 0
  · rw [lt_true hn, br_t, sub_id (by omega) (by omega)]
    congr 1; omega
  · rw [lt_false hn, br_f]
    congr 1; omega
theorem conv_digit (k : Nat) (h : k < 10) : std.conv .u8 (std.add .i64 48 (k : Int)) = ((48 + k : Nat) : Int) := by
  rw [add_id (by omega) (by omega)]
  show IntKind.u8.wrap _ = _
  simp [IntKind.wrap, IntKind.signed, IntKind.bits]
  omega
theorem quo_ok (v : Int) (h : v.natAbs ≤ 1000000000000) : std.quo .i64 v 10 = v.tdiv 10 := by
  have h2 : (v.tdiv 10).natAbs = v.natAbs / 10 := by rw [Int.natAbs_tdiv]; rfl
  exact wrap_id (by omega) (by omega)
theorem num_loop (k : Nat) : ∀ (v : Int) (acc : List Int), v.natAbs ≤ k → v.natAbs ≤ 1000000000000 → acc.length + v.natAbs ≤ 2000000000000 →
    whileP L_spec_l01Number_x5 (v, acc) = some (dz v.natAbs ++ acc) := by
  induction k with
  | zero =>
    intro v acc h h1 h2
    obtain rfl : v = 0 := by omega
    rw [whileP_unfold]
    rfl
  | succ k ih =>
    intro v acc h h1 h2
    rw [whileP_unfold]
    by_cases hv : v = 0
    · subst hv; rfl
    · have e : L_spec_l01Number_x5 (v, acc) = some (.inl (v.tdiv 10, ((48 + v.natAbs % 10 : Nat) : Int) :: acc)) := by
        unfold L_spec_l01Number_x5
        simp only [letO_eq]
        rw [eq_false' hv, s_not, Bool.not_false, br_t, req_of (by rw [s_nz]; decide), digit_ok v h1, Option.bind_some, conv_digit _ (Nat.mod_lt _ (by omega)), req_of (by rw [s_room, s_nadd, len_eq, len_eq]; simp only [List.length_singleton]; omega), req_of (by rw [s_nz]; decide), quo_ok v h1]
        rfl
      rw [e]
      show whileP L_spec_l01Number_x5 (v.tdiv 10, ((48 + v.natAbs % 10 : Nat) : Int) :: acc) = _
      have h3 : (v.tdiv 10).natAbs = v.natAbs / 10 := by rw [Int.natAbs_tdiv]; rfl
      rw [ih _ _ (by omega) (by omega) (by simp only [List.length_cons]; omega), h3, dz_step v.natAbs (by omega), List.append_assoc]
      rfl
theorem u8_back (l : List UInt8) : (l.map fun c => (c.toNat : Int)).map (fun x => UInt8.ofNat x.toNat) = l := by
  rw [List.map_map]
  refine Eq.trans (List.map_congr_left (g := id) fun x _ => ?_) (List.map_id _)
  show UInt8.ofNat ((x.toNat : Int)).toNat = x
  simp
theorem ofL_bytes (l : List UInt8) : ofL (l.map fun c => (c.toNat : Int)) = bS l := by
  apply bytes_ext
  rw [ofL_data, u8_back, bS_data]
/-- the numeral -/
theorem number_ok (n : Int) (h : n.natAbs ≤ 1000000) : F_spec_l01Number n = some (bS (Lib.itoa n)) := by
  unfold F_spec_l01Number
  by_cases h0 : n = 0
  · subst h0
    rw [eq_true' rfl, br_t]
    have : Lib.itoa 0 = [48] := by unfold Lib.itoa; rw [if_neg (by omega), Lib.decDigits]; rfl
    rw [this]; rfl
  · rw [eq_false' h0, br_f]
    simp only [letO_eq]
    rw [num_loop n.natAbs n [] (Nat.le_refl _) (by omega) (by simp only [List.length_nil]; omega), Option.bind_some, List.append_nil]
    have hd : dz n.natAbs = (Lib.decDigits n.natAbs).map fun c => (c.toNat : Int) := by unfold dz; rw [if_neg (by omega)]
    have hlen : (Lib.itoa n).length ≤ 21 := Lib.itoa_length_le n (by omega) (by omega)
    by_cases hn : n < 0
    · have hi : Lib.itoa n = 45 :: Lib.decDigits n.natAbs := by unfold Lib.itoa; rw [if_pos hn]
      rw [hi, List.length_cons] at hlen
      rw [lt_true hn, br_t, req_of (by rw [s_room, s_nadd, len_eq, len_eq, hd]; simp only [List.length_singleton, List.length_map]; omega), Option.bind_some, hd]
      show some (ofL ([45] ++ _)) = _
      rw [hi, ← ofL_bytes]; rfl
    · have hi : Lib.itoa n = Lib.decDigits n.natAbs := by unfold Lib.itoa; rw [if_neg hn]; congr 1; omega
      rw [lt_false hn, br_f, Option.bind_some, hd]
      show some (ofL _) = _
      rw [hi, ofL_bytes]
/-- numerals, each behind a blank -/
def numsL (l : List Int) : List UInt8 := l.flatMap fun n => 32 :: Lib.itoa n
theorem numsL_snoc (l : List Int) (n : Int) : numsL (l ++ [n]) = numsL l ++ (32 :: Lib.itoa n) := by unfold numsL; rw [List.flatMap_append, List.flatMap_cons, List.flatMap_nil, List.append_nil]
theorem numsL_len (l : List Int) (h : ∀ n ∈ l, n.natAbs ≤ 1000000) : (numsL l).length ≤ 22 * l.length := by
  induction l with
  | nil => simp [numsL]
  | cons n l ih =>
    have h1 := ih fun x hx => h x (List.mem_cons_of_mem _ hx)
    have h2 := Lib.itoa_length_le n (by have := h n List.mem_cons_self; omega) (by have := h n List.mem_cons_self; omega)
    show ((32 :: Lib.itoa n) ++ numsL l).length ≤ _
    rw [List.length_append, List.length_cons, List.length_cons]; omega
theorem take_snoc (l : List Int) (i : Nat) (h : i < l.length) : l.take (i + 1) = l.take i ++ [gd l i] := by
  rw [gd_lt h, List.take_add_one, List.getElem?_eq_getElem h]; rfl
theorem numbers_ok (l : List Int) (hl : l.length ≤ 1000) (h : ∀ n ∈ l, n.natAbs ≤ 1000000) : F_spec_l15Numbers l = some (bS (numsL l)) := by
  unfold F_spec_l15Numbers
  have hb : ∀ i, (numsL (l.take i)).length ≤ 22 * 1000 := fun i => by
    have h1 := numsL_len (l.take i) fun n hn => h n (List.mem_of_mem_take hn)
    have h2 : (l.take i).length ≤ l.length := List.length_take_le' _ _
    omega
  have hw : whileP (L_spec_l15Numbers_x3 l) ((ByteArray.mk #[]), 0) = some (bS (numsL l)) := by
    refine while_from (fun i => (bS (numsL (l.take i)), (i : Int))) l.length (by rfl) (fun i hi => ?_) ?_
    · unfold L_spec_l15Numbers_x3
      simp only [letO_eq]
      have h1 := hb i
      have h2 := h (gd l i) (gd_mem hi)
      have h3 := Lib.itoa_length_le (gd l i) (by omega) (by omega)
      have e0 : (ByteArray.mk #[32]) = bS [32] := rfl
      rw [ltl_t hi, br_t, e0, req_of (room1 (by rw [s_slen, s_slen, bS_size, bS_size]; simp only [List.length_singleton]; omega)), req_of (inRl hi), s_toNn, number_ok _ h2, Option.bind_some, bS_cat, req_of (room1 (by rw [s_slen, s_slen, bS_size, bS_size, List.length_append]; simp only [List.length_singleton]; omega)), bS_cat, inc_nat (by omega), take_snoc l i hi, numsL_snoc, List.append_assoc]
      rfl
    · unfold L_spec_l15Numbers_x3
      simp only [letO_eq]
      rw [ltl_f, br_f, List.take_length]
  rw [hw, Option.bind_some]
  rfl
theorem decimal_ok (n : Int) (h : n.natAbs ≤ 1000000) : F_impl_decimal n = some (bS (Lib.itoa n)) := by
  unfold F_impl_decimal F_strconv_FormatInt
  rw [if_pos ⟨rfl, by omega, by omega⟩, Option.bind_some]
  rfl
theorem join_loop (ws : List ByteArray) (l : List Int) (hw : ws.length ≤ 10) (hl : l.length ≤ 100) (h : ∀ n ∈ l, n.natAbs ≤ 1000000) :
    whileP (L_impl_join_mob_x3 l) (0, ws) = some (ws ++ l.map fun n => bS (Lib.itoa n)) := by
  refine while_from (fun i => ((i : Int), ws ++ (l.take i).map fun n => bS (Lib.itoa n))) l.length (by simp) (fun i hi => ?_) ?_
  · unfold L_impl_join_mob_x3
    simp only [letO_eq]
    rw [ltl_t hi, br_t, req_of (inRl hi), s_toNn, decimal_ok _ (h _ (gd_mem hi)), Option.bind_some, req_of, inc_nat (by omega), take_snoc l i hi, List.map_append, ← List.append_assoc]
    · rfl
    · rw [s_room, s_nadd, len_eq, len_eq, List.length_append, List.length_map, List.length_take]
      simp only [List.length_singleton]; omega
  · unfold L_impl_join_mob_x3
    simp only [letO_eq]
    rw [ltl_f, br_f, List.take_length]
theorem joinTail_nums (l : List Int) : Lib.joinTail [32] ((l.map fun n => bS (Lib.itoa n)).map fun s => s.data.toList) = numsL l := by
  unfold Lib.joinTail numsL
  rw [List.map_map, List.map_map, List.flatMap_def]
  congr 1
/-- words and numbers, blanks between -/
theorem join_ok (w : ByteArray) (ws : List ByteArray) (l : List Int) (hw : ws.length ≤ 9) (hl : l.length ≤ 100) (h : ∀ n ∈ l, n.natAbs ≤ 1000000) (hs : w.size + (ws.flatMap fun s => 32 :: s.data.toList).length ≤ 100000) :
    F_impl_join_mob (w :: ws) l = some (bS (w.data.toList ++ ((ws.flatMap fun s => 32 :: s.data.toList) ++ numsL l))) := by
  unfold F_impl_join_mob
  rw [join_loop (w :: ws) l (by simp only [List.length_cons]; omega) hl h, Option.bind_some]
  simp only [letO_eq]
  have e : Lib.join ((w :: ws ++ l.map fun n => bS (Lib.itoa n)).map fun s => s.data.toList) [32] = w.data.toList ++ ((ws.flatMap fun s => 32 :: s.data.toList) ++ numsL l) := by
    rw [List.cons_append, List.map_cons, Lib.join_cons, List.map_append]
    congr 1
    rw [← joinTail_nums]
    unfold Lib.joinTail
    rw [List.map_append, List.flatten_append, List.map_map]
    congr 1
  have hn := numsL_len l h
  have e2 : (ByteArray.mk #[32]).data.toList = [32] := rfl
  unfold F_strings_Join
  rw [if_pos ⟨by rw [List.length_append, List.length_map, List.length_cons]; omega, by
    rw [e2, e, List.length_append, List.length_append]
    have : w.data.toList.length = w.size := by rw [Array.length_toList]; rfl
    omega⟩, Option.bind_some, e2, e]
  rfl
noncomputable def wB (a b c : Int) : Bool := std.le b a && std.le a c
theorem spec_l09In_ok (a b c : Int) : F_spec_l09In a b c = some (wB a b c) := by
  unfold F_spec_l09In wB
  cases std.le b a <;> rfl
theorem impl_within_ok (a b c : Int) : F_impl_within a b c = some (wB a b c) := by
  unfold F_impl_within wB
  cases std.le b a <;> rfl
noncomputable def okRect (a : TRect) : Bool := std.le (-40) a.fX0 && (std.lt a.fX0 a.fX1 && (std.le a.fX1 40 && (std.le (-40) a.fY0 && (std.lt a.fY0 a.fY1 && std.le a.fY1 40))))
theorem spec_l09Rect_ok (a : TRect) : F_spec_l09Rect a = some (okRect a) := by
  unfold F_spec_l09Rect okRect
  cases std.le (-40) a.fX0 <;> cases std.lt a.fX0 a.fX1 <;> cases std.le a.fX1 40 <;> cases std.le (-40) a.fY0 <;> cases std.lt a.fY0 a.fY1 <;> rfl
theorem impl_IsValidRect_ok (a : TRect) : F_impl_IsValidRect a = some (okRect a) := by
  unfold F_impl_IsValidRect okRect
  cases std.le (-40) a.fX0 <;> cases std.lt a.fX0 a.fX1 <;> cases std.le a.fX1 40 <;> cases std.le (-40) a.fY0 <;> cases std.lt a.fY0 a.fY1 <;> rfl
theorem spec_l09Layer_ok (a : Int) : F_spec_l09Layer a = some (wB a 0 7) := by
  unfold F_spec_l09Layer
  rw [spec_l09In_ok]; rfl
noncomputable def okShape (a : TShape) : Bool := wB a.fLayer 0 7 && okRect a.fBox
theorem spec_l09Shape_ok (a : TShape) : F_spec_l09Shape a = some (okShape a) := by
  unfold F_spec_l09Shape okShape
  rw [spec_l09Layer_ok, spec_l09Rect_ok]
  cases wB a.fLayer 0 7 <;> rfl
theorem impl_validShape_ok (a : TShape) : F_impl_validShape a = some (okShape a) := by
  unfold F_impl_validShape okShape
  rw [impl_within_ok, impl_IsValidRect_ok]
  cases wB a.fLayer 0 7 <;> rfl
noncomputable def okPoint (a : TPoint) : Bool := wB a.fX (-40) 39 && wB a.fY (-40) 39
theorem spec_l09Unit_ok (a : TPoint) : F_spec_l09Unit a = some (okPoint a) := by
  unfold F_spec_l09Unit okPoint
  rw [spec_l09In_ok, spec_l09In_ok]
  cases wB a.fX (-40) 39 <;> rfl
theorem impl_isUnitCell_ok (a : TPoint) : F_impl_isUnitCell a = some (okPoint a) := by
  unfold F_impl_isUnitCell okPoint
  rw [impl_within_ok, impl_within_ok]
  cases wB a.fX (-40) 39 <;> rfl
noncomputable def okName (s : ByteArray) (i : Nat) : Bool :=
  (std.le 97 (std.sat s i) && std.le (std.sat s i) 122) || (std.le 48 (std.sat s i) && std.le (std.sat s i) 57)
noncomputable def isName (s : ByteArray) : Bool := (List.range s.size).all (okName s) && (decide (1 ≤ s.size) && decide (s.size ≤ 8))
theorem lt_le (a b : Int) : std.lt a b = !std.le b a := by
  rw [s_lt, s_le]
  by_cases h : a < b
  · have : ¬ b ≤ a := by omega
    simp [h]
  · have : b ≤ a := by omega
    simp [h, this]
theorem nameEnd (s : ByteArray) (b : Bool) : ((match (if b then .inr () else .inl () : Unit ⊕ Unit) with
    | .inl _ => some false
    | .inr _ => ((br (std.le 1 (std.ofN (std.slen s))) (some (std.le (std.ofN (std.slen s)) 8)) (some false)) : Option Bool).bind fun y33 => letO y33 fun w39 => some w39) : Option Bool) = some (b && (decide (1 ≤ s.size) && decide (s.size ≤ 8))) := by
  cases b with
  | false => rfl
  | true =>
    have e1 : std.le 1 (std.ofN (std.slen s)) = decide (1 ≤ s.size) := by rw [s_le, s_ofN, s_slen]; congr 1; simp; omega
    have e2 : std.le (std.ofN (std.slen s)) 8 = decide (s.size ≤ 8) := by rw [s_le, s_ofN, s_slen]; congr 1; simp; omega
    simp only [if_true, e1, e2, br_bool, letO_eq, Bool.true_and]
    cases decide (1 ≤ s.size) <;> rfl
theorem spec_IsName_ok (s : ByteArray) (hs : s.size ≤ maxLen) : F_spec_IsName s = some (isName s) := by
  have hb := maxLen_eq
  unfold F_spec_IsName
  refine Eq.trans (bind_of (scan (ok := okName s) (n := s.size) (yes := .inr ()) (no := .inl ()) (fun i hi => ?_) ?_)) (nameEnd s _)
  · simp only [L_spec_IsName_x2, letO_eq, s_toNn, req_of (show std.inR (i : Int) (std.slen s) from inRn hi), okName]
    rw [lt_true (by rw [s_ofN, s_slen]; omega), br_t, inc_nat (by omega)]
    generalize std.sat s i = c
    cases std.le 97 c <;> cases std.le c 122 <;> cases std.le 48 c <;> cases std.le c 57 <;> rfl
  · simp only [L_spec_IsName_x2, letO_eq]
    rw [lt_false (by rw [s_ofN, s_slen]; omega)]; rfl
theorem impl_IsName_ok (s : ByteArray) (hs : s.size ≤ maxLen) : F_impl_IsName s = some (isName s) := by
  have hb := maxLen_eq
  unfold F_impl_IsName
  refine Eq.trans (bind_of (scan (ok := okName s) (n := s.size) (yes := .inr ()) (no := .inl ()) (fun i hi => ?_) ?_)) (nameEnd s _)
  · simp only [L_impl_IsName_x2, letO_eq, s_toNn, req_of (show std.inR (i : Int) (std.slen s) from inRn hi), okName]
    rw [lt_true (by rw [s_ofN, s_slen]; omega), br_t, inc_nat (by omega)]
    generalize std.sat s i = c
    rw [lt_le c 97, lt_le c 48, lt_le 122 c, lt_le 57 c]
    cases std.le 97 c <;> cases std.le c 122 <;> cases std.le 48 c <;> cases std.le c 57 <;> rfl
  · simp only [L_impl_IsName_x2, letO_eq]
    rw [lt_false (by rw [s_ofN, s_slen]; omega)]; rfl
noncomputable def okLabel (a : TLabel) : Bool := wB a.fLayer 0 7 && (okPoint a.fAt && isName a.fName)
theorem spec_l09Label_ok (a : TLabel) (h : a.fName.size ≤ maxLen) : F_spec_l09Label a = some (okLabel a) := by
  unfold F_spec_l09Label okLabel
  rw [spec_l09Layer_ok, spec_l09Unit_ok, spec_IsName_ok _ h]
  cases wB a.fLayer 0 7 <;> cases okPoint a.fAt <;> rfl
theorem impl_validLabel_ok (a : TLabel) (h : a.fName.size ≤ maxLen) : F_impl_validLabel a = some (okLabel a) := by
  unfold F_impl_validLabel okLabel
  rw [impl_within_ok, impl_isUnitCell_ok, impl_IsName_ok _ h]
  cases wB a.fLayer 0 7 <;> cases okPoint a.fAt <;> rfl
noncomputable def okTr (a : TTransform) : Bool := wB a.fOrientation 0 7 && (wB a.fX (-80) 80 && wB a.fY (-80) 80)
theorem spec_l09Transform_ok (a : TTransform) : F_spec_l09Transform a = some (okTr a) := by
  unfold F_spec_l09Transform okTr
  simp only [spec_l09In_ok]
  cases wB a.fOrientation 0 7 <;> cases wB a.fX (-80) 80 <;> rfl
theorem impl_IsValidTransform_ok (a : TTransform) : F_impl_IsValidTransform a = some (okTr a) := by
  unfold F_impl_IsValidTransform okTr
  simp only [impl_within_ok]
  cases wB a.fOrientation 0 7 <;> cases wB a.fX (-80) 80 <;> rfl
noncomputable def okInst (a : TInstance) (m : Int) : Bool := wB a.fCell 0 (std.sub .i64 m 1) && (okTr a.fPlace && (wB a.fColumns 1 4 && (wB a.fRows 1 4 && (wB a.fStepX (-80) 80 && (wB a.fStepY (-80) 80 && ((std.lt 1 a.fColumns || std.eq a.fStepX 0) && (std.lt 1 a.fRows || std.eq a.fStepY 0)))))))
theorem spec_l09Instance_ok (a : TInstance) (m : Int) : F_spec_l09Instance a m = some (okInst a m) := by
  unfold F_spec_l09Instance okInst
  simp only [spec_l09In_ok, spec_l09Transform_ok]
  cases wB a.fCell 0 (std.sub .i64 m 1) <;> cases okTr a.fPlace <;> cases wB a.fColumns 1 4 <;> cases wB a.fRows 1 4 <;> try rfl
  cases wB a.fStepX (-80) 80 <;> cases wB a.fStepY (-80) 80 <;> try rfl
  cases std.lt 1 a.fColumns <;> cases std.eq a.fStepX 0 <;> cases std.lt 1 a.fRows <;> cases std.eq a.fStepY 0 <;> rfl
theorem impl_validInstance_ok (a : TInstance) (m : Int) : F_impl_validInstance a m = some (okInst a m) := by
  unfold F_impl_validInstance okInst
  simp only [impl_within_ok, impl_IsValidTransform_ok]
  cases wB a.fCell 0 (std.sub .i64 m 1) <;> cases okTr a.fPlace <;> cases wB a.fColumns 1 4 <;> cases wB a.fRows 1 4 <;> try rfl
  cases wB a.fStepX (-80) 80 <;> cases wB a.fStepY (-80) 80 <;> try rfl
  cases std.lt 1 a.fColumns <;> cases std.eq a.fStepX 0 <;> cases std.lt 1 a.fRows <;> cases std.eq a.fStepY 0 <;> rfl
theorem laws_toShape_ok (a : TShape) : F_laws_toShape a = some a := rfl
theorem laws_toShapeS_ok (a : List TShape) (h : a.length ≤ 10000000) : F_laws_toShapeS a = some a := by
  unfold F_laws_toShapeS
  rw [req_of (nneg_len _), req_of (room_le (by rw [len_eq]; omega) (by decide))]
  simp only [letO_eq, s_ofN, s_toNn, len_eq]
  rw [bind_of (while_copy (st := L_laws_toShapeS_x7 a _) a (List.replicate a.length _) (by simp) (fun i hi v hv => ?_) (fun v => ?_)), req_of (by simp)]
  · simp only [L_laws_toShapeS_x7, letO_eq, s_toNn, s_nadd, Nat.zero_add]
    rw [ltl_t hi, br_t, req_of (inRl hi), laws_toShape_ok, Option.bind_some, req_of (inRl (by simpa using hi)), req_of (by simp [len_eq, hv]), inc_nat (by omega)]
  · simp only [L_laws_toShapeS_x7, letO_eq]
    rw [ltl_f, br_f]
theorem laws_toLabel_ok (a : TLabel) : F_laws_toLabel a = some a := rfl
theorem laws_toLabelS_ok (a : List TLabel) (h : a.length ≤ 10000000) : F_laws_toLabelS a = some a := by
  unfold F_laws_toLabelS
  rw [req_of (nneg_len _), req_of (room_le (by rw [len_eq]; omega) (by decide))]
  simp only [letO_eq, s_ofN, s_toNn, len_eq]
  rw [bind_of (while_copy (st := L_laws_toLabelS_x7 a _) a (List.replicate a.length _) (by simp) (fun i hi v hv => ?_) (fun v => ?_)), req_of (by simp)]
  · simp only [L_laws_toLabelS_x7, letO_eq, s_toNn, s_nadd, Nat.zero_add]
    rw [ltl_t hi, br_t, req_of (inRl hi), laws_toLabel_ok, Option.bind_some, req_of (inRl (by simpa using hi)), req_of (by simp [len_eq, hv]), inc_nat (by omega)]
  · simp only [L_laws_toLabelS_x7, letO_eq]
    rw [ltl_f, br_f]
theorem laws_toInstance_ok (a : TInstance) : F_laws_toInstance a = some a := rfl
theorem laws_toInstanceS_ok (a : List TInstance) (h : a.length ≤ 10000000) : F_laws_toInstanceS a = some a := by
  unfold F_laws_toInstanceS
  rw [req_of (nneg_len _), req_of (room_le (by rw [len_eq]; omega) (by decide))]
  simp only [letO_eq, s_ofN, s_toNn, len_eq]
  rw [bind_of (while_copy (st := L_laws_toInstanceS_x7 a _) a (List.replicate a.length _) (by simp) (fun i hi v hv => ?_) (fun v => ?_)), req_of (by simp)]
  · simp only [L_laws_toInstanceS_x7, letO_eq, s_toNn, s_nadd, Nat.zero_add]
    rw [ltl_t hi, br_t, req_of (inRl hi), laws_toInstance_ok, Option.bind_some, req_of (inRl (by simpa using hi)), req_of (by simp [len_eq, hv]), inc_nat (by omega)]
  · simp only [L_laws_toInstanceS_x7, letO_eq]
    rw [ltl_f, br_f]
/-- nothing is great -/
structure SmallC (c : TCell) : Prop where
  name : c.fName.size ≤ 1048576
  shapes : c.fShapes.length ≤ 1048576
  labels : c.fLabels.length ≤ 1048576
  insts : c.fInstances.length ≤ 1048576
  lnames : ∀ l ∈ c.fLabels, l.fName.size ≤ 1048576
structure SmallL (a : TLibrary) : Prop where
  cells : a.fCells.length ≤ 1048576
  cell : ∀ c ∈ a.fCells, SmallC c
theorem laws_toCell_ok (c : TCell) (h : SmallC c) : F_laws_toCell c = some c := by
  unfold F_laws_toCell
  rw [laws_toShapeS_ok _ (by have := h.shapes; omega), laws_toLabelS_ok _ (by have := h.labels; omega), laws_toInstanceS_ok _ (by have := h.insts; omega)]
  rfl
theorem laws_toCellS_ok (a : List TCell) (h : a.length ≤ 1048576) (hc : ∀ c ∈ a, SmallC c) : F_laws_toCellS a = some a := by
  unfold F_laws_toCellS
  rw [req_of (nneg_len _), req_of (room_le (by rw [len_eq]; omega) (by decide))]
  simp only [letO_eq, s_ofN, s_toNn, len_eq, Option.bind_some]
  rw [bind_of (while_copy (st := L_laws_toCellS_x14 a _) a (List.replicate a.length _) (by simp) (fun i hi v hv => ?_) (fun v => ?_)), req_of (by simp)]
  · simp only [L_laws_toCellS_x14, letO_eq, s_toNn, s_nadd, Nat.zero_add]
    rw [ltl_t hi, br_t, req_of (inRl hi), laws_toCell_ok _ (hc _ (gd_mem hi)), Option.bind_some, req_of (inRl (by simpa using hi)), req_of (by simp [len_eq, hv]), inc_nat (by omega)]
    rfl
  · simp only [L_laws_toCellS_x14, letO_eq]
    rw [ltl_f, br_f]
theorem laws_toLibrary_ok (a : TLibrary) (h : SmallL a) : F_laws_toLibrary a = some a := by
  unfold F_laws_toLibrary
  rw [laws_toCellS_ok _ h.cells h.cell]; rfl
-- the sizes
theorem subl_ok {n : Nat} {x : Int} (h : n ≤ maxLen) (hx : 0 ≤ x ∧ x ≤ 1048576) : std.sub .i64 x (std.ofN n) = x - n := by
  have := maxLen_eq
  rw [s_ofN, sub_id (by omega) (by omega)]
theorem laws_szShapeS_ok (a : List TShape) (x : Int) (ha : a.length ≤ maxLen) (hx : 0 ≤ x ∧ x ≤ 1048576) : ∃ y, F_laws_szShapeS a x = some y ∧ (0 ≤ y → y ≤ x ∧ a.length ≤ 1048576) := by
  unfold F_laws_szShapeS
  rw [len_eq, subl_ok ha hx, br_bool, s_lt]
  by_cases h : x - (a.length : Int) < 0
  · exact ⟨-1, by simp [h], fun h => by omega⟩
  · exact ⟨x - a.length, by simp [h], fun _ => ⟨by omega, by omega⟩⟩
theorem laws_szInstanceS_ok (a : List TInstance) (x : Int) (ha : a.length ≤ maxLen) (hx : 0 ≤ x ∧ x ≤ 1048576) : ∃ y, F_laws_szInstanceS a x = some y ∧ (0 ≤ y → y ≤ x ∧ a.length ≤ 1048576) := by
  unfold F_laws_szInstanceS
  rw [len_eq, subl_ok ha hx, br_bool, s_lt]
  by_cases h : x - (a.length : Int) < 0
  · exact ⟨-1, by simp [h], fun h => by omega⟩
  · exact ⟨x - a.length, by simp [h], fun _ => ⟨by omega, by omega⟩⟩
theorem laws_szLabel_ok (a : TLabel) (x : Int) (ha : a.fName.size ≤ maxLen) (hx : 0 ≤ x ∧ x ≤ 1048576) : ∃ y, F_laws_szLabel a x = some y ∧ (0 ≤ y → y ≤ x ∧ a.fName.size ≤ 1048576) := by
  unfold F_laws_szLabel
  rw [s_slen, subl_ok ha hx, br_bool, s_lt]
  by_cases h : x - (a.fName.size : Int) < 0
  · exact ⟨-1, by simp [h], fun h => by omega⟩
  · exact ⟨x - a.fName.size, by simp [h], fun _ => ⟨by omega, by omega⟩⟩
/-- a loop that takes from what is left -/
theorem while_sz {α : Type} [Inhabited α] {st : Int × Int → Option ((Int × Int) ⊕ (Int ⊕ Int))} (l : List α) (ok : α → Prop) (x : Int) (hx : 0 ≤ x ∧ x ≤ 1048576)
    (h : ∀ i, i < l.length → ∀ y : Int, 0 ≤ y ∧ y ≤ 1048576 → ∃ z : Int, (z < 0 ∧ st (y, (i : Int)) = some (.inr (.inl (-1)))) ∨ (0 ≤ z ∧ z ≤ y ∧ ok (gd l i) ∧ st (y, (i : Int)) = some (.inl (z, ((i + 1 : Nat) : Int)))))
    (he : ∀ y, st (y, (l.length : Int)) = some (.inr (.inr y))) : ∃ r, whileP st (x, 0) = some r ∧ (r = .inl (-1) ∨ ∃ z, r = .inr z ∧ 0 ≤ z ∧ z ≤ x ∧ ∀ e ∈ l, ok e) := by
  refine while_ex (fun s => ∃ (i : Nat) (y : Int), s = (y, (i : Int)) ∧ i ≤ l.length ∧ 0 ≤ y ∧ y ≤ x ∧ ∀ j, j < i → ok (gd l j)) _ (fun s => l.length + 1 - s.2.toNat) ⟨0, x, rfl, by omega, by omega, by omega, fun j hj => by omega⟩ ?_
  rintro _ ⟨i, y, rfl, h1, h2, h3, h4⟩
  by_cases hi : i < l.length
  · obtain ⟨z, ⟨_, hz⟩ | ⟨g1, g2, g3, hz⟩⟩ := h i hi y ⟨h2, by omega⟩
    · exact .inr ⟨_, hz, .inl rfl⟩
    · exact .inl ⟨_, hz, ⟨i + 1, z, rfl, by omega, g1, by omega, fun j hj => by
        rcases Nat.lt_or_ge j i with hj' | hj'
        · exact h4 j hj'
        · rw [show j = i by omega]; exact g3⟩, by simp only [Int.toNat_natCast]; omega⟩
  · have hil : i = l.length := by omega
    subst hil
    refine .inr ⟨_, he y, .inr ⟨y, rfl, h2, h3, fun e hm => ?_⟩⟩
    obtain ⟨j, hj, rfl⟩ := List.getElem_of_mem hm
    rw [← gd_lt hj]; exact h4 j hj
theorem laws_szLabelS_ok (a : List TLabel) (x : Int) (ha : a.length ≤ maxLen) (hn : ∀ l ∈ a, l.fName.size ≤ maxLen) (hx : 0 ≤ x ∧ x ≤ 1048576) : ∃ y, F_laws_szLabelS a x = some y ∧ (0 ≤ y → y ≤ x ∧ a.length ≤ 1048576 ∧ ∀ l ∈ a, l.fName.size ≤ 1048576) := by
  have hb := maxLen_eq
  unfold F_laws_szLabelS
  rw [len_eq, subl_ok ha hx, br_bool, s_lt]
  by_cases h : x - (a.length : Int) < 0
  · exact ⟨-1, by simp [h], fun h => by omega⟩
  · rw [if_neg (by simpa using h)]
    obtain ⟨r, h1, h2⟩ := while_sz (st := L_laws_szLabelS_x3 a) a (fun l => l.fName.size ≤ 1048576) (x - a.length) ⟨by omega, by omega⟩ (fun i hi y hy => by
      obtain ⟨z, hz, hz2⟩ := laws_szLabel_ok (gd a i) y (hn _ (gd_mem hi)) hy
      refine ⟨z, ?_⟩
      simp only [L_laws_szLabelS_x3, letO_eq, s_toNn]
      rw [ltl_t hi, br_t, req_of (inRl hi), hz, Option.bind_some, br_bool, s_lt, inc_nat (by omega)]
      by_cases h0 : z < 0
      · exact .inl ⟨h0, by simp [h0]⟩
      · exact .inr ⟨by omega, (hz2 (by omega)).1, (hz2 (by omega)).2, by simp [h0]⟩) (fun y => by
      simp only [L_laws_szLabelS_x3, letO_eq]
      rw [ltl_f, br_f])
    rw [h1, Option.bind_some]
    rcases h2 with rfl | ⟨z, rfl, h3, h4, h5⟩
    · exact ⟨-1, rfl, fun h => by omega⟩
    · exact ⟨z, rfl, fun _ => ⟨by omega, by omega, h5⟩⟩
def wfC (c : TCell) : Prop := c.fName.size ≤ maxLen ∧ c.fShapes.length ≤ maxLen ∧ c.fLabels.length ≤ maxLen ∧ c.fInstances.length ≤ maxLen ∧ ∀ l ∈ c.fLabels, l.fName.size ≤ maxLen
theorem laws_szCell_ok (c : TCell) (x : Int) (hc : wfC c) (hx : 0 ≤ x ∧ x ≤ 1048576) : ∃ y, F_laws_szCell c x = some y ∧ (0 ≤ y → y ≤ x ∧ SmallC c) := by
  obtain ⟨h1, h2, h3, h4, h5⟩ := hc
  unfold F_laws_szCell
  rw [s_slen, subl_ok h1 hx, br_bool, s_lt]
  by_cases h : x - (c.fName.size : Int) < 0
  · exact ⟨-1, by simp [h], fun h => by omega⟩
  · rw [if_neg (by simpa using h)]
    obtain ⟨y1, e1, f1⟩ := laws_szShapeS_ok c.fShapes (x - c.fName.size) h2 ⟨by omega, by omega⟩
    rw [e1, Option.bind_some, br_bool, s_lt]
    by_cases g1 : y1 < 0
    · exact ⟨-1, by simp [g1], fun h => by omega⟩
    · have f1 := f1 (by omega)
      rw [if_neg (by simpa using g1)]
      obtain ⟨y2, e2, f2⟩ := laws_szLabelS_ok c.fLabels y1 h3 h5 ⟨by omega, by omega⟩
      rw [e2, Option.bind_some, br_bool, s_lt]
      by_cases g2 : y2 < 0
      · exact ⟨-1, by simp [g2], fun h => by omega⟩
      · have f2 := f2 (by omega)
        rw [if_neg (by simpa using g2)]
        obtain ⟨y3, e3, f3⟩ := laws_szInstanceS_ok c.fInstances y2 h4 ⟨by omega, by omega⟩
        rw [e3, Option.bind_some, br_bool, s_lt]
        by_cases g3 : y3 < 0
        · exact ⟨-1, by simp [g3], fun h => by omega⟩
        · have f3 := f3 (by omega)
          exact ⟨y3, by simp [g3], fun _ => ⟨by omega, ⟨by omega, f1.2, f2.2.1, f3.2, f2.2.2⟩⟩⟩
def wfLb (a : TLibrary) : Prop := a.fCells.length ≤ maxLen ∧ ∀ c ∈ a.fCells, wfC c
/-- the size of a library: it fits, or the law says nothing -/
theorem laws_szLibrary_ok2 (a : TLibrary) (ha : wfLb a) : ∃ y, F_laws_szLibrary a 1048576 = some y ∧ (0 ≤ y → y ≤ 1048576 ∧ SmallL a) := by
  have hb := maxLen_eq
  unfold F_laws_szLibrary F_laws_szCellS
  rw [len_eq, subl_ok ha.1 ⟨by decide, by decide⟩, br_bool, s_lt]
  by_cases h : (1048576 : Int) - (a.fCells.length : Int) < 0
  · exact ⟨-1, by simp [h, br_bool, s_lt], fun h => by omega⟩
  · rw [if_neg (by simpa using h)]
    obtain ⟨r, h1, h2⟩ := while_sz (st := L_laws_szCellS_x3 a.fCells) a.fCells SmallC (1048576 - a.fCells.length) ⟨by omega, by omega⟩ (fun i hi y hy => by
      obtain ⟨z, hz, hz2⟩ := laws_szCell_ok (gd a.fCells i) y (ha.2 _ (gd_mem hi)) hy
      refine ⟨z, ?_⟩
      simp only [L_laws_szCellS_x3, letO_eq, s_toNn]
      have := ha.1
      rw [ltl_t hi, br_t, req_of (inRl hi), hz, Option.bind_some, br_bool, s_lt, inc_nat (by omega)]
      by_cases h0 : z < 0
      · exact .inl ⟨h0, by simp [h0]⟩
      · exact .inr ⟨by omega, (hz2 (by omega)).1, (hz2 (by omega)).2, by simp [h0]⟩) (fun y => by
      simp only [L_laws_szCellS_x3, letO_eq]
      rw [ltl_f, br_f])
    rw [h1, Option.bind_some]
    rcases h2 with rfl | ⟨z, rfl, h3, h4, h5⟩
    · exact ⟨-1, rfl, fun h => by omega⟩
    · refine ⟨z, ?_, fun _ => ⟨by omega, ⟨by omega, h5⟩⟩⟩
      simp only [letO_eq, Option.bind_some]
      rw [lt_false (by omega), br_f]
theorem laws_szLibrary_ok (a : TLibrary) (ha : wfLb a) : ∃ y, F_laws_szLibrary a 1048576 = some y ∧ (0 ≤ y → SmallL a) := by
  obtain ⟨y, h1, h2⟩ := laws_szLibrary_ok2 a ha
  exact ⟨y, h1, fun h => (h2 h).2⟩
-- nothing differs
theorem laws_eqRect_ok (a : TRect) : F_laws_eqRect a a = some true := by unfold F_laws_eqRect; simp [eq_true', s_not, br]
theorem laws_eqShape_ok (a : TShape) : F_laws_eqShape a a = some true := by unfold F_laws_eqShape; simp [eq_true', s_not, br, laws_eqRect_ok]
theorem laws_eqPoint_ok (a : TPoint) : F_laws_eqPoint a a = some true := by unfold F_laws_eqPoint; simp [eq_true', s_not, br]
theorem laws_eqLabel_ok (a : TLabel) : F_laws_eqLabel a a = some true := by unfold F_laws_eqLabel; simp [eq_true', s_not, br, laws_eqPoint_ok, seq_self]
theorem laws_eqTransform_ok (a : TTransform) : F_laws_eqTransform a a = some true := by unfold F_laws_eqTransform; simp [eq_true', s_not, br]
theorem laws_eqInstance_ok (a : TInstance) : F_laws_eqInstance a a = some true := by unfold F_laws_eqInstance; simp [eq_true', s_not, br, laws_eqTransform_ok]
theorem laws_eqShapeS_ok (l : List TShape) (h : l.length ≤ 10000000) : F_laws_eqShapeS l l = some true := by
  unfold F_laws_eqShapeS
  rw [notEq (eq_true' rfl), br_f]
  refine Eq.trans (bind_of (while_eq (r := .inr ()) l.length (fun i hi => ?_) ?_)) rfl
  · simp only [L_laws_eqShapeS_x2, letO_eq, s_toNn, laws_eqShape_ok, Option.bind_some]
    rw [ltl_t hi, br_t, req_of (inRl hi), req_of (inRl hi), inc_nat (by omega)]; rfl
  · simp only [L_laws_eqShapeS_x2, letO_eq]
    rw [ltl_f]; rfl
theorem laws_eqLabelS_ok (l : List TLabel) (h : l.length ≤ 10000000) : F_laws_eqLabelS l l = some true := by
  unfold F_laws_eqLabelS
  rw [notEq (eq_true' rfl), br_f]
  refine Eq.trans (bind_of (while_eq (r := .inr ()) l.length (fun i hi => ?_) ?_)) rfl
  · simp only [L_laws_eqLabelS_x2, letO_eq, s_toNn, laws_eqLabel_ok, Option.bind_some]
    rw [ltl_t hi, br_t, req_of (inRl hi), req_of (inRl hi), inc_nat (by omega)]; rfl
  · simp only [L_laws_eqLabelS_x2, letO_eq]
    rw [ltl_f]; rfl
theorem laws_eqInstanceS_ok (l : List TInstance) (h : l.length ≤ 10000000) : F_laws_eqInstanceS l l = some true := by
  unfold F_laws_eqInstanceS
  rw [notEq (eq_true' rfl), br_f]
  refine Eq.trans (bind_of (while_eq (r := .inr ()) l.length (fun i hi => ?_) ?_)) rfl
  · simp only [L_laws_eqInstanceS_x2, letO_eq, s_toNn, laws_eqInstance_ok, Option.bind_some]
    rw [ltl_t hi, br_t, req_of (inRl hi), req_of (inRl hi), inc_nat (by omega)]; rfl
  · simp only [L_laws_eqInstanceS_x2, letO_eq]
    rw [ltl_f]; rfl
theorem laws_eqCell_ok (c : TCell) (h : SmallC c) : F_laws_eqCell c c = some true := by
  unfold F_laws_eqCell
  rw [laws_eqShapeS_ok _ (by have := h.shapes; omega), laws_eqLabelS_ok _ (by have := h.labels; omega), laws_eqInstanceS_ok _ (by have := h.insts; omega)]
  simp [seq_self, s_not, br]
theorem laws_eqLibrary_ok (a : TLibrary) (h : SmallL a) : F_laws_eqLibrary a a = some true := by
  have hl := h.cells
  unfold F_laws_eqLibrary F_laws_eqCellS
  rw [notEq (eq_true' rfl), br_f]
  rw [bind_of (while_eq (st := L_laws_eqCellS_x2 a.fCells a.fCells) (r := .inr ()) a.fCells.length (fun i hi => ?_) ?_)]
  · rfl
  · simp only [L_laws_eqCellS_x2, letO_eq]
    rw [ltl_f]; rfl
  · simp only [L_laws_eqCellS_x2, letO_eq, s_toNn]
    rw [ltl_t hi, br_t, req_of (inRl hi), req_of (inRl hi), laws_eqCell_ok _ (h.cell _ (gd_mem hi)), inc_nat (by omega)]; rfl
noncomputable def okCell (c : TCell) (k : Int) : Bool := isName c.fName && (decide (c.fShapes.length ≤ 24) && (decide (c.fLabels.length ≤ 8) && (decide (c.fInstances.length ≤ 8) && (c.fShapes.all okShape && (c.fLabels.all okLabel && c.fInstances.all fun x => okInst x k)))))
theorem lt_lit (n : Nat) (k : Nat) : std.lt (k : Int) (std.ofN n) = !decide (n ≤ k) := by
  rw [s_lt, s_ofN]
  by_cases h : n ≤ k
  · have : ¬ ((k : Int) < (n : Int)) := by omega
    simp [h, this]
  · have : ((k : Int) < (n : Int)) := by omega
    simp [h, this]
theorem spec_l09Cell_ok (c : TCell) (k : Int) (h : SmallC c) : F_spec_l09Cell c k = some (okCell c k) := by
  have hb := maxLen_eq
  have e24 := lt_lit c.fShapes.length 24
  have e8 := lt_lit c.fLabels.length 8
  have e8' := lt_lit c.fInstances.length 8
  have s1 := h.shapes; have s2 := h.labels; have s3 := h.insts
  unfold F_spec_l09Cell okCell
  rw [spec_IsName_ok _ (by have := h.name; omega)]
  simp only [Option.bind_some, letO_eq, len_eq, show (24 : Int) = ((24 : Nat) : Int) from rfl, show (8 : Int) = ((8 : Nat) : Int) from rfl, e24, e8, e8']
  cases isName c.fName with
  | false => rfl
  | true =>
    cases decide (c.fShapes.length ≤ 24) with
    | false => rfl
    | true =>
      cases decide (c.fLabels.length ≤ 8) with
      | false => rfl
      | true =>
        cases decide (c.fInstances.length ≤ 8) with
        | false => rfl
        | true =>
          simp only [Bool.not_true, br_f, Option.bind_some, Bool.true_and]
          rw [bind_of (scan (ok := fun i => okShape (gd c.fShapes i)) (n := c.fShapes.length) (yes := .inr ()) (no := .inl false) (fun i hi => ?_) ?_), range_all]
          · cases c.fShapes.all okShape with
            | false => rfl
            | true =>
              simp only [if_true, Bool.true_and]
              rw [bind_of (scan (ok := fun i => okLabel (gd c.fLabels i)) (n := c.fLabels.length) (yes := .inr ()) (no := .inl false) (fun i hi => ?_) ?_), range_all]
              · cases c.fLabels.all okLabel with
                | false => rfl
                | true =>
                  simp only [if_true, Bool.true_and]
                  rw [bind_of (scan (ok := fun i => okInst (gd c.fInstances i) k) (n := c.fInstances.length) (yes := .inr ()) (no := .inl false) (fun i hi => ?_) ?_), range_all (fun x => okInst x k)]
                  · cases c.fInstances.all fun x => okInst x k <;> rfl
                  · simp only [L_spec_l09Cell_x52, letO_eq]
                    rw [ltl_f, br_f]
                  · simp only [L_spec_l09Cell_x52, letO_eq, s_toNn]
                    rw [ltl_t hi, br_t, req_of (inRl hi), spec_l09Instance_ok, Option.bind_some, inc_nat (by omega)]
                    cases okInst (gd c.fInstances i) k <;> rfl
              · simp only [L_spec_l09Cell_x33, letO_eq]
                rw [ltl_f, br_f]
              · simp only [L_spec_l09Cell_x33, letO_eq, s_toNn]
                rw [ltl_t hi, br_t, req_of (inRl hi), spec_l09Label_ok _ (by have := h.lnames _ (gd_mem hi); omega), Option.bind_some, inc_nat (by omega)]
                cases okLabel (gd c.fLabels i) <;> rfl
          · simp only [L_spec_l09Cell_x14, letO_eq]
            rw [ltl_f, br_f]
          · simp only [L_spec_l09Cell_x14, letO_eq, s_toNn]
            rw [ltl_t hi, br_t, req_of (inRl hi), spec_l09Shape_ok, Option.bind_some, inc_nat (by omega)]
            cases okShape (gd c.fShapes i) <;> rfl
/-- a loop that stops at the first element that is met -/
theorem scan_first {step : Int → Option (Int ⊕ (Int ⊕ Unit))} {p : Nat → Bool} {n : Nat} (h : ∀ i : Nat, i < n → step i = some (cond (p i) (.inr (.inl (i : Int))) (.inl ((i + 1 : Nat) : Int)))) (hn : step n = some (.inr (.inr ()))) :
    whileP step 0 = some (match (List.range n).find? p with | some i => .inl (i : Int) | none => .inr ()) := by
  have key : ∀ m i : Nat, i + m = n → whileP step i = some (match (List.range' i m).find? p with | some i => .inl (i : Int) | none => .inr ()) := by
    intro m
    induction m with
    | zero =>
      intro i hi
      have : i = n := by omega
      subst this
      rw [whileP_unfold, hn]; rfl
    | succ m ih =>
      intro i hi
      rw [whileP_unfold, h i (by omega)]
      cases hb : p i with
      | true => simp [List.range', hb]
      | false =>
        simp only [cond]
        rw [ih (i + 1) (by omega)]
        simp [List.range', hb]
  have := key n 0 (by omega)
  rw [List.range_eq_range']
  exact this
noncomputable def firstI (p : Nat → Bool) (n : Nat) : Int := match (List.range n).find? p with | some i => (i : Int) | none => -1
theorem firstI_any (p : Nat → Bool) (n : Nat) : std.le 0 (firstI p n) = (List.range n).any p := by
  unfold firstI
  cases h : (List.range n).find? p with
  | none =>
    rw [List.find?_eq_none] at h
    have : (List.range n).any p = false := by rw [List.any_eq_false]; exact h
    rw [this]; show std.le 0 (-1) = false; exact le_false (by omega)
  | some i =>
    have h1 := List.find?_some h
    have h2 := List.mem_of_find?_eq_some h
    have : (List.range n).any p = true := by rw [List.any_eq_true]; exact ⟨i, h2, h1⟩
    rw [this]; show std.le 0 (i : Int) = true; exact le_true (by omega)
theorem range_any {α : Type} [Inhabited α] (p : α → Bool) (l : List α) : (List.range l.length).any (fun i => !p (gd l i)) = !l.all p := by
  rw [← range_all p l, List.all_eq_not_any_not, Bool.not_not]
theorem containsShape (l : List TShape) (h : l.length ≤ 10000000) : F_slices_ContainsFunc_Limpl_Shape_impl_Shape_mbFimpl_validCell_1 l = some (!l.all okShape) := by
  unfold F_slices_ContainsFunc_Limpl_Shape_impl_Shape_mbFimpl_validCell_1 F_slices_IndexFunc_Limpl_Shape_impl_Shape_mbFimpl_validCell_1
  rw [bind_of (scan_first (p := fun i => !okShape (gd l i)) (n := l.length) (fun i hi => ?_) ?_)]
  · rw [← range_any okShape l, ← firstI_any]
    unfold firstI
    cases (List.range l.length).find? (fun i => !okShape (gd l i)) <;> rfl
  · simp only [L_slices_IndexFunc_Limpl_Shape_impl_Shape_mbFimpl_validCell_1_x2, letO_eq]
    rw [ltl_f, br_f]
  · simp only [L_slices_IndexFunc_Limpl_Shape_impl_Shape_mbFimpl_validCell_1_x2, letO_eq, s_toNn, F_impl_validCell_1]
    rw [ltl_t hi, br_t, req_of (inRl hi), impl_validShape_ok, Option.bind_some, Option.bind_some, inc_nat (by omega)]
    cases okShape (gd l i) <;> rfl
theorem containsLabel (l : List TLabel) (h : l.length ≤ 10000000) (hn : ∀ x ∈ l, x.fName.size ≤ maxLen) : F_slices_ContainsFunc_Limpl_Label_impl_Label_mbFimpl_validCell_2 l = some (!l.all okLabel) := by
  unfold F_slices_ContainsFunc_Limpl_Label_impl_Label_mbFimpl_validCell_2 F_slices_IndexFunc_Limpl_Label_impl_Label_mbFimpl_validCell_2
  rw [bind_of (scan_first (p := fun i => !okLabel (gd l i)) (n := l.length) (fun i hi => ?_) ?_)]
  · rw [← range_any okLabel l, ← firstI_any]
    unfold firstI
    cases (List.range l.length).find? (fun i => !okLabel (gd l i)) <;> rfl
  · simp only [L_slices_IndexFunc_Limpl_Label_impl_Label_mbFimpl_validCell_2_x2, letO_eq]
    rw [ltl_f, br_f]
  · simp only [L_slices_IndexFunc_Limpl_Label_impl_Label_mbFimpl_validCell_2_x2, letO_eq, s_toNn, F_impl_validCell_2]
    rw [ltl_t hi, br_t, req_of (inRl hi), impl_validLabel_ok _ (hn _ (gd_mem hi)), Option.bind_some, Option.bind_some, inc_nat (by omega)]
    cases okLabel (gd l i) <;> rfl
theorem containsInst (l : List TInstance) (k : Int) (h : l.length ≤ 10000000) : F_slices_ContainsFunc_Limpl_Instance_impl_Instance_mbFimpl_validCell_3p l k = some (!l.all fun x => okInst x k) := by
  unfold F_slices_ContainsFunc_Limpl_Instance_impl_Instance_mbFimpl_validCell_3p F_slices_IndexFunc_Limpl_Instance_impl_Instance_mbFimpl_validCell_3p
  rw [bind_of (scan_first (p := fun i => !okInst (gd l i) k) (n := l.length) (fun i hi => ?_) ?_)]
  · rw [← range_any (fun x => okInst x k) l, ← firstI_any]
    unfold firstI
    cases (List.range l.length).find? (fun i => !okInst (gd l i) k) <;> rfl
  · simp only [L_slices_IndexFunc_Limpl_Instance_impl_Instance_mbFimpl_validCell_3p_x2, letO_eq]
    rw [ltl_f, br_f]
  · simp only [L_slices_IndexFunc_Limpl_Instance_impl_Instance_mbFimpl_validCell_3p_x2, letO_eq, s_toNn, F_impl_validCell_3_mbp]
    rw [ltl_t hi, br_t, req_of (inRl hi), impl_validInstance_ok, Option.bind_some, Option.bind_some, inc_nat (by omega)]
    cases okInst (gd l i) k <;> rfl
theorem impl_validCell_ok (c : TCell) (k : Int) (h : SmallC c) : F_impl_validCell c k = some (okCell c k) := by
  have hb := maxLen_eq
  have e24 := lt_lit c.fShapes.length 24
  have e8 := lt_lit c.fLabels.length 8
  have e8' := lt_lit c.fInstances.length 8
  unfold F_impl_validCell okCell
  rw [impl_IsName_ok _ (by have := h.name; omega), containsShape _ (by have := h.shapes; omega), containsLabel _ (by have := h.labels; omega) (fun x hx => by have := h.lnames x hx; omega), containsInst _ _ (by have := h.insts; omega)]
  simp only [Option.bind_some, letO_eq, len_eq, show (24 : Int) = ((24 : Nat) : Int) from rfl, show (8 : Int) = ((8 : Nat) : Int) from rfl, e24, e8, e8']
  cases isName c.fName <;> cases decide (c.fShapes.length ≤ 24) <;> cases decide (c.fLabels.length ≤ 8) <;> cases decide (c.fInstances.length ≤ 8) <;> cases c.fShapes.all okShape <;> cases c.fLabels.all okLabel <;> cases (c.fInstances.all fun x => okInst x k) <;> rfl
/-- the first cell with this name -/
noncomputable def namedI (l : List TCell) (s : ByteArray) : Int := firstI (fun i => std.seq (gd l i).fName s) l.length
theorem impl_named_ok (a : TLibrary) (s : ByteArray) (h : a.fCells.length ≤ 10000000) : F_impl_named a s = some (namedI a.fCells s) := by
  unfold F_impl_named F_slices_IndexFunc_Limpl_Cell_impl_Cell_mbFimpl_named_1p
  rw [bind_of (scan_first (p := fun i => std.seq (gd a.fCells i).fName s) (n := a.fCells.length) (fun i hi => ?_) ?_)]
  · unfold namedI firstI
    cases (List.range a.fCells.length).find? (fun i => std.seq (gd a.fCells i).fName s) <;> rfl
  · simp only [L_slices_IndexFunc_Limpl_Cell_impl_Cell_mbFimpl_named_1p_x2, letO_eq]
    rw [ltl_f, br_f]
  · simp only [L_slices_IndexFunc_Limpl_Cell_impl_Cell_mbFimpl_named_1p_x2, letO_eq, s_toNn, F_impl_named_1_mbp]
    rw [ltl_t hi, br_t, req_of (inRl hi), Option.bind_some, inc_nat (by omega)]
    cases std.seq (gd a.fCells i).fName s <;> rfl
/-- no cell ahead of k has its name -/
noncomputable def fresh (l : List TCell) (k : Nat) : Bool := (List.range k).all fun j => !std.seq (gd l j).fName (gd l k).fName
theorem find_first (p : Nat → Bool) (n k : Nat) (hk : k < n) (hp : p k = true) : (List.range n).find? p = some k ↔ (List.range k).all (fun j => !p j) = true := by
  rw [List.all_eq_true, List.find?_eq_some_iff_append]
  constructor
  · rintro ⟨h1, l1, l2, h2, h3⟩ j hj
    apply h3
    have hlen : l1.length = k := by
      have h4 : (List.range n)[l1.length]? = some k := by rw [h2]; simp
      have hlt : l1.length < n := by
        have := (List.getElem?_eq_some_iff.1 h4).1
        simpa using this
      rw [List.getElem?_range hlt] at h4
      injection h4
    have h5 : l1 = List.range k := by
      have := congrArg (List.take l1.length) h2
      rw [List.take_left', List.take_range] at this
      · rw [← this, hlen]; congr 1; omega
      · rfl
    rw [h5]; exact hj
  · intro h
    refine ⟨hp, List.range k, List.range' (k + 1) (n - (k + 1)), ?_, fun j hj => h j hj⟩
    rw [List.range_eq_range', List.range_eq_range', show n = k + (1 + (n - (k + 1))) by omega, ← List.range'_append_1, Nat.add_comm 1, List.range'_succ]
    simp
    omega
theorem named_first (l : List TCell) (k : Nat) (hk : k < l.length) : std.eq (namedI l (gd l k).fName) (k : Int) = fresh l k := by
  rw [s_eq, Bool.eq_iff_iff]
  unfold fresh
  rw [← find_first (fun i => std.seq (gd l i).fName (gd l k).fName) l.length k hk (seq_self _)]
  unfold namedI firstI
  cases h : (List.range l.length).find? (fun i => std.seq (gd l i).fName (gd l k).fName) with
  | none => simp
  | some i => simp; omega
noncomputable def okLib (a : TLibrary) : Bool := decide (1 ≤ a.fCells.length) && (decide (a.fCells.length ≤ 8) && (List.range a.fCells.length).all fun k => okCell (gd a.fCells k) k && fresh a.fCells k)
theorem lt_one (n : Nat) : std.lt (std.ofN n) 1 = !decide (1 ≤ n) := by
  rw [s_lt, s_ofN]
  by_cases h : 1 ≤ n
  · have : ¬ ((n : Int) < 1) := by omega
    simp [h, this]
  · have : ((n : Int) < 1) := by omega
    simp [h, this]
theorem spec_IsValidLibrary_ok (a : TLibrary) (h : SmallL a) : F_spec_IsValidLibrary a = some (okLib a) := by
  have hl := h.cells
  have e8 := lt_lit a.fCells.length 8
  unfold F_spec_IsValidLibrary okLib
  simp only [letO_eq, len_eq, show (8 : Int) = ((8 : Nat) : Int) from rfl, e8, lt_one]
  cases decide (1 ≤ a.fCells.length) with
  | false => rfl
  | true =>
    cases decide (a.fCells.length ≤ 8) with
    | false => rfl
    | true =>
      simp only [Bool.not_true, br_f, Option.bind_some, Bool.true_and]
      rw [bind_of (scan (ok := fun k => okCell (gd a.fCells k) k && fresh a.fCells k) (n := a.fCells.length) (yes := .inr ()) (no := .inl false) (fun i hi => ?_) ?_)]
      · cases (List.range a.fCells.length).all fun k => okCell (gd a.fCells k) k && fresh a.fCells k <;> rfl
      · simp only [L_spec_IsValidLibrary_x10, letO_eq]
        rw [ltl_f, br_f]
      · simp only [L_spec_IsValidLibrary_x10, letO_eq, s_toNn]
        rw [ltl_t hi, br_t, req_of (inRl hi), spec_l09Cell_ok _ _ (h.cell _ (gd_mem hi)), Option.bind_some, inc_nat (by omega)]
        cases okCell (gd a.fCells i) (i : Int) with
        | false => rfl
        | true =>
          simp only [Bool.not_true, br_f, Bool.true_and]
          rw [bind_of (scan (ok := fun j => !std.seq (gd a.fCells j).fName (gd a.fCells i).fName) (n := i) (yes := .inr ()) (no := .inl false) (fun j hj => ?_) ?_)]
          · unfold fresh
            cases (List.range i).all fun j => !std.seq (gd a.fCells j).fName (gd a.fCells i).fName <;> rfl
          · simp only [L_spec_IsValidLibrary_x26, letO_eq]
            rw [lt_false (by omega), br_f]
          · simp only [L_spec_IsValidLibrary_x26, letO_eq, s_toNn]
            rw [lt_true (by omega), br_t, req_of (inRl (by omega)), req_of (inRl hi), inc_nat (by omega)]
            cases std.seq (gd a.fCells j).fName (gd a.fCells i).fName <;> rfl
theorem impl_IsValidLibrary_ok (a : TLibrary) (h : SmallL a) : F_impl_IsValidLibrary a = some (okLib a) := by
  have hl := h.cells
  have e8 := lt_lit a.fCells.length 8
  unfold F_impl_IsValidLibrary okLib
  simp only [letO_eq, len_eq, show (8 : Int) = ((8 : Nat) : Int) from rfl, e8, lt_one]
  cases decide (1 ≤ a.fCells.length) with
  | false => rfl
  | true =>
    cases decide (a.fCells.length ≤ 8) with
    | false => rfl
    | true =>
      simp only [Bool.not_true, br_f, Option.bind_some, Bool.true_and]
      rw [bind_of (scan (ok := fun k => okCell (gd a.fCells k) k && fresh a.fCells k) (n := a.fCells.length) (yes := .inr ()) (no := .inl false) (fun i hi => ?_) ?_)]
      · cases (List.range a.fCells.length).all fun k => okCell (gd a.fCells k) k && fresh a.fCells k <;> rfl
      · simp only [L_impl_IsValidLibrary_x10, letO_eq]
        rw [ltl_f, br_f]
      · simp only [L_impl_IsValidLibrary_x10, letO_eq, s_toNn]
        rw [ltl_t hi, br_t, req_of (inRl hi), impl_validCell_ok _ _ (h.cell _ (gd_mem hi)), Option.bind_some, inc_nat (by omega)]
        cases okCell (gd a.fCells i) (i : Int) with
        | false => rfl
        | true =>
          simp only [Bool.not_true, br_f, Bool.true_and]
          rw [impl_named_ok _ _ (show a.fCells.length ≤ 10000000 by omega), Option.bind_some, named_first _ _ hi]
          cases fresh a.fCells i <;> rfl
theorem spec_l09Has_ok (a : TLibrary) (k : Int) (h : SmallL a) : F_spec_l09Has a k = some (okLib a && wB k 0 ((a.fCells.length : Int) - 1)) := by
  have hl := h.cells
  unfold F_spec_l09Has
  rw [spec_IsValidLibrary_ok _ h]
  simp only [Option.bind_some, letO_eq, s_ofN, len_eq]
  rw [sub_id (by omega) (by omega), spec_l09In_ok]
  cases okLib a <;> rfl
theorem impl_hasCell_ok (a : TLibrary) (k : Int) (h : SmallL a) : F_impl_hasCell a k = some (okLib a && wB k 0 ((a.fCells.length : Int) - 1)) := by
  have hl := h.cells
  unfold F_impl_hasCell
  rw [impl_IsValidLibrary_ok _ h]
  simp only [Option.bind_some, letO_eq, s_ofN, len_eq]
  rw [sub_id (by omega) (by omega), impl_within_ok]
  cases okLib a <;> rfl
/- moving points and rectangles; the boxes around rectangles -/
noncomputable def rot : Nat → Int × Int → Int × Int
  | 0, p => p
  | k + 1, p => rot k (std.sub .i64 0 p.2, p.1)
noncomputable def mvP (t : TTransform) (p : TPoint) : TPoint :=
  let q := rot (std.rem t.fOrientation 4).toNat (p.fX, if 4 ≤ t.fOrientation then std.sub .i64 0 p.fY else p.fY)
  ⟨std.add .i64 q.1 t.fX, std.add .i64 q.2 t.fY⟩
noncomputable def mvR (t : TTransform) (r : TRect) : TRect :=
  let a := mvP t ⟨r.fX0, r.fY0⟩
  let b := mvP t ⟨r.fX1, r.fY1⟩
  ⟨std.imin a.fX b.fX, std.imin a.fY b.fY, std.imax a.fX b.fX, std.imax a.fY b.fY⟩
noncomputable def elP (x : TInstance) (c r : Int) : TTransform := ⟨x.fPlace.fOrientation, std.add .i64 x.fPlace.fX (std.mul .i64 c x.fStepX), std.add .i64 x.fPlace.fY (std.mul .i64 r x.fStepY)⟩
/-- the places of an instance's elements, row by row -/
noncomputable def elRow (x : TInstance) (r : Nat) : List TTransform := (List.range x.fColumns.toNat).map fun c : Nat => elP x c r
noncomputable def elsOf (x : TInstance) : List TTransform := (List.range x.fRows.toNat).flatMap (elRow x)
/-- the smallest rectangle around two -/
noncomputable def hull (a b : TRect) : TRect := ⟨std.imin a.fX0 b.fX0, std.imin a.fY0 b.fY0, std.imax a.fX1 b.fX1, std.imax a.fY1 b.fY1⟩
noncomputable def bxs : List TRect → TRect
  | [] => ⟨0, 0, 0, 0⟩
  | a :: l => l.foldl hull a
/-- the content of a cell by itself -/
noncomputable def unitR (p : TPoint) : TRect := ⟨p.fX, p.fY, std.add .i64 p.fX 1, std.add .i64 p.fY 1⟩
noncomputable def own (c : TCell) : List TRect := c.fShapes.map (fun s => s.fBox) ++ c.fLabels.map fun l => unitR l.fAt
/- the elements of instances; the content boxes of cells, both sides -/
theorem wB_iffG (a b c : Int) : wB a b c = true ↔ b ≤ a ∧ a ≤ c := by
  unfold wB
  rw [s_le, s_le, Bool.and_eq_true, decide_eq_true_eq, decide_eq_true_eq]
structure VI (x : TInstance) (k : Nat) : Prop where
  cell : ∃ c : Nat, x.fCell = (c : Int) ∧ c < k
  cols : ∃ n : Nat, x.fColumns = (n : Int) ∧ 1 ≤ n ∧ n ≤ 4
  rows : ∃ n : Nat, x.fRows = (n : Int) ∧ 1 ≤ n ∧ n ≤ 4
  px : -80 ≤ x.fPlace.fX ∧ x.fPlace.fX ≤ 80
  py : -80 ≤ x.fPlace.fY ∧ x.fPlace.fY ≤ 80
  ori : 0 ≤ x.fPlace.fOrientation ∧ x.fPlace.fOrientation ≤ 7
  sx : -80 ≤ x.fStepX ∧ x.fStepX ≤ 80
  sy : -80 ≤ x.fStepY ∧ x.fStepY ≤ 80
theorem vi_of {x : TInstance} {k : Nat} (hk : k ≤ 1000000) (h : okInst x k = true) : VI x k := by
  unfold okInst okTr at h
  rw [sub_id (by omega) (by omega)] at h
  simp only [Bool.and_eq_true, wB_iffG] at h
  obtain ⟨h1, ⟨h2, h3, h4⟩, h5, h6, h7, h8, _⟩ := h
  exact ⟨⟨x.fCell.toNat, by omega, by omega⟩, ⟨x.fColumns.toNat, by omega, by omega, by omega⟩, ⟨x.fRows.toNat, by omega, by omega, by omega⟩, h3, h4, h2, h7, h8⟩
structure VC (c : TCell) (k : Nat) : Prop where
  shapes : c.fShapes.length ≤ 24
  labels : c.fLabels.length ≤ 8
  insts : c.fInstances.length ≤ 8
  shape : ∀ s ∈ c.fShapes, okShape s = true
  label : ∀ l ∈ c.fLabels, okLabel l = true
  inst : ∀ x ∈ c.fInstances, VI x k
theorem vc_of {a : TLibrary} (h : okLib a = true) {k : Nat} (hk : k < a.fCells.length) : VC (gd a.fCells k) k := by
  unfold okLib at h
  simp only [Bool.and_eq_true, decide_eq_true_eq, List.all_eq_true, List.mem_range] at h
  have h1 := (h.2.2 k hk).1
  have h2 := h.2.1
  unfold okCell at h1
  simp only [Bool.and_eq_true, decide_eq_true_eq, List.all_eq_true] at h1
  obtain ⟨_, g2, g3, g4, g5, g6, g7⟩ := h1
  exact ⟨g2, g3, g4, g5, g6, fun x hx => vi_of (by omega) (g7 x hx)⟩
theorem okLib_leG {a : TLibrary} (h : okLib a = true) : 1 ≤ a.fCells.length ∧ a.fCells.length ≤ 8 := by
  unfold okLib at h
  simp only [Bool.and_eq_true, decide_eq_true_eq] at h
  exact ⟨h.1, h.2.1⟩
/-- the boxes of the elements of an instance -/
noncomputable def part (prev : List (List TRect)) (x : TInstance) : List TRect := (elsOf x).flatMap fun t => (gd prev x.fCell.toNat).map (mvR t)
noncomputable def allOf (prev : List (List TRect)) (c : TCell) : List TRect := own c ++ c.fInstances.flatMap (part prev)
noncomputable def one (l : List TRect) : List TRect := if l = [] then [] else [bxs l]
noncomputable def boxesN (cs : List TCell) : Nat → List (List TRect)
  | 0 => []
  | k + 1 => boxesN cs k ++ [one (allOf (boxesN cs k) (gd cs k))]
theorem wfC_of {c : TCell} (h : wfCell c) : wfC c := ⟨h.1, h.2.1.1, h.2.2.1.1, h.2.2.2.1, fun l hl => (h.2.2.1.2 l hl).2.2⟩
theorem wfLb_of {a : TLibrary} (h : wfLibrary a) : wfLb a := ⟨h.1, fun c hc => wfC_of (h.2 c hc)⟩
/- CellBox and InstanceBox -/
noncomputable def boxV (a : TLibrary) (k : Nat) : List TRect := gd (boxesN a.fCells a.fCells.length) k
noncomputable def hasC (a : TLibrary) (k : Int) : Bool := okLib a && wB k 0 ((a.fCells.length : Int) - 1)
theorem hasC_iff {a : TLibrary} {k : Int} (h : hasC a k = true) : okLib a = true ∧ ∃ n : Nat, k = (n : Int) ∧ n < a.fCells.length := by
  unfold hasC at h
  rw [Bool.and_eq_true, wB_iffG] at h
  have h8 := okLib_leG h.1
  exact ⟨h.1, k.toNat, by omega, by omega⟩
noncomputable def zR : TRect := ⟨0, 0, 0, 0⟩
end Go.Proofs.YtfhkecbopidgiaaDoor.AM
