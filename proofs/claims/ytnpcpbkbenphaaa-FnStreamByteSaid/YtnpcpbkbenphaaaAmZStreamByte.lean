/-
  What the functions that the law reaches compute, and that they do. No condition.
-/
import Derived.Test.YtnpcpbkbenphaaaAmSY
import Derived.Test.YtnpcpbkbenphaaaAmE
import Derived.Test.YtnpcpbkbenphaaaAmSZ
namespace Go.Proofs.Ytnpcpbkbenphaaa.AM
open Go Go.Proofs Go.RowKit
set_option linter.unusedVariables false
set_option linter.unusedSimpArgs false
set_option maxRecDepth 100000

theorem op_5 (d : Nat) : Opens T (d + 1) 5 (clI .u8) (wfI .u8) := op_int .u8 (show T 5 = some d5 from rfl) rfl
theorem op_22 (d : Nat) : Opens T (d + 2) 22 (clL 1 (encI .u8)) (wfL (wfI .u8)) := op_slice (e := 5) (sz := 1) (show T 22 = some d22 from rfl) rfl (show T 5 = some d5 from rfl) rfl (fun x j hj => by match j, hj with | 0, _ => rfl | (j_ + 1), h_ => exact absurd h_ (by omega)) (op_5 d)
theorem open_22 {H : Type} {enc : TypeId × Value → H} {W : World} {spare : Nat → Bool} {held : Bool} {r : Reach} {base : Nat} {v : Value} {x : DataW H} {ps : List MemPlace}
    (hv : Value.okWide Try.prog W r base 22 v) (h : DataW.Trod enc Try.prog W 0 spare held 22 v x ps) : ∃ e : List Int, (wfL (wfI .u8)) e ∧ RelV (RelI (fun b => b < W.heap.size) W) (.c (.bs (len e) 1 (row gd (encI .u8) e))) v := by
  refine opened_one tok (op_22 0) (fun _ => rfl) (by kernel_rfl) ?_ h
  have ht : Try.prog.underlying 22 = some (.slice 5) := (tok 22 d22 rfl).1
  unfold Value.okWide at hv
  rw [ht] at hv
  cases v <;> first | rfl | exact False.elim hv
/- reading fields that were written -/
theorem oneB_id {x : Int} (h : 0 ≤ x ∧ x ≤ 255) : oneB x = [x] := by
  show [std.conv .u8 x] = [x]
  rw [conv8_eq, Int.emod_eq_of_lt (by omega) (by omega)]
theorem rd_byte {b : Int} (hb : 0 ≤ b ∧ b ≤ 255) (l : List Int) (z : Bool) : F_impl_byteReader_one_mPb ⟨ofL (b :: l), z⟩ = some (b, ⟨ofL l, z⟩) := by
  unfold F_impl_byteReader_one_mPb
  have hl : std.slen (ofL (b :: l)) = l.length + 1 := by rw [ofL_len]; rfl
  have g0 : gd (b :: l) 0 = b := rfl
  have hs : std.sat (ofL (b :: l)) 0 = b := by rw [ofL_sat (by simp) (by rw [g0]; exact hb), g0]
  have he : std.ssub (ofL (b :: l)) 1 (std.slen (ofL (b :: l))) = ofL l := by
    have h1 := ssub_app (ofL [b]) (ofL l)
    rw [ofL_app, ofL_size] at h1
    exact h1
  simp only
  rw [hl, lt_false (by rw [s_ofN]; omega), br_f, req_of (show std.inR 0 (l.length + 1) from ⟨by omega, by omega⟩), req_of (show std.upTo 1 (l.length + 1) from ⟨by omega, by omega⟩), show std.toN 0 = 0 from rfl, show std.toN 1 = 1 from rfl, hs, conv64 (by omega), ← hl, he]
theorem rd_one {x : Int} (h : 0 ≤ x ∧ x ≤ 255) (l : List Int) (z : Bool) : F_impl_byteReader_one_mPb ⟨ofL (oneB x ++ l), z⟩ = some (x, ⟨ofL l, z⟩) := by
  rw [oneB_id h]; exact rd_byte h l z
theorem shr8' {x : Int} : std.shr .i64 x 8 = x / 256 := shr8 x
theorem rd_two {x : Int} (h : 0 ≤ x ∧ x ≤ 65535) (l : List Int) (z : Bool) : F_impl_byteReader_two_mPb ⟨ofL (twoR x ++ l), z⟩ = some (x, ⟨ofL l, z⟩) := by
  have e : twoR x = [x / 256, x % 256] := by
    unfold twoR
    rw [conv8_eq, conv8_eq, shr8', Int.emod_eq_of_lt (show 0 ≤ x / 256 by omega) (by omega)]
  unfold F_impl_byteReader_two_mPb
  rw [e, List.cons_append, List.cons_append, List.nil_append, rd_byte (by omega), Option.bind_some]
  simp only
  rw [req_of (by rw [s_nneg]; omega), rd_byte (by omega), Option.bind_some]
  have := num2 (a := x / 256) (b := x % 256) (by omega) (by omega)
  rw [conv64 (by omega), conv64 (by omega)] at this
  simp only [this]
  rw [show x / 256 * 256 + x % 256 = x by omega]
theorem rd_coord {x : Int} (h : -32768 ≤ x ∧ x ≤ 32767) (l : List Int) (z : Bool) : F_impl_byteReader_coordinate_mPb ⟨ofL (twoB x ++ l), z⟩ = some (x, ⟨ofL l, z⟩) := by
  unfold F_impl_byteReader_coordinate_mPb twoB
  rw [add_id (by omega) (by omega), rd_two (by omega), Option.bind_some]
  simp only
  rw [sub_id (by omega) (by omega), show x + 32768 - 32768 = x by omega]
theorem rd_name {s : ByteArray} (h : s.size ≤ 255) (l : List Int) (z : Bool) : F_impl_byteReader_name_mPb ⟨ofL (nameB s ++ l), z⟩ = some (s, ⟨ofL l, z⟩) := by
  unfold F_impl_byteReader_name_mPb nameB
  rw [List.append_assoc, s_ofN, s_slen, rd_one (by omega), Option.bind_some]
  simp only
  have e : ofL (strL s ++ l) = std.scat s (ofL l) := by rw [← ofL_app, ofL_str]
  rw [e]
  have hl : std.slen (std.scat s (ofL l)) = s.size + l.length := by rw [s_slen, scat_size, ofL_size]
  have hu : std.upTo ((s.size : Nat) : Int) (std.slen (std.scat s (ofL l))) := ⟨by omega, by rw [hl]; omega⟩
  rw [lt_false (by rw [s_ofN, hl]; omega), br_f, req_of hu, req_of hu, s_toNn, ssub_tail, ssub_head]
theorem rd_shape {s : TShape} (h : okShape s = true) (l : List Int) (z : Bool) : F_impl_byteReader_shape_mPb ⟨ofL (shapeB s ++ l), z⟩ = some (s, ⟨ofL l, z⟩) := by
  unfold okShape okRect at h
  simp only [Bool.and_eq_true, wB_iff', s_le, s_lt, decide_eq_true_eq] at h
  unfold F_impl_byteReader_shape_mPb shapeB
  simp only [List.flatMap_cons, List.flatMap_nil, List.append_nil, List.append_assoc]
  rw [rd_one (by omega), Option.bind_some]
  simp only
  rw [rd_coord (by omega), Option.bind_some]
  simp only
  rw [rd_coord (by omega), Option.bind_some]
  simp only
  rw [rd_coord (by omega), Option.bind_some]
  simp only
  rw [rd_coord (by omega), Option.bind_some]
theorem rd_label {s : TLabel} (h : okLabel s = true) (l : List Int) (z : Bool) : F_impl_byteReader_label_mPb ⟨ofL (labelB s ++ l), z⟩ = some (s, ⟨ofL l, z⟩) := by
  unfold okLabel okPoint at h
  simp only [Bool.and_eq_true, wB_iff'] at h
  have hn := isName_size h.2.2
  unfold F_impl_byteReader_label_mPb labelB
  simp only [List.flatMap_cons, List.flatMap_nil, List.append_nil, List.append_assoc]
  rw [rd_one (by omega), Option.bind_some]
  simp only
  rw [rd_coord (by omega), Option.bind_some]
  simp only
  rw [rd_coord (by omega), Option.bind_some]
  simp only
  rw [rd_name (by omega), Option.bind_some]
theorem rd_place {x : TInstance} {k : Int} (hk : 0 ≤ k ∧ k ≤ 1000) (h : okInst x k = true) (l : List Int) (z : Bool) : F_impl_byteReader_instance_mPb ⟨ofL (placeB x ++ l), z⟩ = some (⟨0, x.fPlace, x.fColumns, x.fRows, x.fStepX, x.fStepY⟩, ⟨ofL l, z⟩) := by
  unfold okInst okTr at h
  simp only [Bool.and_eq_true, wB_iff'] at h
  unfold F_impl_byteReader_instance_mPb placeB
  simp only [List.flatMap_cons, List.flatMap_nil, List.append_nil, List.append_assoc]
  rw [rd_one (by omega), Option.bind_some]
  simp only
  rw [rd_coord (by omega), Option.bind_some]
  simp only
  rw [rd_coord (by omega), Option.bind_some]
  simp only
  rw [rd_one (by omega), Option.bind_some]
  simp only
  rw [rd_one (by omega), Option.bind_some]
  simp only
  rw [rd_coord (by omega), Option.bind_some]
  simp only
  rw [rd_coord (by omega), Option.bind_some]
theorem whole_ok : F_impl_streamReader_take_1_mPP ⟨ofL [], false⟩ = some (true, ⟨ofL [], false⟩, ⟨ofL [], false⟩) := by
  unfold F_impl_streamReader_take_1_mPP
  have e : std.seq (ofL []) (ByteArray.mk #[]) = true := seq_self _
  simp only [Bool.not_false, br_t, e, Option.bind_some, letO_eq]
/- taking records, one kind after the other -/
theorem poss_head {st : TstreamReader} (hb : st.gbegun = false) (hd : st.gdone = false) : F_impl_streamReader_possible_mpb st 1 = some true := by
  unfold F_impl_streamReader_possible_mpb
  rw [hd, br_f, hb, Bool.not_false, br_t, eq_true' rfl]
theorem poss_cell {st : TstreamReader} (hb : st.gbegun = true) (hd : st.gdone = false) (hi : st.ginside = false) (hl : (st.glib.fCells.length : Int) < st.gcells) : F_impl_streamReader_possible_mpb st 2 = some true := by
  unfold F_impl_streamReader_possible_mpb
  rw [hd, br_f, hb, Bool.not_true, br_f, hi, Bool.not_false, br_t, lt_true (by rw [s_ofN, len_eq]; exact hl), Option.bind_some]
  simp only [letO_eq, br_t]
  rw [eq_true' rfl]
theorem poss_in {st : TstreamReader} (hb : st.gbegun = true) (hd : st.gdone = false) (hi : st.ginside = true) (k : Int)
    (h : (k = 3 ∧ st.gcell.fLabels = [] ∧ st.gcell.fInstances = []) ∨ (k = 4 ∧ st.gcell.fInstances = []) ∨ k = 5 ∨ k = 6) : F_impl_streamReader_possible_mpb st k = some true := by
  unfold F_impl_streamReader_possible_mpb
  rw [hd, br_f, hb, Bool.not_true, br_f, hi, Bool.not_true, br_f, Option.bind_some]
  simp only [letO_eq, br_f]
  rcases h with ⟨rfl, h1, h2⟩ | ⟨rfl, h2⟩ | rfl | rfl
  · rw [h1, h2]; rfl
  · rw [h2]; rfl
  · rfl
  · rfl
theorem poss_end {st : TstreamReader} (hb : st.gbegun = true) (hd : st.gdone = false) (hi : st.ginside = false) (hl : (st.glib.fCells.length : Int) = st.gcells) : F_impl_streamReader_possible_mpb st 7 = some true := by
  unfold F_impl_streamReader_possible_mpb
  rw [hd, br_f, hb, Bool.not_true, br_f, hi, Bool.not_false, br_t, lt_false (by rw [s_ofN, len_eq]; omega), Option.bind_some]
  simp only [letO_eq, br_f, br_t]
  rw [eq_true' rfl]
theorem roomP {n b : Nat} (hn : n ≤ 10000000) (hb : b ≤ 1000) : std.room n b := by
  rw [s_room]
  exact Nat.le_trans (Nat.mul_le_mul hn hb) (by omega)
theorem e11 : std.eq 1 1 = true := rfl
theorem e21 : std.eq 2 1 = false := rfl
theorem e22 : std.eq 2 2 = true := rfl
theorem e31 : std.eq 3 1 = false := rfl
theorem e32 : std.eq 3 2 = false := rfl
theorem e33 : std.eq 3 3 = true := rfl
theorem e41 : std.eq 4 1 = false := rfl
theorem e42 : std.eq 4 2 = false := rfl
theorem e43 : std.eq 4 3 = false := rfl
theorem e44 : std.eq 4 4 = true := rfl
theorem e51 : std.eq 5 1 = false := rfl
theorem e52 : std.eq 5 2 = false := rfl
theorem e53 : std.eq 5 3 = false := rfl
theorem e54 : std.eq 5 4 = false := rfl
theorem e55 : std.eq 5 5 = true := rfl
theorem e61 : std.eq 6 1 = false := rfl
theorem e62 : std.eq 6 2 = false := rfl
theorem e63 : std.eq 6 3 = false := rfl
theorem e64 : std.eq 6 4 = false := rfl
theorem e65 : std.eq 6 5 = false := rfl
theorem e66 : std.eq 6 6 = true := rfl
theorem e71 : std.eq 7 1 = false := rfl
theorem e72 : std.eq 7 2 = false := rfl
theorem e73 : std.eq 7 3 = false := rfl
theorem e74 : std.eq 7 4 = false := rfl
theorem e75 : std.eq 7 5 = false := rfl
theorem e76 : std.eq 7 6 = false := rfl
theorem e77 : std.eq 7 7 = true := rfl
set_option maxHeartbeats 2000000 in
theorem take_head {st : TstreamReader} (hb : st.gbegun = false) (hd : st.gdone = false) {n : Nat} (hn : 1 ≤ n ∧ n ≤ 8) (pre : ByteArray) :
    F_impl_streamReader_take_mPoooobbb st 1 (ofL [1, std.conv .u8 (n : Int)]) pre = some (0, ⟨true, st.gdone, (n : Int), st.ginside, st.gcell, st.glib⟩) := by
  have hw : wB (n : Int) 1 8 = true := (wB_iff' _ _ _).2 (by omega)
  have h1 := rd_byte (b := 1) (by omega) [std.conv .u8 (n : Int)] false
  have h2 := rd_one (x := (n : Int)) (by omega) [] false
  have h2' : F_impl_byteReader_one_mPb ⟨ofL [std.conv .u8 (n : Int)], false⟩ = some ((n : Int), ⟨ofL [], false⟩) := h2
  unfold F_impl_streamReader_take_mPoooobbb
  rw [poss_head hb hd, Option.bind_some]
  simp only [Bool.not_true, br_f, e11, br_t, h1, h2', Option.bind_some, whole_ok, letO_eq, s_not, impl_within_ok, hw]
set_option maxHeartbeats 2000000 in
theorem take_cell {st : TstreamReader} (hb : st.gbegun = true) (hd : st.gdone = false) (hi : st.ginside = false) (hl : (st.glib.fCells.length : Int) < st.gcells) (hl8 : st.glib.fCells.length ≤ 8) {s : ByteArray} (hs : isName s = true) (hf : namedI st.glib.fCells s < 0) (pre : ByteArray) :
    F_impl_streamReader_take_mPoooobbb st 2 (ofL (nameB s)) pre = some (0, ⟨st.gbegun, st.gdone, st.gcells, true, ⟨s, [], [], []⟩, st.glib⟩) := by
  have hsz := isName_size hs
  have h1 := rd_name (s := s) (by omega) [] false
  rw [List.append_nil] at h1
  unfold F_impl_streamReader_take_mPoooobbb
  rw [poss_cell hb hd hi hl, Option.bind_some]
  have hnm : F_impl_named st.glib s = some (namedI st.glib.fCells s) := impl_named_ok _ _ (by omega)
  simp only [Bool.not_true, br_f, e21, e22, br_t, h1, Option.bind_some, whole_ok, letO_eq, impl_IsName_ok _ (show s.size ≤ maxLen by unfold maxLen; omega), hs, hnm, le_false (show ¬ 0 ≤ namedI st.glib.fCells s by omega)]
set_option maxHeartbeats 2000000 in
theorem take_shape {st : TstreamReader} (hb : st.gbegun = true) (hd : st.gdone = false) (hi : st.ginside = true) (h4 : st.gcell.fLabels = []) (h5 : st.gcell.fInstances = []) (hl : st.gcell.fShapes.length < 24) {s : TShape} (hs : okShape s = true) (pre : ByteArray) :
    F_impl_streamReader_take_mPoooobbb st 3 (ofL (shapeB s)) pre = some (0, ⟨st.gbegun, st.gdone, st.gcells, st.ginside, ⟨st.gcell.fName, st.gcell.fShapes ++ [s], st.gcell.fLabels, st.gcell.fInstances⟩, st.glib⟩) := by
  have h1 := rd_shape hs [] false
  rw [List.append_nil] at h1
  unfold F_impl_streamReader_take_mPoooobbb
  rw [poss_in hb hd hi 3 (.inl ⟨rfl, h4, h5⟩), Option.bind_some]
  have hr : std.room (std.nadd (len st.gcell.fShapes) (len [s])) 40 := roomP (by rw [s_nadd, len_eq, len_eq]; simp; omega) (by omega)
  simp only [Bool.not_true, br_f, e31, e32, e33, br_t, h1, Option.bind_some, whole_ok, letO_eq, eq_false' (show ((std.ofN (len st.gcell.fShapes)) : Int) ≠ 24 by rw [s_ofN, len_eq]; omega), impl_validShape_ok, hs, req_of hr]
set_option maxHeartbeats 2000000 in
theorem take_label {st : TstreamReader} (hb : st.gbegun = true) (hd : st.gdone = false) (hi : st.ginside = true) (h5 : st.gcell.fInstances = []) (hl : st.gcell.fLabels.length < 8) {s : TLabel} (hs : okLabel s = true) (pre : ByteArray) :
    F_impl_streamReader_take_mPoooobbb st 4 (ofL (labelB s)) pre = some (0, ⟨st.gbegun, st.gdone, st.gcells, st.ginside, ⟨st.gcell.fName, st.gcell.fShapes, st.gcell.fLabels ++ [s], st.gcell.fInstances⟩, st.glib⟩) := by
  have h1 := rd_label hs [] false
  rw [List.append_nil] at h1
  have hn : s.fName.size ≤ maxLen := by
    unfold okLabel at hs
    simp only [Bool.and_eq_true] at hs
    have := isName_size hs.2.2
    unfold maxLen; omega
  unfold F_impl_streamReader_take_mPoooobbb
  rw [poss_in hb hd hi 4 (.inr (.inl ⟨rfl, h5⟩)), Option.bind_some]
  have hr : std.room (std.nadd (len st.gcell.fLabels) (len [s])) 40 := roomP (by rw [s_nadd, len_eq, len_eq]; simp; omega) (by omega)
  simp only [Bool.not_true, br_f, e41, e42, e43, e44, br_t, h1, Option.bind_some, whole_ok, letO_eq, eq_false' (show ((std.ofN (len st.gcell.fLabels)) : Int) ≠ 8 by rw [s_ofN, len_eq]; omega), impl_validLabel_ok _ hn, hs, req_of hr]
set_option maxHeartbeats 2000000 in
theorem take_inst {st : TstreamReader} (hb : st.gbegun = true) (hd : st.gdone = false) (hi : st.ginside = true) (hl : st.gcell.fInstances.length < 8) (hl8 : st.glib.fCells.length ≤ 8) {x : TInstance} (hx : okInst x (st.glib.fCells.length : Int) = true) {s : ByteArray} (hs : s.size ≤ 8) (hn : namedI st.glib.fCells s = x.fCell) (pre : ByteArray) :
    F_impl_streamReader_take_mPoooobbb st 5 (ofL (nameB s ++ placeB x)) pre = some (0, ⟨st.gbegun, st.gdone, st.gcells, st.ginside, ⟨st.gcell.fName, st.gcell.fShapes, st.gcell.fLabels, st.gcell.fInstances ++ [x]⟩, st.glib⟩) := by
  have h1 := rd_name (s := s) (by omega) (placeB x) false
  have h2 := rd_place (k := (st.glib.fCells.length : Int)) (by omega) hx [] false
  rw [List.append_nil] at h2
  have h0 : 0 ≤ x.fCell := by
    unfold okInst at hx
    rw [Bool.and_eq_true, wB_iff'] at hx
    exact hx.1.1
  unfold F_impl_streamReader_take_mPoooobbb
  rw [poss_in hb hd hi 5 (.inr (.inr (.inl rfl))), Option.bind_some]
  have hnm : F_impl_named st.glib s = some x.fCell := by rw [impl_named_ok _ _ (by omega), hn]
  have hr : std.room (std.nadd (len st.gcell.fInstances) (len [x])) 64 := roomP (by rw [s_nadd, len_eq, len_eq]; simp; omega) (by omega)
  have hx' : okInst (TInstance.mk x.fCell x.fPlace x.fColumns x.fRows x.fStepX x.fStepY) (std.ofN (len st.glib.fCells)) = true := by rw [s_ofN, len_eq]; exact hx
  simp only [Bool.not_true, br_f, e51, e52, e53, e54, e55, br_t, h1, h2, Option.bind_some, hnm, whole_ok, letO_eq, eq_false' (show ((std.ofN (len st.gcell.fInstances)) : Int) ≠ 8 by rw [s_ofN, len_eq]; omega), lt_false (show ¬ x.fCell < 0 by omega), impl_validInstance_ok, hx', req_of hr]
theorem eqI3 (l : List Int) (h : l.length ≤ 1000) : F_slices_Equal_Lint64_int64 l l = some true := by
  unfold F_slices_Equal_Lint64_int64
  rw [notEq (eq_true' rfl), br_f, while_eq (r := .inr ()) l.length (fun i hi => by
    simp only [L_slices_Equal_Lint64_int64_x2, letO_eq, s_toNn]
    rw [ltl_t hi, br_t, req_of (inRl hi), req_of (inRl hi), notEq (eq_true' rfl), br_f, inc_nat (by omega)]) (by
    simp only [L_slices_Equal_Lint64_int64_x2, letO_eq]
    rw [ltl_f, br_f]), Option.bind_some]
set_option maxHeartbeats 2000000 in
theorem take_fin {st : TstreamReader} (hb : st.gbegun = true) (hd : st.gdone = false) (hi : st.ginside = true) (hl8 : st.glib.fCells.length ≤ 8) (n3 : st.gcell.fShapes.length ≤ 24) (n4 : st.gcell.fLabels.length ≤ 8) (n5 : st.gcell.fInstances.length ≤ 8) (pre : ByteArray) :
    F_impl_streamReader_take_mPoooobbb st 6 (ofL [std.conv .u8 (std.ofN (len st.gcell.fShapes)), std.conv .u8 (std.ofN (len st.gcell.fLabels)), std.conv .u8 (std.ofN (len st.gcell.fInstances))]) pre = some (0, ⟨st.gbegun, st.gdone, st.gcells, false, ⟨ByteArray.mk #[], [], [], []⟩, ⟨st.glib.fCells ++ [st.gcell]⟩⟩) := by
  have h1 : F_impl_byteReader_one_mPb ⟨ofL [std.conv .u8 (std.ofN (len st.gcell.fShapes)), std.conv .u8 (std.ofN (len st.gcell.fLabels)), std.conv .u8 (std.ofN (len st.gcell.fInstances))], false⟩ = _ := rd_one (x := std.ofN (len st.gcell.fShapes)) (by rw [s_ofN, len_eq]; omega) [std.conv .u8 (std.ofN (len st.gcell.fLabels)), std.conv .u8 (std.ofN (len st.gcell.fInstances))] false
  have h2 : F_impl_byteReader_one_mPb ⟨ofL [std.conv .u8 (std.ofN (len st.gcell.fLabels)), std.conv .u8 (std.ofN (len st.gcell.fInstances))], false⟩ = _ := rd_one (x := std.ofN (len st.gcell.fLabels)) (by rw [s_ofN, len_eq]; omega) [std.conv .u8 (std.ofN (len st.gcell.fInstances))] false
  have h3 : F_impl_byteReader_one_mPb ⟨ofL [std.conv .u8 (std.ofN (len st.gcell.fInstances))], false⟩ = _ := rd_one (x := std.ofN (len st.gcell.fInstances)) (by rw [s_ofN, len_eq]; omega) [] false
  unfold F_impl_streamReader_take_mPoooobbb
  rw [poss_in hb hd hi 6 (.inr (.inr (.inr rfl))), Option.bind_some]
  have hr : std.room (std.nadd (len st.glib.fCells) (len [st.gcell])) 88 := roomP (by rw [s_nadd, len_eq, len_eq]; simp; omega) (by omega)
  simp only [Bool.not_true, br_f, e61, e62, e63, e64, e65, e66, br_t, h1, h2, h3, Option.bind_some, whole_ok, letO_eq, eqI3 [std.ofN (len st.gcell.fShapes), std.ofN (len st.gcell.fLabels), std.ofN (len st.gcell.fInstances)] (by simp), req_of hr]
set_option maxHeartbeats 2000000 in
theorem take_end {st : TstreamReader} (hb : st.gbegun = true) (hd : st.gdone = false) (hi : st.ginside = false) (hl : (st.glib.fCells.length : Int) = st.gcells) {pre : ByteArray} (hp : pre.size ≤ 1000000) :
    F_impl_streamReader_take_mPoooobbb st 7 (ofL (twoR (ck pre))) pre = some (0, ⟨st.gbegun, true, st.gcells, st.ginside, st.gcell, st.glib⟩) := by
  have hck := ck_rng pre (by omega)
  have h1 := rd_two (x := ck pre) (by omega) [] false
  rw [List.append_nil] at h1
  unfold F_impl_streamReader_take_mPoooobbb
  rw [poss_end hb hd hi hl, Option.bind_some]
  simp only [Bool.not_true, br_f, e71, e72, e73, e74, e75, e76, e77, br_t, h1, Option.bind_some, whole_ok, letO_eq, impl_Checksum16_ok _ (show pre.size ≤ 1000000000 by omega), notEq (eq_true' rfl)]
/- reading a stream, record by record -/
abbrev StT := Int × Bool × Bool × Int × Bool × ByteArray × List TShape × List TLabel × List TInstance × List TCell
def tup (n : Nat) (st : TstreamReader) : StT := ((n : Int), st.gbegun, st.gdone, st.gcells, st.ginside, st.gcell.fName, st.gcell.fShapes, st.gcell.fLabels, st.gcell.fInstances, st.glib.fCells)
/-- how many records end a cell -/
def c6 : List (Int × ByteArray) → Nat
  | [] => 0
  | x :: r => (if x.1 = 6 then 1 else 0) + c6 r
theorem c6_app : ∀ (r s : List (Int × ByteArray)), c6 (r ++ s) = c6 r + c6 s
  | [], s => by simp [c6]
  | x :: r, s => by rw [List.cons_append, c6, c6, c6_app r s]; omega
theorem c6_fm (n : Nat) (k : Int) (g : Nat → ByteArray) (hk : k ≠ 6) : c6 ((List.range n).flatMap fun i => [(k, g i)]) = 0 := by
  induction n with
  | zero => rfl
  | succ n ih => rw [List.range_succ, List.flatMap_append, c6_app, ih]; simp [c6, hk]
/-- the records r lead from st to st'; w cells are complete ahead of them -/
def Runs (a : TLibrary) : Nat → TstreamReader → ByteArray → List (Int × ByteArray) → TstreamReader → Prop
  | w, st, pre, [], st' => st = st'
  | w, st, pre, (k, p) :: r, st' => (st.gdone = false ∧ st.glib.fCells = a.fCells.take w) ∧ ∃ st1, F_impl_streamReader_take_mPoooobbb st k p pre = some (0, st1) ∧ Runs a (w + if k = 6 then 1 else 0) st1 (std.scat pre (recB k p)) r st'
theorem Runs.app {a : TLibrary} : ∀ {r1 : List (Int × ByteArray)} {w st pre st1 r2 st2}, Runs a w st pre r1 st1 → Runs a (w + c6 r1) st1 (std.scat pre (catR r1)) r2 st2 → Runs a w st pre (r1 ++ r2) st2
  | [], w, st, pre, st1, r2, st2, h, g => by
    have e : st = st1 := h
    subst e
    have e2 : std.scat pre (catR []) = pre := ByteArray.append_empty
    rw [e2] at g
    exact g
  | (k, p) :: r, w, st, pre, st1, r2, st2, h, g => by
    obtain ⟨h1, s1, h2, h3⟩ := h
    refine ⟨h1, s1, h2, Runs.app h3 ?_⟩
    rw [scat_assoc]
    rw [c6] at g
    rw [Nat.add_assoc]
    exact g
theorem rd_loop {a : TLibrary} : ∀ (r : List (Int × ByteArray)) (w : Nat) (st st' : TstreamReader) (pre rest : ByteArray), OKr r → Runs a w st pre r st' → pre.size + ((catR r).size + rest.size) ≤ 1000000 →
    whileP (L_impl_readStream_x11 (std.scat pre (std.scat (catR r) rest))) (tup pre.size st) = whileP (L_impl_readStream_x11 (std.scat pre (std.scat (catR r) rest))) (tup (pre.size + (catR r).size) st')
  | [], w, st, st', pre, rest, _, h, _ => by
    have e : st = st' := h
    subst e
    rfl
  | (k, p) :: r, w, st, st', pre, rest, hr, h, hs => by
    obtain ⟨⟨h1, _⟩, s1, h2, h3⟩ := h
    obtain ⟨hk, hp⟩ := hr (k, p) (by simp)
    simp only at hk hp
    rw [catR, scat_size, recB_size] at hs
    have e1 : std.scat pre (std.scat (catR ((k, p) :: r)) rest) = std.scat pre (std.scat (recB k p) (std.scat (catR r) rest)) := by rw [catR, scat_assoc]
    have hsp := split_ok pre p (std.scat (catR r) rest) k hk hp (by rw [scat_size]; omega)
    have hpre : std.ssub (std.scat pre (std.scat (recB k p) (std.scat (catR r) rest))) 0 pre.size = pre := ssub_head
    have hup : std.upTo (pre.size : Int) (std.slen (std.scat pre (std.scat (recB k p) (std.scat (catR r) rest)))) := ⟨by omega, by rw [s_slen, scat_size]; omega⟩
    have ih := rd_loop r _ s1 st' (std.scat pre (recB k p)) rest (fun x hx => hr x (by simp [hx])) h3 (by rw [scat_size, recB_size]; omega)
    rw [scat_assoc, scat_size, recB_size] at ih
    have e2 : (catR ((k, p) :: r)).size = p.size + 5 + (catR r).size := by rw [catR, scat_size, recB_size]
    rw [e1, e2, whileP_unfold, ← Nat.add_assoc, ← ih]
    have hst : TstreamReader.mk st.gbegun false st.gcells st.ginside (TCell.mk st.gcell.fName st.gcell.fShapes st.gcell.fLabels st.gcell.fInstances) (TLibrary.mk st.glib.fCells) = st := by rw [← h1]
    have h1' : (tup pre.size st).2.2.1 = false := h1
    simp only [L_impl_readStream_x11, letO_eq, tup, h1, Bool.not_false, br_t, hsp, Option.bind_some, eq_true' rfl, req_of hup, s_toNn, hpre, hst, h2, s_not, Bool.not_true, br_f]
/-- cell by cell -/
def stC (a : TLibrary) (k : Nat) : TstreamReader := ⟨true, false, (a.fCells.length : Int), false, ⟨ByteArray.mk #[], [], [], []⟩, ⟨a.fCells.take k⟩⟩
def stI (a : TLibrary) (k : Nat) (c : TCell) : TstreamReader := ⟨true, false, (a.fCells.length : Int), true, c, ⟨a.fCells.take k⟩⟩
theorem runs_list {α : Type} [Inhabited α] (a : TLibrary) (w : Nat) (l : List α) (k : Int) (hk6 : k ≠ 6) (g : α → ByteArray) (S : List α → TstreamReader)
    (h : ∀ (m : List α) (x : α) pre, x ∈ l → m.length < l.length → ((S m).gdone = false ∧ (S m).glib.fCells = a.fCells.take w) ∧ F_impl_streamReader_take_mPoooobbb (S m) k (g x) pre = some (0, S (m ++ [x]))) :
    ∀ n, n ≤ l.length → ∀ pre, Runs a w (S []) pre ((List.range n).flatMap fun i => [(k, g (gd l i))]) (S (l.take n))
  | 0, _, pre => rfl
  | n + 1, hn, pre => by
    rw [List.range_succ, List.flatMap_append]
    refine Runs.app (runs_list a w l k hk6 g S h n (by omega) pre) ?_
    rw [c6_fm n k (fun i => g (gd l i)) hk6]
    simp only [List.flatMap_cons, List.flatMap_nil, List.append_nil]
    obtain ⟨h1, h2⟩ := h (l.take n) (gd l n) (std.scat pre (catR ((List.range n).flatMap fun i => [(k, g (gd l i))]))) (gd_mem (by omega)) (by rw [List.length_take]; omega)
    refine ⟨h1, _, h2, ?_⟩
    show _ = _
    rw [List.take_succ_eq_append_getElem (by omega), gd_lt (by omega)]
theorem fresh_none {a : TLibrary} (h : okLib a = true) {k : Nat} (hk : k < a.fCells.length) : namedI (a.fCells.take k) (gd a.fCells k).fName < 0 := by
  have hf : fresh a.fCells k = true := by
    unfold okLib at h
    simp only [Bool.and_eq_true, decide_eq_true_eq, List.all_eq_true, List.mem_range] at h
    exact (h.2.2 k hk).2
  unfold fresh at hf
  rw [List.all_eq_true] at hf
  have hn : ∀ n, (List.range n).find? (fun i => std.seq (gd (a.fCells.take k) i).fName (gd a.fCells k).fName) = none ∨ k < n := by
    intro n
    by_cases hnk : k < n
    · exact .inr hnk
    · refine .inl (List.find?_eq_none.2 fun i hi => ?_)
      rw [List.mem_range] at hi
      have h1 := hf i (List.mem_range.2 (by omega))
      have e : gd (a.fCells.take k) i = gd a.fCells i := by rw [gd_lt (by rw [List.length_take]; omega), gd_lt (by omega), List.getElem_take]
      rw [e]
      intro h2
      rw [h2] at h1
      cases h1
  unfold namedI firstI
  rcases hn (a.fCells.take k).length with h1 | h1
  · rw [h1]; decide
  · rw [List.length_take] at h1; omega
theorem fresh_at {a : TLibrary} (h : okLib a = true) {k c : Nat} (hk : k ≤ a.fCells.length) (hc : c < k) : namedI (a.fCells.take k) (gd a.fCells c).fName = (c : Int) := by
  have e : ∀ i, i < k → gd (a.fCells.take k) i = gd a.fCells i := fun i hi => by rw [gd_lt (by rw [List.length_take]; omega), gd_lt (by omega), List.getElem_take]
  have hf : fresh (a.fCells.take k) c = true := by
    have hf : fresh a.fCells c = true := by
      unfold okLib at h
      simp only [Bool.and_eq_true, decide_eq_true_eq, List.all_eq_true, List.mem_range] at h
      exact (h.2.2 c (by omega)).2
    unfold fresh at hf ⊢
    rw [List.all_eq_true] at hf ⊢
    intro i hi
    have hi' := List.mem_range.1 hi
    rw [e i (by omega), e c hc]
    exact hf i hi
  have h1 := named_first (a.fCells.take k) c (by rw [List.length_take]; omega)
  rw [hf, e c hc, s_eq, decide_eq_true_eq] at h1
  exact h1
theorem runs_cell {a : TLibrary} (h : okLib a = true) {k : Nat} (hk : k < a.fCells.length) (pre : ByteArray) : Runs a k (stC a k) pre (recsC a (gd a.fCells k)) (stC a (k + 1)) := by
  have hg := good_of h hk
  have h8 := (okLib_le h).2
  have hoc := okLib_cell h hk
  unfold okCell at hoc
  simp only [Bool.and_eq_true, decide_eq_true_eq, List.all_eq_true] at hoc
  obtain ⟨o1, o2, o3, o4, o5, o6, o7⟩ := hoc
  obtain ⟨c, hc⟩ : ∃ c, c = gd a.fCells k := ⟨_, rfl⟩
  rw [← hc] at hg o1 o2 o3 o4 o5 o6 o7 ⊢
  have hlk : (a.fCells.take k).length = k := by rw [List.length_take]; omega
  unfold recsC
  have r1 : ∀ pre, Runs a k (stC a k) pre [(2, ofL (nameB c.fName))] (stI a k ⟨c.fName, [], [], []⟩) := fun pre =>
    ⟨⟨rfl, rfl⟩, _, take_cell (st := stC a k) rfl rfl rfl (by show (((a.fCells.take k).length : Nat) : Int) < (a.fCells.length : Int); omega) (by show (a.fCells.take k).length ≤ 8; omega) o1 (by rw [hc]; exact fresh_none h hk) pre, rfl⟩
  have r2 := fun pre => runs_list a k c.fShapes 3 (by decide) (fun s => ofL (shapeB s)) (fun m => stI a k ⟨c.fName, m, [], []⟩) (fun m x pre hx hm => ⟨⟨rfl, rfl⟩, take_shape (st := stI a k ⟨c.fName, m, [], []⟩) rfl rfl rfl rfl rfl (by show m.length < 24; omega) (o5 x hx) pre⟩) c.fShapes.length (Nat.le_refl _) pre
  have r3 := fun pre => runs_list a k c.fLabels 4 (by decide) (fun s => ofL (labelB s)) (fun m => stI a k ⟨c.fName, c.fShapes, m, []⟩) (fun m x pre hx hm => ⟨⟨rfl, rfl⟩, take_label (st := stI a k ⟨c.fName, c.fShapes, m, []⟩) rfl rfl rfl rfl (by show m.length < 8; omega) (o6 x hx) pre⟩) c.fLabels.length (Nat.le_refl _) pre
  have r4 := fun pre => runs_list a k c.fInstances 5 (by decide) (fun x => ofL (nameB (gd a.fCells (std.toN x.fCell)).fName ++ placeB x)) (fun m => stI a k ⟨c.fName, c.fShapes, c.fLabels, m⟩) (fun m x pre hx hm => by
    have hcell := hg.cell x hx
    obtain ⟨q, hq⟩ : ∃ q : Nat, x.fCell = (q : Int) := ⟨x.fCell.toNat, by omega⟩
    have hqk : q < k := by omega
    refine ⟨⟨rfl, rfl⟩, take_inst (st := stI a k ⟨c.fName, c.fShapes, c.fLabels, m⟩) rfl rfl rfl (by show m.length < 8; omega) (by show (a.fCells.take k).length ≤ 8; omega) ?_ ?_ ?_ pre⟩
    · show okInst x ((a.fCells.take k).length : Int) = true
      rw [hlk]; exact o7 x hx
    · rw [hq, s_toNn]; exact (good_of h (show q < a.fCells.length by omega)).name
    · show namedI (a.fCells.take k) _ = _
      rw [hq, s_toNn]; exact fresh_at h (by omega) hqk) c.fInstances.length (Nat.le_refl _) pre
  simp only [List.take_length] at r2 r3 r4
  have r5 : ∀ pre, Runs a k (stI a k c) pre [(6, ofL [std.conv .u8 (std.ofN (len c.fShapes)), std.conv .u8 (std.ofN (len c.fLabels)), std.conv .u8 (std.ofN (len c.fInstances))])] (stC a (k + 1)) := fun pre => by
    refine ⟨⟨rfl, rfl⟩, _, take_fin (st := stI a k c) rfl rfl rfl (by show (a.fCells.take k).length ≤ 8; omega) o2 o3 o4 pre, ?_⟩
    show TstreamReader.mk true false (a.fCells.length : Int) false ⟨ByteArray.mk #[], [], [], []⟩ ⟨a.fCells.take k ++ [c]⟩ = stC a (k + 1)
    unfold stC
    rw [List.take_succ_eq_append_getElem hk, hc, gd_lt hk]
  have z2 := c6_fm c.fShapes.length 3 (fun i => ofL (shapeB (gd c.fShapes i))) (by decide)
  have z3 := c6_fm c.fLabels.length 4 (fun i => ofL (labelB (gd c.fLabels i))) (by decide)
  have z4 := c6_fm c.fInstances.length 5 (fun i => ofL (nameB (gd a.fCells (std.toN (gd c.fInstances i).fCell)).fName ++ placeB (gd c.fInstances i))) (by decide)
  have z1 : c6 [((2 : Int), ofL (nameB c.fName))] = 0 := rfl
  refine Runs.app (st1 := stI a k c) (Runs.app (st1 := stI a k ⟨c.fName, c.fShapes, c.fLabels, []⟩) (Runs.app (st1 := stI a k ⟨c.fName, c.fShapes, [], []⟩) (Runs.app (r1 _) ?_) ?_) ?_) ?_
  · rw [z1]; exact r2 _
  · rw [c6_app, z1, z2]; exact r3 _
  · rw [c6_app, c6_app, z1, z2, z3]; exact r4 _
  · rw [c6_app, c6_app, c6_app, z1, z2, z3, z4]; exact r5 _
theorem c6_cell (a : TLibrary) (c : TCell) : c6 (recsC a c) = 1 := by
  unfold recsC
  rw [c6_app, c6_app, c6_app, c6_app, c6_fm _ 3 _ (by decide), c6_fm _ 4 _ (by decide), c6_fm _ 5 _ (by decide)]
  rfl
theorem c6_cells (a : TLibrary) : ∀ n, c6 ((List.range n).flatMap fun k => recsC a (gd a.fCells k)) = n
  | 0 => rfl
  | n + 1 => by
    rw [List.range_succ, List.flatMap_append, c6_app, c6_cells a n]
    simp only [List.flatMap_cons, List.flatMap_nil, List.append_nil]
    rw [c6_cell]
theorem runs_cells {a : TLibrary} (h : okLib a = true) : ∀ n, n ≤ a.fCells.length → ∀ pre, Runs a 0 (stC a 0) pre ((List.range n).flatMap fun k => recsC a (gd a.fCells k)) (stC a n)
  | 0, _, pre => rfl
  | n + 1, hn, pre => by
    rw [List.range_succ, List.flatMap_append]
    refine Runs.app (runs_cells h n (by omega) pre) ?_
    rw [c6_cells, Nat.zero_add]
    simp only [List.flatMap_cons, List.flatMap_nil, List.append_nil]
    exact runs_cell h (by omega) _
def st0 : TstreamReader := ⟨false, false, 0, false, ⟨ByteArray.mk #[], [], [], []⟩, ⟨[]⟩⟩
theorem runs_head {a : TLibrary} (h : okLib a = true) (pre : ByteArray) : Runs a 0 st0 pre [(1, ofL [1, std.conv .u8 (std.ofN (len a.fCells))])] (stC a 0) := by
  have h8 := okLib_le h
  refine ⟨⟨rfl, rfl⟩, _, take_head (st := st0) rfl rfl (n := a.fCells.length) (by omega) pre, ?_⟩
  rfl
theorem empty_scat (s : ByteArray) : std.scat (ByteArray.mk #[]) s = s := ByteArray.empty_append
theorem scat_empty (s : ByteArray) : std.scat s (ByteArray.mk #[]) = s := ByteArray.append_empty
theorem runs0 {a : TLibrary} (h : okLib a = true) {n : Nat} (hn : n ≤ a.fCells.length) : Runs a 0 st0 (ByteArray.mk #[]) ([(1, ofL [1, std.conv .u8 (std.ofN (len a.fCells))])] ++ (List.range n).flatMap fun k => recsC a (gd a.fCells k)) (stC a n) :=
  Runs.app (runs_head h _) (runs_cells h n hn _)
theorem libR_size {a : TLibrary} (h : okLib a = true) : (catR (recs0 a)).size ≤ 100000 := by
  have h1 : libR a = catR (recs a) := libR_catR a
  have hl := okLib_le h
  have n1 := catN_size (recB 1 (ofL [1, std.conv .u8 (std.ofN (len a.fCells))])) (fun k => cellR a (gd a.fCells k)) 1000 a.fCells.length fun k hk => cellR_le h hk
  have m1 : a.fCells.length * 1000 ≤ 8 * 1000 := Nat.mul_le_mul_right _ hl.2
  have n0 : (recB 1 (ofL [1, std.conv .u8 (std.ofN (len a.fCells))])).size = 7 := by rw [recB_size, ofL_size]; rfl
  have e : catN (recB 1 (ofL [1, std.conv .u8 (std.ofN (len a.fCells))])) (fun k => cellR a (gd a.fCells k)) a.fCells.length = catR (recs0 a) := by
    unfold recs0
    rw [← catR_one 1, catN_catR _ _ _ (fun i => cellR_catR a _)]
  rw [e] at n1
  omega
theorem runs_lib {a : TLibrary} (h : okLib a = true) : Runs a 0 st0 (ByteArray.mk #[]) (recs a) ⟨true, true, (a.fCells.length : Int), false, ⟨ByteArray.mk #[], [], [], []⟩, a⟩ := by
  unfold recs
  refine Runs.app (st1 := stC a a.fCells.length) (by unfold recs0; exact runs0 h (Nat.le_refl _)) ?_
  rw [empty_scat]
  have hc : c6 (recs0 a) = a.fCells.length := by
    unfold recs0
    rw [c6_app, c6_cells]
    exact Nat.zero_add _
  rw [hc, Nat.zero_add]
  refine ⟨⟨rfl, rfl⟩, _, take_end (st := stC a a.fCells.length) rfl rfl rfl (by show (((a.fCells.take a.fCells.length).length : Nat) : Int) = (a.fCells.length : Int); rw [List.take_length]) (by have := libR_size h; omega), ?_⟩
  show TstreamReader.mk true true (a.fCells.length : Int) false ⟨ByteArray.mk #[], [], [], []⟩ ⟨a.fCells.take a.fCells.length⟩ = _
  rw [List.take_length]
theorem libR_len {a : TLibrary} (h : okLib a = true) : (libR a).size = (catR (recs0 a)).size + 7 := by
  rw [libR_catR]
  unfold recs
  rw [catR_app, catR_one, scat_size, recB_size, ofL_size, twoR_len]
theorem readStream_lib {a : TLibrary} (h : okLib a = true) : F_impl_readStream (libR a) = some (a, 0, ((libR a).size : Int)) := by
  have hsz := libR_len h
  have hs := libR_size h
  have hl := rd_loop (recs a) 0 st0 _ (ByteArray.mk #[]) (ByteArray.mk #[]) (recs_ok h) (runs_lib h) (by rw [← libR_catR, hsz]; show 0 + (_ + 0) ≤ _; omega)
  rw [empty_scat, scat_empty, ← libR_catR] at hl
  unfold F_impl_readStream
  have hl' : whileP (L_impl_readStream_x11 (libR a)) (0, false, false, 0, false, (ByteArray.mk #[]), ([] : List TShape), ([] : List TLabel), ([] : List TInstance), ([] : List TCell)) = _ := hl
  rw [hl', whileP_unfold]
  have e0 : (ByteArray.mk #[]).size + (libR a).size = (libR a).size := Nat.zero_add _
  simp only [L_impl_readStream_x11, letO_eq, tup, Bool.not_true, br_f, Option.bind_some, e0]
  rw [lt_false (by rw [s_ofN, s_slen]; omega), br_f]
theorem ReadStream_lib {a : TLibrary} (h : okLib a = true) : F_impl_ReadStream (libR a) = some (a, 0, ((libR a).size : Int)) := by
  unfold F_impl_ReadStream
  rw [readStream_lib h, Option.bind_some, notEq (eq_true' rfl), br_f]
/- libraries compared by the program; FnStream -/
theorem drawStream_ok {c : List Int} (hc : OKc c) : Tot (F_spec_DrawLibraryStream c) SmallL := by
  unfold F_spec_DrawLibraryStream
  exact Tot.bind (from_ok hc) fun s hs => Tot.bind (any_ok hs) fun r hr => Tot.ret (OKl.small hr.2)
theorem wf_byteS {x : Int} (h : wfI .u8 x) : 0 ≤ x ∧ x ≤ 255 := by
  have h' : (Lit.int .u8 x).wf = true := h
  have e1 : IntKind.min .u8 = 0 := rfl
  have e2 : IntKind.max .u8 = 255 := rfl
  simp [Lit.wf] at h'
  omega
/- FnSalvage: drawing the cut; a stream that is cut -/
theorem bit24 (x : Int) : 0 ≤ std.bitand .u64 x 16777215 ∧ std.bitand .u64 x 16777215 ≤ 16777215 := by
  show 0 ≤ IntKind.u64.wrap ((BitVec.ofInt 64 x &&& BitVec.ofInt 64 16777215).toNat : Int) ∧ IntKind.u64.wrap ((BitVec.ofInt 64 x &&& BitVec.ofInt 64 16777215).toNat : Int) ≤ 16777215
  have h1 : (BitVec.ofInt 64 x &&& BitVec.ofInt 64 16777215).toNat ≤ 16777215 := by
    rw [BitVec.toNat_and]
    exact Nat.and_le_right
  generalize (BitVec.ofInt 64 x &&& BitVec.ofInt 64 16777215).toNat = n at h1 ⊢
  simp only [IntKind.wrap, IntKind.signed, IntKind.bits]
  simp
  omega
theorem roll_ok {c : List Int} (hc : OKc c) (n : Int) : Tot (F_laws_roll c n) fun d => d.gb = c ∧ d.gi = 0 := by
  unfold F_laws_roll
  refine Tot.bind (P := fun _ => True) (Tot.whileP (fun x : Int × Int => 0 ≤ x.1 ∧ x.1 ≤ c.length) (fun x => (c.length - x.1).toNat) ⟨Int.le_refl _, by omega⟩ fun x hx => ?_) fun y _ => Tot.ret ⟨rfl, rfl⟩
  obtain ⟨i, h⟩ := x
  simp only at hx
  simp only [L_laws_roll_x3, letO_eq]
  refine Tot.br (fun hk => ?_) fun _ => Tot.ret trivial
  have hk' := lt_dec hk
  rw [s_ofN, len_eq] at hk'
  have hl := hc.1
  refine Tot.req ⟨hx.1, by rw [len_eq]; exact hk'⟩ (Tot.ret ?_)
  rw [add_id (by omega) (by omega)]
  exact ⟨⟨by simp only; omega, by simp only; omega⟩, by simp only; omega⟩
theorem ext_all {s : ByteArray} {n : Nat} (h : s.size ≤ n) : s.extract 0 n = s := by
  apply ByteArray.ext
  rw [ByteArray.data_extract]
  exact Array.extract_eq_self_of_le h
theorem cut_catR : ∀ (R : List (Int × ByteArray)) (c : Nat), c ≤ (catR R).size → c = (catR R).size ∨ ∃ r1 k p r2 j, R = r1 ++ (k, p) :: r2 ∧ j < p.size + 5 ∧ c = (catR r1).size + j ∧ std.ssub (catR R) 0 c = std.scat (catR r1) (std.ssub (recB k p) 0 j)
  | [], c, h => .inl (Nat.le_zero.1 h)
  | (k, p) :: R, c, h => by
    by_cases hc : c < p.size + 5
    · refine .inr ⟨[], k, p, R, c, rfl, hc, by show c = 0 + c; omega, ?_⟩
      rw [show catR [] = ByteArray.mk #[] from rfl, empty_scat, catR]
      show ((recB k p) ++ catR R).extract 0 c = (recB k p).extract 0 c
      rw [ByteArray.extract_append]
      have : (catR R).extract (0 - (recB k p).size) (c - (recB k p).size) = ByteArray.empty := by
        have hz : c - (recB k p).size = 0 := by rw [recB_size]; omega
        apply ByteArray.ext
        apply Array.eq_empty_of_size_eq_zero
        show ((catR R).extract _ _).size = 0
        rw [ByteArray.size_extract, hz]; omega
      rw [this, ByteArray.append_empty]
    · have hsz : (catR ((k, p) :: R)).size = p.size + 5 + (catR R).size := by rw [catR, scat_size, recB_size]
      rcases cut_catR R (c - (p.size + 5)) (by omega) with h1 | ⟨r1, k', p', r2, j, h1, h2, h3, h4⟩
      · exact .inl (by omega)
      · refine .inr ⟨(k, p) :: r1, k', p', r2, j, by rw [h1]; rfl, h2, by rw [catR, scat_size, recB_size]; omega, ?_⟩
        rw [catR, catR, scat_assoc, ← h4]
        show ((recB k p) ++ catR R).extract 0 c = recB k p ++ (catR R).extract 0 (c - (p.size + 5))
        rw [ByteArray.extract_append, recB_size]
        have e1 : (recB k p).extract 0 c = recB k p := by
          exact ext_all (by rw [recB_size]; omega)
        rw [e1, Nat.zero_sub]
theorem Runs.split {a : TLibrary} : ∀ {r1 : List (Int × ByteArray)} {w st pre r2 st2}, Runs a w st pre (r1 ++ r2) st2 → ∃ st1, Runs a w st pre r1 st1 ∧ Runs a (w + c6 r1) st1 (std.scat pre (catR r1)) r2 st2
  | [], w, st, pre, r2, st2, h => ⟨st, rfl, by rw [show catR [] = ByteArray.mk #[] from rfl, scat_empty]; exact h⟩
  | (k, p) :: r1, w, st, pre, r2, st2, h => by
    obtain ⟨h1, s1, h2, h3⟩ := h
    obtain ⟨st1, g1, g2⟩ := h3.split
    refine ⟨st1, ⟨h1, s1, h2, g1⟩, ?_⟩
    rw [catR, ← scat_assoc, c6, ← Nat.add_assoc]
    exact g2
/- what is read of a string that is cut: something is missing, or the same as of the whole -/
def Byt (p : List Int) : Prop := ∀ b ∈ p, 0 ≤ b ∧ b ≤ 255
def Rda {α : Type} (q : List Int) (z : Bool) (P : α → Prop) (x y : Option (α × TbyteReader)) : Prop :=
  ∃ v p z', x = some (v, ⟨ofL p, z'⟩) ∧ Byt p ∧ (z = true → z' = true) ∧ (z' = false → y = some (v, ⟨ofL (p ++ q), false⟩)) ∧ P v
theorem Rda.ret {α : Type} {q p : List Int} {z : Bool} {P : α → Prop} {v : α} (hp : Byt p) (h : P v) : Rda q z P (some (v, ⟨ofL p, z⟩)) (some (v, ⟨ofL (p ++ q), false⟩)) := ⟨v, p, z, rfl, hp, id, fun _ => rfl, h⟩
theorem Rda.bind {α β : Type} {q : List Int} {z : Bool} {P : α → Prop} {Q : β → Prop} {x y : Option (α × TbyteReader)} {f g : α × TbyteReader → Option (β × TbyteReader)} (h : Rda q z P x y)
    (k : ∀ v p z', Byt p → P v → Rda q z' Q (f (v, ⟨ofL p, z'⟩)) (g (v, ⟨ofL (p ++ q), false⟩))) : Rda q z Q (x.bind f) (y.bind g) := by
  obtain ⟨v, p, z1, e1, hp, m1, w1, hv⟩ := h
  obtain ⟨u, p2, z2, e2, hp2, m2, w2, hu⟩ := k v p z1 hp hv
  refine ⟨u, p2, z2, by rw [e1]; exact e2, hp2, fun h => m2 (m1 h), fun h => ?_, hu⟩
  have : z1 = false := by
    cases hz : z1 with
    | false => rfl
    | true => have := m2 hz; rw [h] at this; cases this
  rw [w1 this]
  exact w2 h
def byteV (v : Int) : Prop := 0 ≤ v ∧ v ≤ 255
theorem rd_none (z : Bool) : F_impl_byteReader_one_mPb ⟨ofL [], z⟩ = some (0, ⟨ofL [], true⟩) := by
  unfold F_impl_byteReader_one_mPb
  simp only
  have hl : std.slen (ofL []) = 0 := by rw [ofL_len]; rfl
  rw [hl, lt_true (by rw [s_ofN]; omega), br_t]
theorem rda_one (q p : List Int) (z : Bool) (hp : Byt p) : Rda q z byteV (F_impl_byteReader_one_mPb ⟨ofL p, z⟩) (F_impl_byteReader_one_mPb ⟨ofL (p ++ q), false⟩) := by
  cases p with
  | nil => exact ⟨0, [], true, rd_none z, hp, fun _ => rfl, fun h => (by cases h), ⟨Int.le_refl _, by omega⟩⟩
  | cons b l =>
    have hb := hp b (by simp)
    exact ⟨b, l, z, rd_byte hb l z, fun x hx => hp x (by simp [hx]), id, fun _ => rd_byte hb (l ++ q) false, hb⟩
theorem rda_two (q p : List Int) (z : Bool) (hp : Byt p) : Rda q z (fun _ => True) (F_impl_byteReader_two_mPb ⟨ofL p, z⟩) (F_impl_byteReader_two_mPb ⟨ofL (p ++ q), false⟩) := by
  unfold F_impl_byteReader_two_mPb
  refine Rda.bind (rda_one q p z hp) fun v p z hp hv => ?_
  simp only
  rw [req_of (by rw [s_nneg]; omega), req_of (by rw [s_nneg]; omega)]
  exact Rda.bind (rda_one q p z hp) fun u p z hp hu => Rda.ret hp trivial
theorem rda_coord (q p : List Int) (z : Bool) (hp : Byt p) : Rda q z (fun _ => True) (F_impl_byteReader_coordinate_mPb ⟨ofL p, z⟩) (F_impl_byteReader_coordinate_mPb ⟨ofL (p ++ q), false⟩) := by
  unfold F_impl_byteReader_coordinate_mPb
  exact Rda.bind (rda_two q p z hp) fun v p z hp hv => Rda.ret hp trivial
theorem cutL (p q : List Int) (z : Bool) {n : Nat} (h : n ≤ p.length) : (br (std.lt (std.ofN (std.slen (ofL (p ++ q)))) (n : Int)) (some ((ByteArray.mk #[]), (TbyteReader.mk (ofL (p ++ q)) true)))
    (req (std.upTo (n : Int) (std.slen (ofL (p ++ q)))) <| req (std.upTo (n : Int) (std.slen (ofL (p ++ q)))) <| some (std.ssub (ofL (p ++ q)) 0 (std.toN (n : Int)), (TbyteReader.mk (std.ssub (ofL (p ++ q)) (std.toN (n : Int)) (std.slen (ofL (p ++ q)))) z)))) = some (ofL (p.take n), ⟨ofL (p.drop n ++ q), z⟩) := by
  have hs : (ofL (p.take n)).size = n := by rw [ofL_size, List.length_take]; omega
  have e : ofL (p ++ q) = std.scat (ofL (p.take n)) (ofL (p.drop n ++ q)) := by
    rw [ofL_app, ← List.append_assoc, List.take_append_drop]
  have hl : std.slen (ofL (p ++ q)) = p.length + q.length := by rw [ofL_len, List.length_append]
  have hu : std.upTo (n : Int) (std.slen (ofL (p ++ q))) := ⟨by omega, by rw [hl]; omega⟩
  rw [lt_false (by rw [s_ofN, hl]; omega), br_f, req_of hu, req_of hu, s_toNn, e]
  have h1 := @ssub_tail (ofL (p.take n)) (ofL (p.drop n ++ q))
  have h2 := @ssub_head (ofL (p.take n)) (ofL (p.drop n ++ q))
  rw [hs] at h1 h2
  rw [h1, h2]
theorem rda_name (q p : List Int) (z : Bool) (hp : Byt p) : Rda q z (fun s => s.size ≤ 255) (F_impl_byteReader_name_mPb ⟨ofL p, z⟩) (F_impl_byteReader_name_mPb ⟨ofL (p ++ q), false⟩) := by
  unfold F_impl_byteReader_name_mPb
  refine Rda.bind (rda_one q p z hp) fun v p z hp hv => ?_
  obtain ⟨n, rfl⟩ : ∃ n : Nat, v = (n : Int) := ⟨v.toNat, by have := hv.1; omega⟩
  simp only
  by_cases h : n ≤ p.length
  · have h1 := cutL p [] z h
    rw [List.append_nil, List.append_nil] at h1
    rw [h1, cutL p q false h]
    exact Rda.ret (fun b hb => hp b (List.mem_of_mem_drop hb)) (by rw [ofL_size, List.length_take]; have := hv.2; omega)
  · have hl : std.slen (ofL p) = p.length := ofL_len p
    rw [lt_true (by rw [s_ofN, hl]; omega), br_t]
    exact ⟨_, p, true, rfl, hp, fun _ => rfl, fun h => (by cases h), by show 0 ≤ 255; omega⟩
theorem rda_shape (q p : List Int) (z : Bool) (hp : Byt p) : Rda q z (fun _ => True) (F_impl_byteReader_shape_mPb ⟨ofL p, z⟩) (F_impl_byteReader_shape_mPb ⟨ofL (p ++ q), false⟩) := by
  unfold F_impl_byteReader_shape_mPb
  exact Rda.bind (rda_one q p z hp) fun _ p z hp _ => Rda.bind (rda_coord q p z hp) fun _ p z hp _ => Rda.bind (rda_coord q p z hp) fun _ p z hp _ => Rda.bind (rda_coord q p z hp) fun _ p z hp _ => Rda.bind (rda_coord q p z hp) fun _ p z hp _ => Rda.ret hp trivial
theorem rda_label (q p : List Int) (z : Bool) (hp : Byt p) : Rda q z (fun _ => True) (F_impl_byteReader_label_mPb ⟨ofL p, z⟩) (F_impl_byteReader_label_mPb ⟨ofL (p ++ q), false⟩) := by
  unfold F_impl_byteReader_label_mPb
  exact Rda.bind (rda_one q p z hp) fun _ p z hp _ => Rda.bind (rda_coord q p z hp) fun _ p z hp _ => Rda.bind (rda_coord q p z hp) fun _ p z hp _ => Rda.bind (rda_name q p z hp) fun _ p z hp _ => Rda.ret hp trivial
theorem rda_inst (q p : List Int) (z : Bool) (hp : Byt p) : Rda q z (fun _ => True) (F_impl_byteReader_instance_mPb ⟨ofL p, z⟩) (F_impl_byteReader_instance_mPb ⟨ofL (p ++ q), false⟩) := by
  unfold F_impl_byteReader_instance_mPb
  exact Rda.bind (rda_one q p z hp) fun _ p z hp _ => Rda.bind (rda_coord q p z hp) fun _ p z hp _ => Rda.bind (rda_coord q p z hp) fun _ p z hp _ => Rda.bind (rda_one q p z hp) fun _ p z hp _ => Rda.bind (rda_one q p z hp) fun _ p z hp _ => Rda.bind (rda_coord q p z hp) fun _ p z hp _ => Rda.bind (rda_coord q p z hp) fun _ p z hp _ => Rda.ret hp trivial
/- checksums: one byte that is another makes another -/
def ckF (c : Int) (l : List Int) : Int := l.foldl (fun c b => (31 * c + b + 1) % 65521) c
theorem ckF_rng : ∀ (l : List Int) (c : Int), 0 ≤ c ∧ c < 65521 → 0 ≤ ckF c l ∧ ckF c l < 65521
  | [], c, h => h
  | b :: l, c, h => ckF_rng l ((31 * c + b + 1) % 65521) ⟨by omega, by omega⟩
theorem ckF_ne : ∀ (l : List Int) (c c' : Int), 0 ≤ c ∧ c < 65521 → 0 ≤ c' ∧ c' < 65521 → c ≠ c' → ckF c l ≠ ckF c' l
  | [], c, c', _, _, h => h
  | b :: l, c, c', h1, h2, h => ckF_ne l ((31 * c + b + 1) % 65521) ((31 * c' + b + 1) % 65521) ⟨by omega, by omega⟩ ⟨by omega, by omega⟩ (by omega)
theorem ckF_set {l : List Int} {k : Nat} (hk : k < l.length) {b : Int} (hl : Byt l) (hb : 0 ≤ b ∧ b ≤ 255) (hne : b ≠ gd l k) {c : Int} (hc : 0 ≤ c ∧ c < 65521) : ckF c (l.set k b) ≠ ckF c l := by
  have e1 : l = l.take k ++ gd l k :: l.drop (k + 1) := by
    rw [gd_lt hk, List.getElem_cons_drop, List.take_append_drop]
  have e2 : l.set k b = l.take k ++ b :: l.drop (k + 1) := List.set_eq_take_append_cons_drop.trans (by rw [if_pos hk])
  have hg : 0 ≤ gd l k ∧ gd l k ≤ 255 := hl _ (gd_mem hk)
  rw [e2]
  conv => rhs; rw [e1]
  unfold ckF
  rw [List.foldl_append, List.foldl_append, List.foldl_cons, List.foldl_cons]
  have hr := ckF_rng (l.take k) c hc
  unfold ckF at hr
  generalize List.foldl (fun c b => (31 * c + b + 1) % 65521) c (List.take k l) = d at *
  exact ckF_ne (l.drop (k + 1)) ((31 * d + b + 1) % 65521) ((31 * d + gd l k + 1) % 65521) ⟨by omega, by omega⟩ ⟨by omega, by omega⟩ (by omega)
theorem ckF_next (l : List Int) (c b : Int) : ckF c (l ++ [b]) = (31 * ckF c l + b + 1) % 65521 := by
  unfold ckF; rw [List.foldl_append]; rfl
theorem impl_ck_list (l : List Int) (h : l.length ≤ 1000000) (hl : Byt l) : F_impl_Checksum16 (ofL l) = some (ckF 1 l) := by
  unfold F_impl_Checksum16
  have hw : whileP (L_impl_Checksum16_x3 (ofL l)) (1, 0) = some (ckF 1 l) := by
    refine while_from (fun i => (ckF 1 (l.take i), (i : Int))) l.length rfl (fun i hi => ?_) ?_
    · have hg : 0 ≤ gd l i ∧ gd l i ≤ 255 := hl _ (gd_mem hi)
      have hr := ckF_rng (l.take i) 1 ⟨by omega, by omega⟩
      have e : l.take (i + 1) = l.take i ++ [gd l i] := by
        rw [List.take_add_one, gd_lt hi, List.getElem?_eq_getElem hi]; rfl
      simp only [L_impl_Checksum16_x3, letO_eq, s_toNn]
      rw [lt_true (by rw [s_ofN, ofL_len]; omega), br_t, req_of (show std.inR (i : Int) (std.slen (ofL l)) from ⟨by omega, by rw [ofL_len]; omega⟩), req_of (by show (65521 : Int) ≠ 0; omega), ofL_sat hi hg, conv64 (by omega), inc_nat (by omega), e, ckF_next]
      generalize ckF 1 (l.take i) = d at *
      have m1 : std.mul .i64 31 d = 31 * d := wrap_id (by omega) (by omega)
      have a1 : std.add .i64 (31 * d) (gd l i) = 31 * d + gd l i := add_id (by omega) (by omega)
      have a2 : std.add .i64 (31 * d + gd l i) 1 = 31 * d + gd l i + 1 := add_id (by omega) (by omega)
      rw [m1, a1, a2]
      have r1 : std.rem (31 * d + gd l i + 1) 65521 = (31 * d + gd l i + 1) % 65521 := Int.tmod_eq_emod_of_nonneg (by omega)
      rw [r1]
    · simp only [L_impl_Checksum16_x3, letO_eq]
      rw [lt_false (by rw [s_ofN, ofL_len]; omega), br_f, List.take_length]
  rw [hw]
  rfl
theorem ck_list (l : List Int) (h : l.length ≤ 1000000) (hl : Byt l) : ck (ofL l) = ckF 1 l := by
  have h1 := impl_ck_list l h hl
  rw [impl_Checksum16_ok _ (by rw [ofL_size]; omega)] at h1
  injection h1
/- a payload that is too long or too short is refused -/
theorem whole_is (s : ByteArray) (z : Bool) : F_impl_streamReader_take_1_mPP ⟨s, z⟩ = some (!z && std.seq s (ByteArray.mk #[]), ⟨s, z⟩, ⟨s, z⟩) := by
  unfold F_impl_streamReader_take_1_mPP
  cases z <;> rfl
theorem seq_no {q : List Int} (h : q ≠ []) : std.seq (ofL q) (ByteArray.mk #[]) = false := by
  cases hs : std.seq (ofL q) (ByteArray.mk #[]) with
  | false => rfl
  | true =>
    have h3 := congrArg ByteArray.size (seq_iff.1 hs)
    rw [ofL_size] at h3
    exact absurd (List.eq_nil_of_length_eq_zero h3) h
/-- refused -/
def TB (st : TstreamReader) (k : Int) (s : ByteArray) (pre : ByteArray) : Prop := ∃ st2, F_impl_streamReader_take_mPoooobbb st k s pre = some (4, st2)
theorem poss_of {st st1 : TstreamReader} {k : Int} {s pre : ByteArray} (h : F_impl_streamReader_take_mPoooobbb st k s pre = some (0, st1)) : F_impl_streamReader_possible_mpb st k = some true := by
  unfold F_impl_streamReader_take_mPoooobbb at h
  cases hp : F_impl_streamReader_possible_mpb st k with
  | none => rw [hp] at h; cases h
  | some b =>
    cases b with
    | true => rfl
    | false =>
      rw [hp, Option.bind_some, Bool.not_false, br_t] at h
      injection h with h; injection h with h _
      exact absurd h (by decide)
theorem take_gen {α : Type} {st st1 : TstreamReader} {k : Int} {pre : ByteArray} (R : TbyteReader → Option (α × TbyteReader)) (hR : ∀ q p z, Byt p → Rda q z (fun _ => True) (R ⟨ofL p, z⟩) (R ⟨ofL (p ++ q), false⟩))
    (hT : ∀ p v r z, R ⟨ofL p, false⟩ = some (v, ⟨r, z⟩) → (!z && std.seq r (ByteArray.mk #[])) = false → TB st k (ofL p) pre) {p : List Int} (hp : Byt p) (h : F_impl_streamReader_take_mPoooobbb st k (ofL p) pre = some (0, st1)) :
    (∀ q, q ≠ [] → TB st k (ofL (p ++ q)) pre) ∧ ∀ p1 q, p = p1 ++ q → q ≠ [] → TB st k (ofL p1) pre := by
  have hno : ¬ TB st k (ofL p) pre := by
    rintro ⟨st2, h2⟩
    rw [h] at h2; injection h2 with h2; injection h2 with h2 _
    exact absurd h2 (by decide)
  refine ⟨fun q hq => ?_, fun p1 q he hq => ?_⟩
  · obtain ⟨v, r, z, e1, _, _, w, _⟩ := hR q p false hp
    cases z with
    | true => exact absurd (hT p v _ _ e1 rfl) hno
    | false =>
      by_cases hr : r = []
      · subst hr
        exact hT _ v _ _ (w rfl) (by rw [List.nil_append, seq_no hq]; rfl)
      · exact absurd (hT p v _ _ e1 (by rw [seq_no hr]; rfl)) hno
  · have hp1 : Byt p1 := fun b hb => hp b (by rw [he]; exact List.mem_append_left _ hb)
    obtain ⟨v, r, z, e1, _, _, w, _⟩ := hR q p1 false hp1
    cases z with
    | true => exact hT p1 v _ _ e1 rfl
    | false =>
      refine absurd ?_ hno
      rw [he]
      exact hT _ v _ _ (w rfl) (by rw [seq_no (fun h => hq (List.append_eq_nil_iff.1 h).2)]; rfl)
theorem of_bindS {α β : Type} {x : Option α} {f : α → Option β} {r : β} (h : x.bind f = some r) : ∃ y, x = some y ∧ f y = some r := by
  cases x with
  | none => cases h
  | some y => exact ⟨y, rfl, h⟩
set_option maxHeartbeats 4000000 in
theorem take_len {st st1 : TstreamReader} {k : Int} {pre : ByteArray} (hl : st.glib.fCells.length ≤ 1000) (hk : 1 ≤ k ∧ k ≤ 7) {p : List Int} (hp : Byt p) (h : F_impl_streamReader_take_mPoooobbb st k (ofL p) pre = some (0, st1)) :
    (∀ q, q ≠ [] → TB st k (ofL (p ++ q)) pre) ∧ ∀ p1 q, p = p1 ++ q → q ≠ [] → TB st k (ofL p1) pre := by
  have hposs := poss_of h
  have hk' : k = 1 ∨ k = 2 ∨ k = 3 ∨ k = 4 ∨ k = 5 ∨ k = 6 ∨ k = 7 := by omega
  rcases hk' with rfl | rfl | rfl | rfl | rfl | rfl | rfl
  · refine take_gen (α := Int × Int) (fun rd => (F_impl_byteReader_one_mPb rd).bind fun y => (F_impl_byteReader_one_mPb y.2).bind fun z => some ((y.1, z.1), z.2)) (fun q p z hp => Rda.bind (rda_one q p z hp) fun _ p z hp _ => Rda.bind (rda_one q p z hp) fun _ p z hp _ => Rda.ret hp trivial) (fun p v r z e hw => ?_) hp h
    obtain ⟨y, e1, e⟩ := of_bindS e
    obtain ⟨u, e2, e⟩ := of_bindS e
    injection e with e; injection e with _ e
    unfold TB F_impl_streamReader_take_mPoooobbb
    rw [hposs]
    obtain ⟨u1, u2⟩ := u
    simp only at e
    subst e
    simp only [Option.bind_some, Bool.not_true, br_f, e11, br_t, e1, e2, whole_is, hw, Bool.not_false, letO_eq]
    exact ⟨_, rfl⟩
  · refine take_gen (fun rd => F_impl_byteReader_name_mPb rd) (fun q p z hp => by obtain ⟨v, a, b, c, d, e, f, _⟩ := rda_name q p z hp; exact ⟨v, a, b, c, d, e, f, trivial⟩) (fun p v r z e1 hw => ?_) hp h
    unfold TB F_impl_streamReader_take_mPoooobbb
    rw [hposs]
    simp only [Option.bind_some, Bool.not_true, br_f, e21, e22, br_t, e1, whole_is, hw, Bool.not_false, letO_eq]
    exact ⟨_, rfl⟩
  · refine take_gen (fun rd => F_impl_byteReader_shape_mPb rd) (fun q p z hp => rda_shape q p z hp) (fun p v r z e1 hw => ?_) hp h
    unfold TB F_impl_streamReader_take_mPoooobbb
    rw [hposs]
    simp only [Option.bind_some, Bool.not_true, br_f, e31, e32, e33, br_t, e1, whole_is, hw, Bool.not_false, letO_eq]
    exact ⟨_, rfl⟩
  · refine take_gen (fun rd => F_impl_byteReader_label_mPb rd) (fun q p z hp => rda_label q p z hp) (fun p v r z e1 hw => ?_) hp h
    unfold TB F_impl_streamReader_take_mPoooobbb
    rw [hposs]
    simp only [Option.bind_some, Bool.not_true, br_f, e41, e42, e43, e44, br_t, e1, whole_is, hw, Bool.not_false, letO_eq]
    exact ⟨_, rfl⟩
  · refine take_gen (α := { s : ByteArray // s.size ≤ 255 } × TInstance) (fun rd => (F_impl_byteReader_name_mPb rd).bind fun y => if h : y.1.size ≤ 255 then (F_impl_byteReader_instance_mPb y.2).bind fun z => some ((⟨y.1, h⟩, z.1), z.2) else none) (fun q p z hp => Rda.bind (rda_name q p z hp) fun v p z hp hv => by
      simp only [dif_pos hv]
      exact Rda.bind (rda_inst q p z hp) fun _ p z hp _ => Rda.ret hp trivial) (fun p v r z e hw => ?_) hp h
    obtain ⟨y, e1, e⟩ := of_bindS e
    split at e
    · rename_i hv
      obtain ⟨u, e2, e⟩ := of_bindS e
      injection e with e; injection e with _ e
      unfold TB F_impl_streamReader_take_mPoooobbb
      rw [hposs]
      obtain ⟨u1, u2⟩ := u
      simp only at e
      subst e
      simp only [Option.bind_some, Bool.not_true, br_f, e51, e52, e53, e54, e55, br_t, e1, e2, impl_named_ok st.glib y.1 (by omega), whole_is, hw, Bool.not_false, letO_eq]
      exact ⟨_, rfl⟩
    · cases e
  · refine take_gen (α := Int × Int × Int) (fun rd => (F_impl_byteReader_one_mPb rd).bind fun y => (F_impl_byteReader_one_mPb y.2).bind fun z => (F_impl_byteReader_one_mPb z.2).bind fun t => some ((y.1, z.1, t.1), t.2)) (fun q p z hp => Rda.bind (rda_one q p z hp) fun _ p z hp _ => Rda.bind (rda_one q p z hp) fun _ p z hp _ => Rda.bind (rda_one q p z hp) fun _ p z hp _ => Rda.ret hp trivial) (fun p v r z e hw => ?_) hp h
    obtain ⟨y, e1, e⟩ := of_bindS e
    obtain ⟨u, e2, e⟩ := of_bindS e
    obtain ⟨t, e3, e⟩ := of_bindS e
    injection e with e; injection e with _ e
    unfold TB F_impl_streamReader_take_mPoooobbb
    rw [hposs]
    obtain ⟨t1, t2⟩ := t
    simp only at e
    subst e
    simp only [Option.bind_some, Bool.not_true, br_f, e61, e62, e63, e64, e65, e66, br_t, e1, e2, e3, whole_is, hw, Bool.not_false, letO_eq]
    exact ⟨_, rfl⟩
  · refine take_gen (fun rd => F_impl_byteReader_two_mPb rd) (fun q p z hp => rda_two q p z hp) (fun p v r z e1 hw => ?_) hp h
    unfold TB F_impl_streamReader_take_mPoooobbb
    rw [hposs]
    simp only [Option.bind_some, Bool.not_true, br_f, e71, e72, e73, e74, e75, e76, e77, br_t, e1, whole_is, hw, Bool.not_false, letO_eq]
    exact ⟨_, rfl⟩
/- what is split off of any bytes -/
theorem ssub_list (X : List Int) (i j : Nat) : std.ssub (ofL X) i j = ofL ((X.drop i).take (j - i)) := by
  apply bytes_ext
  rw [ofL_data]
  show ((ofL X).extract i j).data.toList = _
  rw [ByteArray.data_extract, Array.toList_extract, ofL_data, List.extract_eq_take_drop, List.map_take, List.map_drop]
set_option maxHeartbeats 4000000 in
theorem split_gen (pre : ByteArray) (X : List Int) (hX : Byt X) (h2 : 2 ≤ X.length) (hs : pre.size + X.length ≤ 1000000) :
    ∃ (kk : Int) (p' : ByteArray) (nx c : Int) (n : Nat), F_impl_SplitRecord (std.scat pre (ofL X)) (pre.size : Int) = some (kk, p', nx, c) ∧ (n : Int) = gd X 0 * 256 + gd X 1 ∧
      (c = 0 → 5 ≤ n ∧ n ≤ X.length ∧ gd X (n - 2) * 256 + gd X (n - 1) = ckF 1 (X.take (n - 2)) ∧ kk = gd X 2 ∧ p' = ofL ((X.drop 3).take (n - 5))) := by
  have hg : ∀ i, i < X.length → 0 ≤ gd X i ∧ gd X i ≤ 255 := fun i hi => hX _ (gd_mem hi)
  have g0 := hg 0 (by omega)
  have g1 := hg 1 (by omega)
  obtain ⟨n, hn⟩ : ∃ n : Nat, (n : Int) = gd X 0 * 256 + gd X 1 := ⟨(gd X 0 * 256 + gd X 1).toNat, by omega⟩
  have er : std.ssub (std.scat pre (ofL X)) (std.toN (pre.size : Int)) (std.slen (std.scat pre (ofL X))) = ofL X := by rw [s_toNn]; exact ssub_tail
  have hsz : std.slen (std.scat pre (ofL X)) = pre.size + X.length := by rw [s_slen, scat_size, ofL_size]
  have hl : std.slen (ofL X) = X.length := ofL_len X
  have w1 : wB (pre.size : Int) 0 (std.ofN (std.slen (std.scat pre (ofL X)))) = true := (wB_iff' _ _ _).2 (by rw [s_ofN, hsz]; omega)
  have b0 : std.sat (ofL X) (std.toN 0) = gd X 0 := ofL_sat (by show 0 < X.length; omega) g0
  have b1 : std.sat (ofL X) (std.toN 1) = gd X 1 := ofL_sat (by show 1 < X.length; omega) g1
  have eN : std.add .i64 (std.shl .i64 (std.conv .i64 (gd X 0)) 8) (std.conv .i64 (gd X 1)) = (n : Int) := by rw [num2 (by omega) (by omega), hn]
  have i0 : std.inR 0 X.length := ⟨by omega, by omega⟩
  have i1 : std.inR 1 X.length := ⟨by omega, by omega⟩
  unfold F_impl_SplitRecord
  rw [impl_within_ok, Option.bind_some, w1, Bool.not_true, br_f, req_of (show std.upTo (pre.size : Int) (std.slen (std.scat pre (ofL X))) from ⟨by omega, by rw [hsz]; omega⟩), er, hl, b0, b1, eN, lt_false (by rw [s_ofN]; omega), br_f, req_of i0, req_of (show std.nneg 8 by rw [s_nneg]; omega), req_of i1]
  by_cases h5 : (n : Int) < 5
  · rw [lt_true h5, br_t]
    exact ⟨_, _, _, 4, n, rfl, hn, fun h => absurd h (by decide)⟩
  rw [lt_false h5, br_f, s_ofN]
  by_cases hx : (X.length : Int) < n
  · rw [lt_true hx, br_t]
    exact ⟨_, _, _, 7, n, rfl, hn, fun h => absurd h (by decide)⟩
  have m2 : std.sub .i64 (n : Int) 2 = ((n - 2 : Nat) : Int) := by rw [sub_id (by omega) (by omega)]; omega
  have m1 : std.sub .i64 (n : Int) 1 = ((n - 1 : Nat) : Int) := by rw [sub_id (by omega) (by omega)]; omega
  have c2 := hg (n - 2) (by omega)
  have c1 := hg (n - 1) (by omega)
  have k2 := hg 2 (by omega)
  have s2 : std.sat (ofL X) (n - 2) = gd X (n - 2) := ofL_sat (by omega) c2
  have s1 : std.sat (ofL X) (n - 1) = gd X (n - 1) := ofL_sat (by omega) c1
  have sk : std.sat (ofL X) (std.toN 2) = gd X 2 := ofL_sat (by show 2 < X.length; omega) k2
  have hck : F_impl_Checksum16 (std.ssub (ofL X) 0 (n - 2)) = some (ckF 1 (X.take (n - 2))) := by
    rw [ssub_list, List.drop_zero, Nat.sub_zero]
    exact impl_ck_list _ (by rw [List.length_take]; omega) (fun b hb => hX b (List.mem_of_mem_take hb))
  have hpl : std.ssub (ofL X) (std.toN 3) (n - 2) = ofL ((X.drop 3).take (n - 5)) := by
    rw [show std.toN 3 = 3 from rfl, ssub_list, show n - 2 - 3 = n - 5 by omega]
  rw [lt_false hx, br_f, m2, m1]
  simp only [s_toNn, s2, s1, sk, hpl, hck]
  rw [req_of (show std.inR ((n - 2 : Nat) : Int) X.length from ⟨by omega, by omega⟩), req_of (show std.nneg 8 by rw [s_nneg]; omega), req_of (show std.inR ((n - 1 : Nat) : Int) X.length from ⟨by omega, by omega⟩), req_of (show std.inR 2 X.length from ⟨by omega, by omega⟩),
    req_of (show std.upTo ((n - 2 : Nat) : Int) X.length from ⟨by omega, by omega⟩), req_of (show std.upTo 3 (n - 2) from ⟨by omega, by omega⟩), req_of (show std.upTo ((n - 2 : Nat) : Int) X.length from ⟨by omega, by omega⟩), Option.bind_some, num2 (by omega) (by omega)]
  by_cases hq : gd X (n - 2) * 256 + gd X (n - 1) = ckF 1 (X.take (n - 2))
  · rw [notEq (eq_true' hq), br_f, conv64 (by omega), impl_within_ok, Option.bind_some]
    obtain ⟨B, hB⟩ : ∃ B : Bool, (br (!(wB (gd X 2) 1 7)) (some true) (some (std.lt 200 (std.ofN (std.slen (ofL ((X.drop 3).take (n - 5)))))))) = some B := by
      cases wB (gd X 2) 1 7
      · exact ⟨true, rfl⟩
      · exact ⟨_, rfl⟩
    rw [hB, Option.bind_some, letO_eq]
    cases B with
    | true =>
      rw [br_t]
      exact ⟨_, _, _, 4, n, rfl, hn, fun h => absurd h (by decide)⟩
    | false =>
      rw [br_f]
      exact ⟨_, _, _, 0, n, rfl, hn, fun _ => ⟨by omega, by omega, hq, rfl, rfl⟩⟩
  · rw [eq_false' hq, s_not, Bool.not_false, br_t]
    exact ⟨_, _, _, 8, n, rfl, hn, fun h => absurd h (by decide)⟩
/- a record in which one byte is another is refused -/
theorem byt_set {l : List Int} (h : Byt l) {b : Int} (hb : 0 ≤ b ∧ b ≤ 255) (j : Nat) : Byt (l.set j b) := fun x hx => by
  rcases List.mem_or_eq_of_mem_set hx with h1 | h1
  · exact h x h1
  · rw [h1]; exact hb
theorem byt_str (s : ByteArray) : Byt (strL s) := fun x hx => by
  unfold strL at hx
  obtain ⟨b, _, rfl⟩ := List.mem_map.1 hx
  have := b.toNat_lt
  omega
theorem byt_app {a b : List Int} (ha : Byt a) (hb : Byt b) : Byt (a ++ b) := fun x hx => by
  rcases List.mem_append.1 hx with h | h
  · exact ha x h
  · exact hb x h
theorem byt_cons {a : Int} {b : List Int} (ha : 0 ≤ a ∧ a ≤ 255) (hb : Byt b) : Byt (a :: b) := fun x hx => by
  rcases List.mem_cons.1 hx with h | h
  · rw [h]; exact ha
  · exact hb x h
theorem strL_ofL {l : List Int} (h : Byt l) : strL (ofL l) = l := by
  unfold strL
  rw [ofL_data, List.map_map]
  conv => rhs; rw [← List.map_id l]
  refine List.map_congr_left fun x hx => ?_
  have := h x hx
  show ((UInt8.ofNat x.toNat).toNat : Int) = x
  rw [UInt8.toNat_ofNat']
  omega
theorem strL_scat (a b : ByteArray) : strL (std.scat a b) = strL a ++ strL b := by
  unfold strL
  rw [← List.map_append]
  congr 1
  all_goals first | rfl | (show (a ++ b).data.toList = _; rw [ByteArray.data_append, Array.toList_append])
theorem gd_cons0 (x : Int) (l : List Int) : gd (x :: l) 0 = x := rfl
theorem gd_cons (x : Int) (l : List Int) (i : Nat) : gd (x :: l) (i + 1) = gd l i := rfl
theorem gd_app_r {a b : List Int} {i : Nat} : gd (a ++ b) (a.length + i) = gd b i := by
  unfold gd
  rw [List.getD_eq_getElem?_getD, List.getD_eq_getElem?_getD, List.getElem?_append_right (by omega), Nat.add_sub_cancel_left]
theorem gd_app_l {a b : List Int} {i : Nat} (h : i < a.length) : gd (a ++ b) i = gd a i := by
  unfold gd
  rw [List.getD_eq_getElem?_getD, List.getD_eq_getElem?_getD, List.getElem?_append_left h]
theorem pay_other {st st1 : TstreamReader} {k : Int} {pre : ByteArray} (hl : st.glib.fCells.length ≤ 1000) (hk : 1 ≤ k ∧ k ≤ 7) {P Q : List Int} (hp : Byt P) (h : F_impl_streamReader_take_mPoooobbb st k (ofL P) pre = some (0, st1)) {m : Nat} (hm : m ≠ P.length) (hq : m ≤ (P ++ Q).length) :
    TB st k (ofL ((P ++ Q).take m)) pre := by
  obtain ⟨t1, t2⟩ := take_len hl hk hp h
  by_cases hlt : P.length < m
  · rw [List.take_append, List.take_of_length_le (by omega)]
    refine t1 _ fun e => ?_
    have e1 := congrArg List.length e
    rw [List.length_take, List.length_nil] at e1
    rw [List.length_append] at hq
    omega
  · rw [List.take_append_of_le_length (by omega)]
    refine t2 _ (P.drop m) (List.take_append_drop m P).symm fun e => ?_
    have e1 := congrArg List.length e
    rw [List.length_drop, List.length_nil] at e1
    omega
set_option maxHeartbeats 4000000 in
theorem rec_bad {st st1 : TstreamReader} {k : Int} {pre : ByteArray} {P R : List Int} {a0 a1 c0 c1 b : Int} {j : Nat} (hl : st.glib.fCells.length ≤ 1000) (hk : 1 ≤ k ∧ k ≤ 7) (hP : Byt P) (hR : Byt R)
    (h0 : 0 ≤ a0 ∧ a0 ≤ 255) (h1 : 0 ≤ a1 ∧ a1 ≤ 255) (hc0 : 0 ≤ c0 ∧ c0 ≤ 255) (hc1 : 0 ≤ c1 ∧ c1 ≤ 255) (ha : a0 * 256 + a1 = (P.length : Int) + 5) (hc : c0 * 256 + c1 = ckF 1 (a0 :: a1 :: k :: P))
    (hb : 0 ≤ b ∧ b ≤ 255) (hj : j < P.length + 5) (hne : b ≠ gd (a0 :: a1 :: k :: (P ++ c0 :: c1 :: R)) j) (hs : pre.size + (P.length + 5 + R.length) ≤ 1000000)
    (ht : F_impl_streamReader_take_mPoooobbb st k (ofL P) pre = some (0, st1)) :
    ∃ kk p' nx c, F_impl_SplitRecord (std.scat pre (ofL ((a0 :: a1 :: k :: (P ++ c0 :: c1 :: R)).set j b))) (pre.size : Int) = some (kk, p', nx, c) ∧ (c = 0 → TB st kk p' pre) := by
  have hW : Byt (a0 :: a1 :: k :: (P ++ c0 :: c1 :: R)) := byt_cons h0 (byt_cons h1 (byt_cons (by omega) (byt_app hP (byt_cons hc0 (byt_cons hc1 hR)))))
  have hlen : ((a0 :: a1 :: k :: (P ++ c0 :: c1 :: R)).set j b).length = P.length + 5 + R.length := by
    rw [List.length_set]; simp only [List.length_cons, List.length_append]; omega
  obtain ⟨kk, p', nx, c, n, e, en, hcc⟩ := split_gen pre _ (byt_set hW hb j) (by rw [hlen]; omega) (by rw [hlen]; omega)
  refine ⟨kk, p', nx, c, e, fun hz => ?_⟩
  obtain ⟨n5, nl, q1, q2, q3⟩ := hcc hz
  rw [hlen] at nl
  rcases j with _ | _ | j
  · rw [List.set_cons_zero] at en q2 q3
    rw [gd_cons0] at hne
    rw [gd_cons0, gd_cons, gd_cons0] at en
    rw [gd_cons, gd_cons, gd_cons0] at q2
    rw [q2, q3]
    show TB st k (ofL ((P ++ c0 :: c1 :: R).take (n - 5))) pre
    exact pay_other hl hk hP ht (by omega) (by simp only [List.length_append, List.length_cons]; omega)
  · rw [List.set_cons_succ, List.set_cons_zero] at en q2 q3
    rw [gd_cons, gd_cons0] at hne
    rw [gd_cons0, gd_cons, gd_cons0] at en
    rw [gd_cons, gd_cons, gd_cons0] at q2
    rw [q2, q3]
    show TB st k (ofL ((P ++ c0 :: c1 :: R).take (n - 5))) pre
    exact pay_other hl hk hP ht (by omega) (by simp only [List.length_append, List.length_cons]; omega)
  · exfalso
    have e0 : gd ((a0 :: a1 :: k :: (P ++ c0 :: c1 :: R)).set (j + 1 + 1) b) 0 = a0 := by rw [gd_set_ne (by omega)]; rfl
    have e1 : gd ((a0 :: a1 :: k :: (P ++ c0 :: c1 :: R)).set (j + 1 + 1) b) 1 = a1 := by rw [gd_set_ne (by omega)]; rfl
    rw [e0, e1] at en
    have hn : n = P.length + 5 := by omega
    subst hn
    have f1 : (a0 :: a1 :: k :: (P ++ c0 :: c1 :: R)).take (P.length + 5 - 2) = a0 :: a1 :: k :: P := by
      show (a0 :: a1 :: k :: (P ++ c0 :: c1 :: R)).take (P.length + 3) = _
      rw [List.take_succ_cons, List.take_succ_cons, List.take_succ_cons, List.take_append_of_le_length (Nat.le_refl _), List.take_length]
    have g0 : gd (a0 :: a1 :: k :: (P ++ c0 :: c1 :: R)) (P.length + 5 - 2) = c0 := by
      show gd (P ++ c0 :: c1 :: R) (P.length + 0) = c0
      rw [gd_app_r]; rfl
    have g1 : gd (a0 :: a1 :: k :: (P ++ c0 :: c1 :: R)) (P.length + 5 - 1) = c1 := by
      show gd (P ++ c0 :: c1 :: R) (P.length + 1) = c1
      rw [gd_app_r]; rfl
    rw [List.take_set, f1] at q1
    by_cases hjl : j + 1 + 1 < P.length + 3
    · rw [gd_set_ne (by omega), gd_set_ne (by omega), g0, g1, hc] at q1
      refine ckF_set (l := a0 :: a1 :: k :: P) (by simp only [List.length_cons]; omega) (byt_cons h0 (byt_cons h1 (byt_cons (by omega) hP))) hb ?_ (c := 1) (by omega) q1.symm
      intro e2
      refine hne (e2.trans ?_)
      have e3 : (a0 :: a1 :: k :: (P ++ c0 :: c1 :: R)) = (a0 :: a1 :: k :: P) ++ (c0 :: c1 :: R) := rfl
      rw [e3, gd_app_l (by simp only [List.length_cons]; omega)]
    · rw [List.set_eq_of_length_le (l := a0 :: a1 :: k :: P) (by simp only [List.length_cons]; omega), ← hc] at q1
      by_cases hj3 : j + 1 + 1 = P.length + 5 - 2
      · rw [hj3, gd_set_eq (by simp only [List.length_cons, List.length_append]; omega), gd_set_ne (by omega), g1] at q1
        rw [hj3, g0] at hne
        omega
      · have hj4 : j + 1 + 1 = P.length + 5 - 1 := by omega
        rw [hj4, gd_set_eq (by simp only [List.length_cons, List.length_append]; omega), gd_set_ne (by omega), g0] at q1
        rw [hj4, g1] at hne
        omega
/-- a record's bytes -/
theorem recB_list {k : Int} {p : ByteArray} (hk : 1 ≤ k ∧ k ≤ 7) (hp : p.size ≤ 200) : ∃ a0 a1 c0 c1 : Int, (0 ≤ a0 ∧ a0 ≤ 255) ∧ (0 ≤ a1 ∧ a1 ≤ 255) ∧ (0 ≤ c0 ∧ c0 ≤ 255) ∧ (0 ≤ c1 ∧ c1 ≤ 255) ∧
    a0 * 256 + a1 = ((strL p).length : Int) + 5 ∧ c0 * 256 + c1 = ckF 1 (a0 :: a1 :: k :: strL p) ∧ strL (recB k p) = a0 :: a1 :: k :: (strL p ++ [c0, c1]) := by
  have hL : std.add .i64 (std.ofN (std.slen p)) 5 = ((p.size + 5 : Nat) : Int) := by rw [s_ofN, s_slen, add_id (by omega) (by omega)]; omega
  have hk8 : std.conv .u8 k = k := by rw [conv8_eq]; omega
  have hd : ∀ x : Int, 0 ≤ x ∧ x < 65536 → twoR x = [x / 256, x % 256] := fun x hx => by
    unfold twoR
    rw [conv8_eq, conv8_eq, shr8]
    congr 1
    omega
  have hH : headR k p = ofL ([((p.size + 5 : Nat) : Int) / 256, ((p.size + 5 : Nat) : Int) % 256] ++ [k] ++ strL p) := by
    unfold headR oneB
    rw [hL, hk8, hd _ (by omega), ofL_app, scat_str]
  have hHb : Byt ([((p.size + 5 : Nat) : Int) / 256, ((p.size + 5 : Nat) : Int) % 256] ++ [k] ++ strL p) :=
    byt_app (byt_cons (by omega) (byt_cons (by omega) (byt_cons (by omega) (fun x hx => by cases hx)))) (byt_str p)
  have hck : ck (headR k p) = ckF 1 ([((p.size + 5 : Nat) : Int) / 256, ((p.size + 5 : Nat) : Int) % 256] ++ [k] ++ strL p) := by
    rw [hH]
    exact ck_list _ (by rw [List.length_append, strL_length]; simp only [List.length_append, List.length_cons, List.length_nil]; omega) hHb
  have hr := ckF_rng ([((p.size + 5 : Nat) : Int) / 256, ((p.size + 5 : Nat) : Int) % 256] ++ [k] ++ strL p) 1 (by omega)
  rw [← hck] at hr
  refine ⟨((p.size + 5 : Nat) : Int) / 256, ((p.size + 5 : Nat) : Int) % 256, ck (headR k p) / 256, ck (headR k p) % 256, by omega, by omega, by omega, by omega, by rw [strL_length]; omega, ?_, ?_⟩
  · have e1 : ckF 1 (((p.size + 5 : Nat) : Int) / 256 :: ((p.size + 5 : Nat) : Int) % 256 :: k :: strL p) = ck (headR k p) := hck.symm
    rw [e1]; omega
  · unfold recB
    rw [hd _ (by omega), strL_scat]
    have e2 : strL (headR k p) = [((p.size + 5 : Nat) : Int) / 256, ((p.size + 5 : Nat) : Int) % 256] ++ [k] ++ strL p := by
      rw [hH, strL_ofL hHb]
    rw [e2, strL_ofL (byt_cons (by omega) (byt_cons (by omega) (fun x hx => by cases hx)))]
    rfl
/-- a stream in which one byte is another -/
theorem changed {a : TLibrary} (hv : okLib a = true) {K : Nat} (hK : K < (libR a).size) {b : Int} (hb : 0 ≤ b ∧ b ≤ 255) (hne : b ≠ gd (strL (libR a)) K) :
    ∃ l c n, F_impl_ReadStream (ofL ((strL (libR a)).set K b)) = some (l, c, n) ∧ c ≠ 0 := by
  have hsz := libR_len hv
  have hs := libR_size hv
  have hR := libR_catR a
  rcases cut_catR (recs a) K (by rw [← hR]; omega) with h1 | ⟨r1, k, p, r2, j, h1, h2, h3, _⟩
  · rw [← hR] at h1; omega
  have hrun := runs_lib hv
  rw [h1] at hrun
  obtain ⟨st1, g1, g2⟩ := hrun.split
  obtain ⟨⟨g3, g4⟩, st2, g5, _⟩ := g2
  rw [empty_scat] at g5
  have hok := recs_ok hv
  rw [h1] at hok
  obtain ⟨hk, hp⟩ := hok (k, p) (by simp)
  simp only at hp hk
  obtain ⟨a0, a1, c0, c1, b0, b1, b2, b3, ha, hc, hrec⟩ := recB_list hk hp
  have hS : (libR a).size = (catR r1).size + (p.size + 5 + (catR r2).size) := by
    rw [hR, h1, catR_app, scat_size, catR, scat_size, recB_size]
  have hlist : strL (libR a) = strL (catR r1) ++ (a0 :: a1 :: k :: (strL p ++ c0 :: c1 :: strL (catR r2))) := by
    rw [hR, h1, catR_app, strL_scat, catR, strL_scat, hrec]
    simp
  have hgd : gd (strL (libR a)) K = gd (a0 :: a1 :: k :: (strL p ++ c0 :: c1 :: strL (catR r2))) j := by
    rw [hlist, h3, ← strL_length, gd_app_r]
  have hset : ofL ((strL (libR a)).set K b) = std.scat (catR r1) (ofL ((a0 :: a1 :: k :: (strL p ++ c0 :: c1 :: strL (catR r2))).set j b)) := by
    rw [hlist, h3, ← strL_length, List.set_append_right _ _ (by omega), Nat.add_sub_cancel_left, ← ofL_app, ofL_str]
  obtain ⟨kk, p', nx, c, e, hbad⟩ := rec_bad (R := strL (catR r2)) (pre := catR r1) (j := j) (b := b) (st := st1) (st1 := st2) (by rw [g4, List.length_take]; have := okLib_le hv; omega) hk (byt_str p) (byt_str _) b0 b1 b2 b3 ha hc hb (by rw [strL_length]; omega) (by rw [← hgd]; exact hne) (by rw [strL_length, strL_length]; omega) (by rw [ofL_str]; exact g5)
  have hl := rd_loop r1 0 st0 st1 (ByteArray.mk #[]) (ofL ((a0 :: a1 :: k :: (strL p ++ c0 :: c1 :: strL (catR r2))).set j b)) (fun x hx => hok x (by simp [hx])) g1 (by
    rw [ofL_size, List.length_set]
    show 0 + _ ≤ _
    simp only [List.length_cons, List.length_append, strL_length]
    omega)
  rw [empty_scat, ← hset] at hl
  have hl' : whileP (L_impl_readStream_x11 (ofL ((strL (libR a)).set K b))) (0, false, false, 0, false, (ByteArray.mk #[]), ([] : List TShape), ([] : List TLabel), ([] : List TInstance), ([] : List TCell)) = _ := hl
  have e0 : (ByteArray.mk #[]).size + (catR r1).size = (catR r1).size := Nat.zero_add _
  have hsl : std.slen (ofL ((strL (libR a)).set K b)) = (libR a).size := by rw [ofL_len, List.length_set, strL_length]
  have hpre : std.ssub (ofL ((strL (libR a)).set K b)) 0 (catR r1).size = catR r1 := by rw [hset]; exact ssub_head
  have hst : TstreamReader.mk st1.gbegun false st1.gcells st1.ginside (TCell.mk st1.gcell.fName st1.gcell.fShapes st1.gcell.fLabels st1.gcell.fInstances) (TLibrary.mk st1.glib.fCells) = st1 := by rw [← g3]
  rw [← hset] at e
  unfold F_impl_ReadStream F_impl_readStream
  rw [hl', whileP_unfold, e0]
  by_cases hz : c = 0
  · obtain ⟨st3, h4⟩ := hbad hz
    subst hz
    simp only [L_impl_readStream_x11, letO_eq, tup, g3, Bool.not_false, br_t, e, Option.bind_some, eq_true' rfl, req_of (show std.upTo ((catR r1).size : Int) (std.slen (ofL ((strL (libR a)).set K b))) from ⟨by omega, by rw [hsl]; omega⟩), s_toNn, hpre, hst, h4]
    exact ⟨_, _, _, rfl, show (4 : Int) ≠ 0 by decide⟩
  · simp only [L_impl_readStream_x11, letO_eq, tup, g3, Bool.not_false, br_t, e, Option.bind_some, eq_false' hz, br_f, s_not]
    exact ⟨_, _, _, rfl, hz⟩
/- FnStreamByte -/
theorem below_gen {c : List Int} (hc : OKc c) {d : Tdice} (hd : d.gb = c ∧ 0 ≤ d.gi ∧ d.gi ≤ (c.length : Int)) {m : Int} (hm : 0 < m ∧ m ≤ 1000000000) : Tot (F_laws_dice_below_mPbb d m) fun r => (0 ≤ r.1 ∧ r.1 < m) ∧ r.2.gb = c ∧ 0 ≤ r.2.gi ∧ r.2.gi ≤ (c.length : Int) := by
  unfold F_laws_dice_below_mPbb
  rw [req_of (by rw [s_nneg]; omega)]
  have hb := bit24 (std.shr .u64 (std.add .u64 (std.mul .u64 d.gh 6364136223846793005) 1442695040888963407) 33)
  obtain ⟨B, hB⟩ : ∃ B, B = std.bitand .u64 (std.shr .u64 (std.add .u64 (std.mul .u64 d.gh 6364136223846793005) 1442695040888963407) 33) 16777215 := ⟨_, rfl⟩
  rw [← hB] at hb ⊢
  have hcB : std.conv .i64 B = B := conv64 (by omega)
  have hl := hc.1
  obtain ⟨d1, d2, d3⟩ := hd
  refine Tot.bind (P := fun y : Int × Int => 0 ≤ y.1 ∧ 0 ≤ y.2 ∧ y.2 ≤ (c.length : Int)) (Tot.br (fun hk => ?_) fun _ => Tot.ret ⟨by rw [hcB]; exact hb.1, d2, d3⟩) fun y hy => ?_
  · have hk' := lt_dec hk
    rw [d1, s_ofN, len_eq] at hk'
    refine Tot.req (by rw [d1]; exact ⟨by omega, by rw [len_eq]; omega⟩) (Tot.ret ?_)
    have hg := gd_byte hc (i := d.gi) (by omega) hk'
    rw [d1, hcB, conv64 (by omega), add_id (by omega) (by omega), add_id (by omega) (by omega)]
    refine ⟨?_, ?_, ?_⟩ <;> simp only <;> omega
  · refine Tot.req (by show m ≠ 0; omega) (Tot.ret ?_)
    exact ⟨remB hy.1 hm.1, d1, hy.2.1, hy.2.2⟩
theorem lawW_StreamByte (c : List Int) (w : (wfL (wfI .u8)) c) : F_laws_FnStreamByte c = some true := by
  unfold F_laws_FnStreamByte F_laws_big
  rw [Option.bind_some]
  cases hb : std.lt 4096 (std.ofN (len c)) with
  | true => rfl
  | false =>
    rw [br_f]
    have hl := lt_decf hb
    rw [s_ofN, len_eq] at hl
    have hc : OKc c := ⟨by omega, fun b hm => wf_byteS (w.2 b hm)⟩
    obtain ⟨a, h1, h2⟩ := drawStream_ok hc
    rw [h1, Option.bind_some, spec_LibraryStream_ok a h2, Option.bind_some]
    cases hv : okLib a with
    | false =>
      have e : std.seq (ByteArray.mk #[]) (ByteArray.mk #[]) = true := seq_self _
      have e1 : F_impl_Checksum16 (ByteArray.mk #[]) = some 1 := impl_ck_list [] (by simp) (fun x hx => by cases hx)
      simp only [Bool.false_eq_true, if_false, e, br_t, impl_LibraryStream_ok a h2, hv, Option.bind_some, e1]
      rfl
    | true =>
      have hsz := libR_len hv
      have hs := libR_size hv
      have hne : std.seq (libR a) (ByteArray.mk #[]) = false := by
        cases hs : std.seq (libR a) (ByteArray.mk #[]) with
        | false => rfl
        | true =>
          have h3 := congrArg ByteArray.size (seq_iff.1 hs)
          rw [hsz] at h3
          exact absurd h3 (by show ¬ (_ + 7 = 0); omega)
      simp only [if_true, hne, br_f, letO_eq]
      obtain ⟨d, d1, d2⟩ := roll_ok hc 531
      rw [d1, Option.bind_some]
      have hln : std.ofN (len (strL (libR a))) = ((libR a).size : Int) := by rw [s_ofN, strL_len]
      obtain ⟨y, y1, y2, y3, y4, y5⟩ := below_gen hc (d := d) ⟨d2.1, by omega, by omega⟩ (m := ((libR a).size : Int)) (by omega)
      rw [hln, y1, Option.bind_some]
      have hin : std.inR y.1 (len (strL (libR a))) := ⟨y2.1, by rw [strL_len]; exact y2.2⟩
      rw [req_of hin]
      obtain ⟨z, z1, z2, _⟩ := below_gen hc (d := y.2) ⟨y3, y4, y5⟩ (m := 255) (by omega)
      rw [z1, Option.bind_some, req_of hin]
      obtain ⟨K, hK⟩ : ∃ K : Nat, y.1 = (K : Int) := ⟨y.1.toNat, by omega⟩
      have hKs : K < (libR a).size := by omega
      have hnk : std.nadd 0 (std.toN y.1) = K := by rw [hK, s_toNn]; exact Nat.zero_add K
      rw [hnk]
      have hg : 0 ≤ gd (strL (libR a)) K ∧ gd (strL (libR a)) K ≤ 255 := byt_str _ _ (gd_mem (by rw [strL_length]; exact hKs))
      have hz : std.conv .u8 (std.add .i64 1 z.1) = 1 + z.1 := by rw [add_id (by omega) (by omega), conv8_eq]; omega
      have hadd : std.add .u8 (gd (strL (libR a)) K) (1 + z.1) = (gd (strL (libR a)) K + (1 + z.1)) % 256 := conv8_eq _
      obtain ⟨b, hbb⟩ : ∃ b, b = (gd (strL (libR a)) K + (1 + z.1)) % 256 := ⟨_, rfl⟩
      rw [hz, hadd, ← hbb]
      obtain ⟨L, cc, n, r1, r2⟩ := changed hv hKs (b := b) (by omega) (by omega)
      have eL : std.ofBytes (len (strL (libR a))) (fun i => gd ((strL (libR a)).set K b) (0 + i)) = ofL ((strL (libR a)).set K b) := by
        have e : len (strL (libR a)) = len ((strL (libR a)).set K b) := by rw [len_eq, len_eq, List.length_set]
        rw [e]; rfl
      rw [eL, r1, Option.bind_some, ReadStream_lib hv, Option.bind_some]
      simp only
      rw [eq_false' r2, s_not, Bool.not_false, br_t]
      rfl
end Go.Proofs.Ytnpcpbkbenphaaa.AM
