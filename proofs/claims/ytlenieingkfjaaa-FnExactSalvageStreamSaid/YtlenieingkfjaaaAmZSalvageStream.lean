/-
  What the functions that the law reaches compute, and that they do. No condition.
-/
import Derived.Test.YtlenieingkfjaaaAmSZ
namespace Go.Proofs.Ytlenieingkfjaaa.AM
open Go Go.Proofs Go.RowKit
set_option linter.unusedVariables false
set_option linter.unusedSimpArgs false
set_option maxRecDepth 100000

/- reading fields that were written -/
theorem oneB_id {x : Int} (h : 0 ≤ x ∧ x ≤ 255) : oneB x = [x] := by
  show [std.conv .u8 x] = [x]
  rw [conv8_eq, Int.emod_eq_of_lt (by omega) (by omega)]
theorem rd_byte {b : Int} (hb : 0 ≤ b ∧ b ≤ 255) (l : List Int) (z : Bool) : F_impl_byteReader_one_mPb ⟨ofL (b :: l), z⟩ = some (b, ⟨ofL l, z⟩) := by
  unfold F_impl_byteReader_one_mPb
  have hl : std.slen (ofL (b :: l)) = l.length + 1 := by rw [ofL_len]; rfl
  have g0 : gd (b :: l) 0 = b := rfl
  have hs : std.sat (ofL (b :: l)) 0 = b := by rw [ofL_sat (by simp) (by rw [g0]; exact hb), g0]
  have he : std.ssub (ofL (b :: l)) 1 (std.slen (ofL (b :: l))) = ofL l := by
    have h1 := ssub_app (ofL [b]) (ofL l)
    rw [ofL_app, ofL_size] at h1
    exact h1
  simp only
  rw [hl, lt_false (by rw [s_ofN]; omega), br_f, req_of (show std.inR 0 (l.length + 1) from ⟨by omega, by omega⟩), req_of (show std.upTo 1 (l.length + 1) from ⟨by omega, by omega⟩), show std.toN 0 = 0 from rfl, show std.toN 1 = 1 from rfl, hs, conv64 (by omega), ← hl, he]
theorem rd_one {x : Int} (h : 0 ≤ x ∧ x ≤ 255) (l : List Int) (z : Bool) : F_impl_byteReader_one_mPb ⟨ofL (oneB x ++ l), z⟩ = some (x, ⟨ofL l, z⟩) := by
  rw [oneB_id h]; exact rd_byte h l z
theorem shr8' {x : Int} : std.shr .i64 x 8 = x / 256 := shr8 x
theorem rd_two {x : Int} (h : 0 ≤ x ∧ x ≤ 65535) (l : List Int) (z : Bool) : F_impl_byteReader_two_mPb ⟨ofL (twoR x ++ l), z⟩ = some (x, ⟨ofL l, z⟩) := by
  have e : twoR x = [x / 256, x % 256] := by
    unfold twoR
    rw [conv8_eq, conv8_eq, shr8', Int.emod_eq_of_lt (show 0 ≤ x / 256 by omega) (by omega)]
  unfold F_impl_byteReader_two_mPb
  rw [e, List.cons_append, List.cons_append, List.nil_append, rd_byte (by omega), Option.bind_some]
  simp only
  rw [req_of (by rw [s_nneg]; omega), rd_byte (by omega), Option.bind_some]
  have := num2 (a := x / 256) (b := x % 256) (by omega) (by omega)
  rw [conv64 (by omega), conv64 (by omega)] at this
  simp only [this]
  rw [show x / 256 * 256 + x % 256 = x by omega]
theorem rd_coord {x : Int} (h : -32768 ≤ x ∧ x ≤ 32767) (l : List Int) (z : Bool) : F_impl_byteReader_coordinate_mPb ⟨ofL (twoB x ++ l), z⟩ = some (x, ⟨ofL l, z⟩) := by
  unfold F_impl_byteReader_coordinate_mPb twoB
  rw [add_id (by omega) (by omega), rd_two (by omega), Option.bind_some]
  simp only
  rw [sub_id (by omega) (by omega), show x + 32768 - 32768 = x by omega]
theorem rd_name {s : ByteArray} (h : s.size ≤ 255) (l : List Int) (z : Bool) : F_impl_byteReader_name_mPb ⟨ofL (nameB s ++ l), z⟩ = some (s, ⟨ofL l, z⟩) := by
  unfold F_impl_byteReader_name_mPb nameB
  rw [List.append_assoc, s_ofN, s_slen, rd_one (by omega), Option.bind_some]
  simp only
  have e : ofL (strL s ++ l) = std.scat s (ofL l) := by rw [← ofL_app, ofL_str]
  rw [e]
  have hl : std.slen (std.scat s (ofL l)) = s.size + l.length := by rw [s_slen, scat_size, ofL_size]
  have hu : std.upTo ((s.size : Nat) : Int) (std.slen (std.scat s (ofL l))) := ⟨by omega, by rw [hl]; omega⟩
  rw [lt_false (by rw [s_ofN, hl]; omega), br_f, req_of hu, req_of hu, s_toNn, ssub_tail, ssub_head]
theorem rd_shape {s : TShape} (h : okShape s = true) (l : List Int) (z : Bool) : F_impl_byteReader_shape_mPb ⟨ofL (shapeB s ++ l), z⟩ = some (s, ⟨ofL l, z⟩) := by
  unfold okShape okRect at h
  simp only [Bool.and_eq_true, wB_iff', s_le, s_lt, decide_eq_true_eq] at h
  unfold F_impl_byteReader_shape_mPb shapeB
  simp only [List.flatMap_cons, List.flatMap_nil, List.append_nil, List.append_assoc]
  rw [rd_one (by omega), Option.bind_some]
  simp only
  rw [rd_coord (by omega), Option.bind_some]
  simp only
  rw [rd_coord (by omega), Option.bind_some]
  simp only
  rw [rd_coord (by omega), Option.bind_some]
  simp only
  rw [rd_coord (by omega), Option.bind_some]
theorem rd_label {s : TLabel} (h : okLabel s = true) (l : List Int) (z : Bool) : F_impl_byteReader_label_mPb ⟨ofL (labelB s ++ l), z⟩ = some (s, ⟨ofL l, z⟩) := by
  unfold okLabel okPoint at h
  simp only [Bool.and_eq_true, wB_iff'] at h
  have hn := isName_size h.2.2
  unfold F_impl_byteReader_label_mPb labelB
  simp only [List.flatMap_cons, List.flatMap_nil, List.append_nil, List.append_assoc]
  rw [rd_one (by omega), Option.bind_some]
  simp only
  rw [rd_coord (by omega), Option.bind_some]
  simp only
  rw [rd_coord (by omega), Option.bind_some]
  simp only
  rw [rd_name (by omega), Option.bind_some]
theorem rd_place {x : TInstance} {k : Int} (hk : 0 ≤ k ∧ k ≤ 1000) (h : okInst x k = true) (l : List Int) (z : Bool) : F_impl_byteReader_instance_mPb ⟨ofL (placeB x ++ l), z⟩ = some (⟨0, x.fPlace, x.fColumns, x.fRows, x.fStepX, x.fStepY⟩, ⟨ofL l, z⟩) := by
  unfold okInst okTr at h
  simp only [Bool.and_eq_true, wB_iff'] at h
  unfold F_impl_byteReader_instance_mPb placeB
  simp only [List.flatMap_cons, List.flatMap_nil, List.append_nil, List.append_assoc]
  rw [rd_one (by omega), Option.bind_some]
  simp only
  rw [rd_coord (by omega), Option.bind_some]
  simp only
  rw [rd_coord (by omega), Option.bind_some]
  simp only
  rw [rd_one (by omega), Option.bind_some]
  simp only
  rw [rd_one (by omega), Option.bind_some]
  simp only
  rw [rd_coord (by omega), Option.bind_some]
  simp only
  rw [rd_coord (by omega), Option.bind_some]
theorem whole_ok : F_impl_streamReader_take_1_mPP ⟨ofL [], false⟩ = some (true, ⟨ofL [], false⟩, ⟨ofL [], false⟩) := by
  unfold F_impl_streamReader_take_1_mPP
  have e : std.seq (ofL []) (ByteArray.mk #[]) = true := seq_self _
  simp only [Bool.not_false, br_t, e, Option.bind_some, letO_eq]
/- taking records, one kind after the other -/
theorem poss_head {st : TstreamReader} (hb : st.gbegun = false) (hd : st.gdone = false) : F_impl_streamReader_possible_mpb st 1 = some true := by
  unfold F_impl_streamReader_possible_mpb
  rw [hd, br_f, hb, Bool.not_false, br_t, eq_true' rfl]
theorem poss_cell {st : TstreamReader} (hb : st.gbegun = true) (hd : st.gdone = false) (hi : st.ginside = false) (hl : (st.glib.fCells.length : Int) < st.gcells) : F_impl_streamReader_possible_mpb st 2 = some true := by
  unfold F_impl_streamReader_possible_mpb
  rw [hd, br_f, hb, Bool.not_true, br_f, hi, Bool.not_false, br_t, lt_true (by rw [s_ofN, len_eq]; exact hl), Option.bind_some]
  simp only [letO_eq, br_t]
  rw [eq_true' rfl]
theorem poss_in {st : TstreamReader} (hb : st.gbegun = true) (hd : st.gdone = false) (hi : st.ginside = true) (k : Int)
    (h : (k = 3 ∧ st.gcell.fLabels = [] ∧ st.gcell.fInstances = []) ∨ (k = 4 ∧ st.gcell.fInstances = []) ∨ k = 5 ∨ k = 6) : F_impl_streamReader_possible_mpb st k = some true := by
  unfold F_impl_streamReader_possible_mpb
  rw [hd, br_f, hb, Bool.not_true, br_f, hi, Bool.not_true, br_f, Option.bind_some]
  simp only [letO_eq, br_f]
  rcases h with ⟨rfl, h1, h2⟩ | ⟨rfl, h2⟩ | rfl | rfl
  · rw [h1, h2]; rfl
  · rw [h2]; rfl
  · rfl
  · rfl
theorem poss_end {st : TstreamReader} (hb : st.gbegun = true) (hd : st.gdone = false) (hi : st.ginside = false) (hl : (st.glib.fCells.length : Int) = st.gcells) : F_impl_streamReader_possible_mpb st 7 = some true := by
  unfold F_impl_streamReader_possible_mpb
  rw [hd, br_f, hb, Bool.not_true, br_f, hi, Bool.not_false, br_t, lt_false (by rw [s_ofN, len_eq]; omega), Option.bind_some]
  simp only [letO_eq, br_f, br_t]
  rw [eq_true' rfl]
theorem roomP {n b : Nat} (hn : n ≤ 10000000) (hb : b ≤ 1000) : std.room n b := by
  rw [s_room]
  exact Nat.le_trans (Nat.mul_le_mul hn hb) (by omega)
theorem e11 : std.eq 1 1 = true := rfl
theorem e21 : std.eq 2 1 = false := rfl
theorem e22 : std.eq 2 2 = true := rfl
theorem e31 : std.eq 3 1 = false := rfl
theorem e32 : std.eq 3 2 = false := rfl
theorem e33 : std.eq 3 3 = true := rfl
theorem e41 : std.eq 4 1 = false := rfl
theorem e42 : std.eq 4 2 = false := rfl
theorem e43 : std.eq 4 3 = false := rfl
theorem e44 : std.eq 4 4 = true := rfl
theorem e51 : std.eq 5 1 = false := rfl
theorem e52 : std.eq 5 2 = false := rfl
theorem e53 : std.eq 5 3 = false := rfl
theorem e54 : std.eq 5 4 = false := rfl
theorem e55 : std.eq 5 5 = true := rfl
theorem e61 : std.eq 6 1 = false := rfl
theorem e62 : std.eq 6 2 = false := rfl
theorem e63 : std.eq 6 3 = false := rfl
theorem e64 : std.eq 6 4 = false := rfl
theorem e65 : std.eq 6 5 = false := rfl
theorem e66 : std.eq 6 6 = true := rfl
theorem e71 : std.eq 7 1 = false := rfl
theorem e72 : std.eq 7 2 = false := rfl
theorem e73 : std.eq 7 3 = false := rfl
theorem e74 : std.eq 7 4 = false := rfl
theorem e75 : std.eq 7 5 = false := rfl
theorem e76 : std.eq 7 6 = false := rfl
theorem e77 : std.eq 7 7 = true := rfl
set_option maxHeartbeats 2000000 in
theorem take_head {st : TstreamReader} (hb : st.gbegun = false) (hd : st.gdone = false) {n : Nat} (hn : 1 ≤ n ∧ n ≤ 8) (pre : ByteArray) :
    F_impl_streamReader_take_mPoooobbb st 1 (ofL [1, std.conv .u8 (n : Int)]) pre = some (0, ⟨true, st.gdone, (n : Int), st.ginside, st.gcell, st.glib⟩) := by
  have hw : wB (n : Int) 1 8 = true := (wB_iff' _ _ _).2 (by omega)
  have h1 := rd_byte (b := 1) (by omega) [std.conv .u8 (n : Int)] false
  have h2 := rd_one (x := (n : Int)) (by omega) [] false
  have h2' : F_impl_byteReader_one_mPb ⟨ofL [std.conv .u8 (n : Int)], false⟩ = some ((n : Int), ⟨ofL [], false⟩) := h2
  unfold F_impl_streamReader_take_mPoooobbb
  rw [poss_head hb hd, Option.bind_some]
  simp only [Bool.not_true, br_f, e11, br_t, h1, h2', Option.bind_some, whole_ok, letO_eq, s_not, impl_within_ok, hw]
set_option maxHeartbeats 2000000 in
theorem take_cell {st : TstreamReader} (hb : st.gbegun = true) (hd : st.gdone = false) (hi : st.ginside = false) (hl : (st.glib.fCells.length : Int) < st.gcells) (hl8 : st.glib.fCells.length ≤ 8) {s : ByteArray} (hs : isName s = true) (hf : namedI st.glib.fCells s < 0) (pre : ByteArray) :
    F_impl_streamReader_take_mPoooobbb st 2 (ofL (nameB s)) pre = some (0, ⟨st.gbegun, st.gdone, st.gcells, true, ⟨s, [], [], []⟩, st.glib⟩) := by
  have hsz := isName_size hs
  have h1 := rd_name (s := s) (by omega) [] false
  rw [List.append_nil] at h1
  unfold F_impl_streamReader_take_mPoooobbb
  rw [poss_cell hb hd hi hl, Option.bind_some]
  have hnm : F_impl_named st.glib s = some (namedI st.glib.fCells s) := impl_named_ok _ _ (by omega)
  simp only [Bool.not_true, br_f, e21, e22, br_t, h1, Option.bind_some, whole_ok, letO_eq, impl_IsName_ok _ (show s.size ≤ maxLen by unfold maxLen; omega), hs, hnm, le_false (show ¬ 0 ≤ namedI st.glib.fCells s by omega)]
set_option maxHeartbeats 2000000 in
theorem take_shape {st : TstreamReader} (hb : st.gbegun = true) (hd : st.gdone = false) (hi : st.ginside = true) (h4 : st.gcell.fLabels = []) (h5 : st.gcell.fInstances = []) (hl : st.gcell.fShapes.length < 24) {s : TShape} (hs : okShape s = true) (pre : ByteArray) :
    F_impl_streamReader_take_mPoooobbb st 3 (ofL (shapeB s)) pre = some (0, ⟨st.gbegun, st.gdone, st.gcells, st.ginside, ⟨st.gcell.fName, st.gcell.fShapes ++ [s], st.gcell.fLabels, st.gcell.fInstances⟩, st.glib⟩) := by
  have h1 := rd_shape hs [] false
  rw [List.append_nil] at h1
  unfold F_impl_streamReader_take_mPoooobbb
  rw [poss_in hb hd hi 3 (.inl ⟨rfl, h4, h5⟩), Option.bind_some]
  have hr : std.room (std.nadd (len st.gcell.fShapes) (len [s])) 40 := roomP (by rw [s_nadd, len_eq, len_eq]; simp; omega) (by omega)
  simp only [Bool.not_true, br_f, e31, e32, e33, br_t, h1, Option.bind_some, whole_ok, letO_eq, eq_false' (show ((std.ofN (len st.gcell.fShapes)) : Int) ≠ 24 by rw [s_ofN, len_eq]; omega), impl_validShape_ok, hs, req_of hr]
set_option maxHeartbeats 2000000 in
theorem take_label {st : TstreamReader} (hb : st.gbegun = true) (hd : st.gdone = false) (hi : st.ginside = true) (h5 : st.gcell.fInstances = []) (hl : st.gcell.fLabels.length < 8) {s : TLabel} (hs : okLabel s = true) (pre : ByteArray) :
    F_impl_streamReader_take_mPoooobbb st 4 (ofL (labelB s)) pre = some (0, ⟨st.gbegun, st.gdone, st.gcells, st.ginside, ⟨st.gcell.fName, st.gcell.fShapes, st.gcell.fLabels ++ [s], st.gcell.fInstances⟩, st.glib⟩) := by
  have h1 := rd_label hs [] false
  rw [List.append_nil] at h1
  have hn : s.fName.size ≤ maxLen := by
    unfold okLabel at hs
    simp only [Bool.and_eq_true] at hs
    have := isName_size hs.2.2
    unfold maxLen; omega
  unfold F_impl_streamReader_take_mPoooobbb
  rw [poss_in hb hd hi 4 (.inr (.inl ⟨rfl, h5⟩)), Option.bind_some]
  have hr : std.room (std.nadd (len st.gcell.fLabels) (len [s])) 40 := roomP (by rw [s_nadd, len_eq, len_eq]; simp; omega) (by omega)
  simp only [Bool.not_true, br_f, e41, e42, e43, e44, br_t, h1, Option.bind_some, whole_ok, letO_eq, eq_false' (show ((std.ofN (len st.gcell.fLabels)) : Int) ≠ 8 by rw [s_ofN, len_eq]; omega), impl_validLabel_ok _ hn, hs, req_of hr]
set_option maxHeartbeats 2000000 in
theorem take_inst {st : TstreamReader} (hb : st.gbegun = true) (hd : st.gdone = false) (hi : st.ginside = true) (hl : st.gcell.fInstances.length < 8) (hl8 : st.glib.fCells.length ≤ 8) {x : TInstance} (hx : okInst x (st.glib.fCells.length : Int) = true) {s : ByteArray} (hs : s.size ≤ 8) (hn : namedI st.glib.fCells s = x.fCell) (pre : ByteArray) :
    F_impl_streamReader_take_mPoooobbb st 5 (ofL (nameB s ++ placeB x)) pre = some (0, ⟨st.gbegun, st.gdone, st.gcells, st.ginside, ⟨st.gcell.fName, st.gcell.fShapes, st.gcell.fLabels, st.gcell.fInstances ++ [x]⟩, st.glib⟩) := by
  have h1 := rd_name (s := s) (by omega) (placeB x) false
  have h2 := rd_place (k := (st.glib.fCells.length : Int)) (by omega) hx [] false
  rw [List.append_nil] at h2
  have h0 : 0 ≤ x.fCell := by
    unfold okInst at hx
    rw [Bool.and_eq_true, wB_iff'] at hx
    exact hx.1.1
  unfold F_impl_streamReader_take_mPoooobbb
  rw [poss_in hb hd hi 5 (.inr (.inr (.inl rfl))), Option.bind_some]
  have hnm : F_impl_named st.glib s = some x.fCell := by rw [impl_named_ok _ _ (by omega), hn]
  have hr : std.room (std.nadd (len st.gcell.fInstances) (len [x])) 64 := roomP (by rw [s_nadd, len_eq, len_eq]; simp; omega) (by omega)
  have hx' : okInst (TInstance.mk x.fCell x.fPlace x.fColumns x.fRows x.fStepX x.fStepY) (std.ofN (len st.glib.fCells)) = true := by rw [s_ofN, len_eq]; exact hx
  simp only [Bool.not_true, br_f, e51, e52, e53, e54, e55, br_t, h1, h2, Option.bind_some, hnm, whole_ok, letO_eq, eq_false' (show ((std.ofN (len st.gcell.fInstances)) : Int) ≠ 8 by rw [s_ofN, len_eq]; omega), lt_false (show ¬ x.fCell < 0 by omega), impl_validInstance_ok, hx', req_of hr]
theorem eqI3 (l : List Int) (h : l.length ≤ 1000) : F_slices_Equal_Lint64_int64 l l = some true := by
  unfold F_slices_Equal_Lint64_int64
  rw [notEq (eq_true' rfl), br_f, while_eq (r := .inr ()) l.length (fun i hi => by
    simp only [L_slices_Equal_Lint64_int64_x2, letO_eq, s_toNn]
    rw [ltl_t hi, br_t, req_of (inRl hi), req_of (inRl hi), notEq (eq_true' rfl), br_f, inc_nat (by omega)]) (by
    simp only [L_slices_Equal_Lint64_int64_x2, letO_eq]
    rw [ltl_f, br_f]), Option.bind_some]
set_option maxHeartbeats 2000000 in
theorem take_fin {st : TstreamReader} (hb : st.gbegun = true) (hd : st.gdone = false) (hi : st.ginside = true) (hl8 : st.glib.fCells.length ≤ 8) (n3 : st.gcell.fShapes.length ≤ 24) (n4 : st.gcell.fLabels.length ≤ 8) (n5 : st.gcell.fInstances.length ≤ 8) (pre : ByteArray) :
    F_impl_streamReader_take_mPoooobbb st 6 (ofL [std.conv .u8 (std.ofN (len st.gcell.fShapes)), std.conv .u8 (std.ofN (len st.gcell.fLabels)), std.conv .u8 (std.ofN (len st.gcell.fInstances))]) pre = some (0, ⟨st.gbegun, st.gdone, st.gcells, false, ⟨ByteArray.mk #[], [], [], []⟩, ⟨st.glib.fCells ++ [st.gcell]⟩⟩) := by
  have h1 : F_impl_byteReader_one_mPb ⟨ofL [std.conv .u8 (std.ofN (len st.gcell.fShapes)), std.conv .u8 (std.ofN (len st.gcell.fLabels)), std.conv .u8 (std.ofN (len st.gcell.fInstances))], false⟩ = _ := rd_one (x := std.ofN (len st.gcell.fShapes)) (by rw [s_ofN, len_eq]; omega) [std.conv .u8 (std.ofN (len st.gcell.fLabels)), std.conv .u8 (std.ofN (len st.gcell.fInstances))] false
  have h2 : F_impl_byteReader_one_mPb ⟨ofL [std.conv .u8 (std.ofN (len st.gcell.fLabels)), std.conv .u8 (std.ofN (len st.gcell.fInstances))], false⟩ = _ := rd_one (x := std.ofN (len st.gcell.fLabels)) (by rw [s_ofN, len_eq]; omega) [std.conv .u8 (std.ofN (len st.gcell.fInstances))] false
  have h3 : F_impl_byteReader_one_mPb ⟨ofL [std.conv .u8 (std.ofN (len st.gcell.fInstances))], false⟩ = _ := rd_one (x := std.ofN (len st.gcell.fInstances)) (by rw [s_ofN, len_eq]; omega) [] false
  unfold F_impl_streamReader_take_mPoooobbb
  rw [poss_in hb hd hi 6 (.inr (.inr (.inr rfl))), Option.bind_some]
  have hr : std.room (std.nadd (len st.glib.fCells) (len [st.gcell])) 88 := roomP (by rw [s_nadd, len_eq, len_eq]; simp; omega) (by omega)
  simp only [Bool.not_true, br_f, e61, e62, e63, e64, e65, e66, br_t, h1, h2, h3, Option.bind_some, whole_ok, letO_eq, eqI3 [std.ofN (len st.gcell.fShapes), std.ofN (len st.gcell.fLabels), std.ofN (len st.gcell.fInstances)] (by simp), req_of hr]
set_option maxHeartbeats 2000000 in
theorem take_end {st : TstreamReader} (hb : st.gbegun = true) (hd : st.gdone = false) (hi : st.ginside = false) (hl : (st.glib.fCells.length : Int) = st.gcells) {pre : ByteArray} (hp : pre.size ≤ 1000000) :
    F_impl_streamReader_take_mPoooobbb st 7 (ofL (twoR (ck pre))) pre = some (0, ⟨st.gbegun, true, st.gcells, st.ginside, st.gcell, st.glib⟩) := by
  have hck := ck_rng pre (by omega)
  have h1 := rd_two (x := ck pre) (by omega) [] false
  rw [List.append_nil] at h1
  unfold F_impl_streamReader_take_mPoooobbb
  rw [poss_end hb hd hi hl, Option.bind_some]
  simp only [Bool.not_true, br_f, e71, e72, e73, e74, e75, e76, e77, br_t, h1, Option.bind_some, whole_ok, letO_eq, impl_Checksum16_ok _ (show pre.size ≤ 1000000000 by omega), notEq (eq_true' rfl)]
/- both sides' readers: what is left of a string, a place in it -/
noncomputable def drp (a : ByteArray) (i : Nat) : ByteArray := std.ssub a i (std.slen a)
theorem drp_size {a : ByteArray} {i : Nat} (h : i ≤ a.size) : (drp a i).size = a.size - i := by
  show (a.extract i a.size).size = _
  rw [ByteArray.size_extract]; omega
theorem drp_zero (a : ByteArray) : drp a 0 = a := by
  show a.extract 0 a.size = a
  apply ByteArray.ext
  rw [ByteArray.data_extract]
  exact Array.extract_eq_self_of_le (Nat.le_refl _)
theorem drp_drp {a : ByteArray} {i j : Nat} (h : i ≤ a.size) : drp (drp a i) j = drp a (i + j) := by
  show (a.extract i a.size).extract j (std.slen (drp a i)) = a.extract (i + j) a.size
  rw [s_slen, drp_size h, ByteArray.extract_extract]
  congr 1; omega
theorem drp_sub {a : ByteArray} {i n : Nat} (h : i ≤ a.size) (hn : i + n ≤ a.size) : std.ssub (drp a i) 0 n = std.ssub a i (i + n) := by
  show (a.extract i a.size).extract 0 n = a.extract i (i + n)
  rw [ByteArray.extract_extract]
  congr 1; omega
theorem drp_sat {a : ByteArray} {i : Nat} (h : i < a.size) : std.sat (drp a i) 0 = std.sat a i := by
  have h1 : 0 < (a.extract i a.size).size := by rw [ByteArray.size_extract]; omega
  show std.sat (a.extract i a.size) 0 = _
  rw [sat_get h1, sat_get h]
  simp [ByteArray.getElem_extract]
theorem drp_nil {a : ByteArray} {i : Nat} (h : i ≤ a.size) : std.seq (drp a i) (ByteArray.mk #[]) = decide (i = a.size) := by
  by_cases he : i = a.size
  · rw [decide_eq_true he]
    refine seq_iff.2 ?_
    apply ByteArray.ext
    apply Array.eq_empty_of_size_eq_zero
    show (drp a i).size = 0
    rw [drp_size h]; omega
  · rw [decide_eq_false he]
    cases hs : std.seq (drp a i) (ByteArray.mk #[]) with
    | false => rfl
    | true =>
      have h3 := congrArg ByteArray.size (seq_iff.1 hs)
      rw [drp_size h] at h3
      have : (ByteArray.mk #[]).size = 0 := rfl
      omega
/-- both sides read the same, and stand at the same place -/
def Sim {α : Type} (a : ByteArray) (b0 : Bool) (Q : α → Prop) (x : Option (α × TbyteReader)) (y : Option (α × Tl13Reader)) : Prop :=
  ∃ v j b, j ≤ a.size ∧ (b0 = true → b = true) ∧ Q v ∧ x = some (v, ⟨drp a j, b⟩) ∧ y = some (v, ⟨a, (j : Int), b⟩)
theorem Sim.ret {α : Type} {a : ByteArray} {b : Bool} {Q : α → Prop} {v : α} {j : Nat} (hj : j ≤ a.size) (h : Q v) : Sim a b Q (some (v, ⟨drp a j, b⟩)) (some (v, ⟨a, (j : Int), b⟩)) := ⟨v, j, b, hj, id, h, rfl, rfl⟩
theorem Sim.bind {α β : Type} {a : ByteArray} {b0 : Bool} {P : α → Prop} {Q : β → Prop} {x : Option (α × TbyteReader)} {y : Option (α × Tl13Reader)} {f : α × TbyteReader → Option (β × TbyteReader)} {g : α × Tl13Reader → Option (β × Tl13Reader)}
    (h : Sim a b0 P x y) (k : ∀ v j b, j ≤ a.size → P v → Sim a b Q (f (v, ⟨drp a j, b⟩)) (g (v, ⟨a, (j : Int), b⟩))) : Sim a b0 Q (x.bind f) (y.bind g) := by
  obtain ⟨v, j, b, h1, h2, h3, rfl, rfl⟩ := h
  obtain ⟨v', j', b', g1, g2, g3, g4, g5⟩ := k v j b h1 h3
  exact ⟨v', j', b', g1, fun h => g2 (h2 h), g3, g4, g5⟩
theorem Sim.mono {α : Type} {a : ByteArray} {b0 : Bool} {P Q : α → Prop} {x : Option (α × TbyteReader)} {y : Option (α × Tl13Reader)} (h : Sim a b0 P x y) (k : ∀ v, P v → Q v) : Sim a b0 Q x y := by
  obtain ⟨v, j, b, h1, h2, h3, h4, h5⟩ := h
  exact ⟨v, j, b, h1, h2, k v h3, h4, h5⟩
theorem sat_rng (a : ByteArray) (i : Nat) : 0 ≤ std.sat a i ∧ std.sat a i ≤ 255 := by
  show 0 ≤ (((a[i]?.getD 0).toNat : Nat) : Int) ∧ (((a[i]?.getD 0).toNat : Nat) : Int) ≤ 255
  have := (a[i]?.getD 0).toNat_lt
  omega
def byteQ (v : Int) : Prop := 0 ≤ v ∧ v ≤ 255
theorem sim_one {a : ByteArray} (ha : a.size ≤ 100000000) {i : Nat} (hi : i ≤ a.size) (b : Bool) : Sim a b byteQ (F_impl_byteReader_one_mPb ⟨drp a i, b⟩) (F_spec_l13Get_mPb ⟨a, (i : Int), b⟩) := by
  unfold F_impl_byteReader_one_mPb F_spec_l13Get_mPb
  have hd := drp_size hi
  simp only
  by_cases h : i < a.size
  · have hr := sat_rng a i
    rw [lt_false (by rw [s_ofN, s_slen, hd]; omega), br_f, req_of ⟨by omega, by rw [s_slen, hd]; omega⟩, req_of ⟨by omega, by rw [s_slen, hd]; omega⟩, le_false (by rw [s_ofN, s_slen]; omega), br_f, inc_nat (by omega), sub_id (by omega) (by omega),
      show (((i + 1 : Nat) : Int) - 1) = (i : Int) by omega, req_of ⟨by omega, by rw [s_slen]; omega⟩, s_toNn, show std.toN 0 = 0 from rfl, show std.toN 1 = 1 from rfl, drp_sat h, conv64 (by omega)]
    have e : std.ssub (drp a i) 1 (std.slen (drp a i)) = drp a (i + 1) := drp_drp hi
    rw [e]
    exact Sim.ret (by omega) hr
  · have he : i = a.size := by omega
    rw [lt_true (by rw [s_ofN, s_slen, hd]; omega), br_t, le_true (by rw [s_ofN, s_slen]; omega), br_t]
    exact ⟨0, i, true, hi, fun _ => rfl, ⟨Int.le_refl _, by omega⟩, rfl, rfl⟩
def wordQ (v : Int) : Prop := 0 ≤ v ∧ v ≤ 65535
theorem sim_two {a : ByteArray} (ha : a.size ≤ 100000000) {i : Nat} (hi : i ≤ a.size) (b : Bool) : Sim a b wordQ (F_impl_byteReader_two_mPb ⟨drp a i, b⟩) (F_spec_l13GetTwo_mPb ⟨a, (i : Int), b⟩) := by
  unfold F_impl_byteReader_two_mPb F_spec_l13GetTwo_mPb
  refine Sim.bind (sim_one ha hi b) fun v j b hj hv => ?_
  simp only
  rw [req_of (by rw [s_nneg]; omega)]
  refine Sim.bind (sim_one ha hj b) fun u q b hq hu => ?_
  simp only
  have hb : byteQ v := hv
  have hb2 : byteQ u := hu
  unfold byteQ at hb hb2
  have e1 := num2 (a := v) (b := u) (by omega) (by omega)
  rw [conv64 (by omega), conv64 (by omega)] at e1
  have e2 : std.add .i64 (std.mul .i64 256 v) u = v * 256 + u := by
    rw [mul_id (by omega) (by omega), add_id (by omega) (by omega)]; omega
  rw [e1, e2]
  exact Sim.ret hq ⟨by omega, by omega⟩
theorem sim_coord {a : ByteArray} (ha : a.size ≤ 100000000) {i : Nat} (hi : i ≤ a.size) (b : Bool) : Sim a b (fun _ => True) (F_impl_byteReader_coordinate_mPb ⟨drp a i, b⟩) (F_spec_l13GetCoordinate_mPb ⟨a, (i : Int), b⟩) := by
  unfold F_impl_byteReader_coordinate_mPb F_spec_l13GetCoordinate_mPb
  exact Sim.bind (sim_two ha hi b) fun v j b hj hv => Sim.ret hj trivial
theorem sim_name {a : ByteArray} (ha : a.size ≤ 100000000) {i : Nat} (hi : i ≤ a.size) (b : Bool) : Sim a b (fun s => s.size ≤ 255) (F_impl_byteReader_name_mPb ⟨drp a i, b⟩) (F_spec_l13GetName_mPb ⟨a, (i : Int), b⟩) := by
  unfold F_impl_byteReader_name_mPb F_spec_l13GetName_mPb
  refine Sim.bind (sim_one ha hi b) fun v j b hj hv => ?_
  have hb : byteQ v := hv
  unfold byteQ at hb
  obtain ⟨n, rfl⟩ : ∃ n : Nat, v = (n : Int) := ⟨v.toNat, by omega⟩
  have hd := drp_size hj
  simp only
  have e1 : std.add .i64 (j : Int) (n : Int) = ((j + n : Nat) : Int) := by rw [add_id (by omega) (by omega)]; omega
  rw [e1]
  by_cases h : a.size < j + n
  · rw [lt_true (by rw [s_ofN, s_slen, hd]; omega), br_t, lt_true (by rw [s_ofN, s_slen]; omega), br_t]
    exact ⟨ByteArray.mk #[], j, true, hj, fun _ => rfl, by show 0 ≤ 255; omega, rfl, rfl⟩
  · have e2 : std.sub .i64 ((j + n : Nat) : Int) (n : Int) = (j : Int) := by rw [sub_id (by omega) (by omega)]; omega
    rw [lt_false (by rw [s_ofN, s_slen, hd]; omega), br_f, lt_false (by rw [s_ofN, s_slen]; omega), br_f, e2, req_of ⟨by omega, by rw [s_slen, hd]; omega⟩, req_of ⟨by omega, by rw [s_slen, hd]; omega⟩, req_of ⟨by omega, by rw [s_slen]; omega⟩, req_of ⟨by omega, by rw [s_toNn]; omega⟩, s_toNn, s_toNn, s_toNn, drp_sub hj (by omega)]
    have e : std.ssub (drp a j) n (std.slen (drp a j)) = drp a (j + n) := drp_drp hj
    rw [e]
    refine Sim.ret (by omega) ?_
    show (a.extract j (j + n)).size ≤ 255
    rw [ByteArray.size_extract]; omega
theorem sim_shape {a : ByteArray} (ha : a.size ≤ 100000000) {i : Nat} (hi : i ≤ a.size) (b : Bool) : Sim a b (fun _ => True) (F_impl_byteReader_shape_mPb ⟨drp a i, b⟩) (F_spec_l13GetShape_mPb ⟨a, (i : Int), b⟩) := by
  unfold F_impl_byteReader_shape_mPb F_spec_l13GetShape_mPb
  exact Sim.bind (sim_one ha hi b) fun _ _ b h _ => Sim.bind (sim_coord ha h b) fun _ _ b h _ => Sim.bind (sim_coord ha h b) fun _ _ b h _ => Sim.bind (sim_coord ha h b) fun _ _ b h _ => Sim.bind (sim_coord ha h b) fun _ _ b h _ => Sim.ret h trivial
theorem sim_label {a : ByteArray} (ha : a.size ≤ 100000000) {i : Nat} (hi : i ≤ a.size) (b : Bool) : Sim a b (fun l : TLabel => l.fName.size ≤ 255) (F_impl_byteReader_label_mPb ⟨drp a i, b⟩) (F_spec_l13GetLabel_mPb ⟨a, (i : Int), b⟩) := by
  unfold F_impl_byteReader_label_mPb F_spec_l13GetLabel_mPb
  exact Sim.bind (sim_one ha hi b) fun _ _ b h _ => Sim.bind (sim_coord ha h b) fun _ _ b h _ => Sim.bind (sim_coord ha h b) fun _ _ b h _ => Sim.bind (sim_name ha h b) fun _ _ b h hq => Sim.ret h hq
/-- the program reads an instance without its cell; the reference reads a byte of zero ahead of it -/
theorem sim_inst {a : ByteArray} (ha : a.size ≤ 100000000) (h1 : 1 ≤ a.size) (h0 : std.sat a 0 = 0) (b : Bool) : Sim a b (fun x : TInstance => x.fCell = 0) (F_impl_byteReader_instance_mPb ⟨drp a 1, b⟩) (F_spec_l13GetInstance_mPb ⟨a, 0, b⟩) := by
  have e : F_spec_l13Get_mPb ⟨a, 0, b⟩ = some (0, ⟨a, ((1 : Nat) : Int), b⟩) := by
    unfold F_spec_l13Get_mPb
    simp only
    rw [le_false (by rw [s_ofN, s_slen]; omega), br_f, add_id (by omega) (by omega), sub_id (by omega) (by omega), req_of ⟨by omega, by rw [s_slen]; omega⟩]
    have : std.toN (0 + 1 - 1) = 0 := rfl
    rw [this, h0, conv64 (by omega)]
    rfl
  unfold F_impl_byteReader_instance_mPb F_spec_l13GetInstance_mPb
  rw [e, Option.bind_some]
  exact Sim.bind (sim_one ha h1 b) fun _ _ b h _ => Sim.bind (sim_coord ha h b) fun _ _ b h _ => Sim.bind (sim_coord ha h b) fun _ _ b h _ => Sim.bind (sim_one ha h b) fun _ _ b h _ => Sim.bind (sim_one ha h b) fun _ _ b h _ => Sim.bind (sim_coord ha h b) fun _ _ b h _ => Sim.bind (sim_coord ha h b) fun _ _ b h _ => Sim.ret h rfl
/-- nothing is missing, nothing is left -/
noncomputable def fine (a : ByteArray) (j : Nat) (b : Bool) : Bool := !b && decide (j = a.size)
theorem whole_fine {a : ByteArray} {j : Nat} (hj : j ≤ a.size) (b : Bool) : F_impl_streamReader_take_1_mPP ⟨drp a j, b⟩ = some (fine a j b, ⟨drp a j, b⟩, ⟨drp a j, b⟩) := by
  unfold F_impl_streamReader_take_1_mPP fine
  simp only [drp_nil hj, letO_eq]
  cases b <;> rfl
theorem spec_fine {a : ByteArray} {j : Nat} (hj : j ≤ a.size) (b : Bool) : ((br b (some true) (some (std.not (std.eq (j : Int) (std.ofN (std.slen a)))))) : Option Bool) = some (!fine a j b) := by
  unfold fine
  cases b with
  | true => rfl
  | false =>
    rw [br_f, s_ofN, s_slen, s_not, s_eq]
    simp
    omega
/- splitting off a record: both sides the same -/
theorem ofL_bytes (Y : ByteArray) : Y = ofL ((List.range Y.size).map fun i => std.sat Y i) := by
  have h : strL Y = (List.range Y.size).map fun i => std.sat Y i := by
    apply List.ext_getElem (by simp [strL_length])
    intro i h1 h2
    rw [List.getElem_map, List.getElem_range, ← gd_lt h1]
    exact strL_at (by rw [strL_length] at h1; exact h1)
  rw [← h, ofL_str]
theorem sat_sub {X : ByteArray} {i j k : Nat} (h : i + k < j) (hj : j ≤ X.size) : std.sat (std.ssub X i j) k = std.sat X (i + k) := by
  have h1 : k < (X.extract i j).size := by rw [ByteArray.size_extract]; omega
  show std.sat (X.extract i j) k = _
  rw [sat_get h1, sat_get (show i + k < X.size by omega)]
  simp [ByteArray.getElem_extract]
theorem two_same {Y : ByteArray} (h : Y.size = 2) {c : Int} (hc : 0 ≤ c ∧ c < 65536) : std.seq (ofL (twoR c)) Y = std.eq (std.sat Y 0 * 256 + std.sat Y 1) c := by
  have hY := ofL_bytes Y
  rw [h] at hY
  have hY2 : Y = ofL [std.sat Y 0, std.sat Y 1] := hY
  have r0 := sat_rng Y 0
  have r1 := sat_rng Y 1
  have e : twoR c = [c / 256, c % 256] := by
    unfold twoR
    rw [conv8_eq, conv8_eq, shr8, Int.emod_eq_of_lt (show 0 ≤ c / 256 by omega) (by omega)]
  have t := twoR_sat hc
  by_cases hq : std.sat Y 0 * 256 + std.sat Y 1 = c
  · rw [eq_true' hq]
    refine seq_iff.2 ?_
    rw [e, hY2]
    have e0 : c / 256 = std.sat Y 0 := by omega
    have e1 : c % 256 = std.sat Y 1 := by omega
    rw [e0, e1, ← hY2]
  · rw [eq_false' hq]
    cases hs : std.seq (ofL (twoR c)) Y with
    | false => rfl
    | true =>
      have h3 := seq_iff.1 hs
      rw [h3] at t
      exfalso
      apply hq
      rw [t.1, t.2]; omega
set_option maxHeartbeats 2000000 in
theorem split_same {s : ByteArray} (hs : s.size ≤ 2097152) (i : Nat) (hi : i ≤ s.size) :
    ∃ r, F_impl_SplitRecord s (i : Int) = some r ∧ F_spec_SplitRecord s (i : Int) = some r ∧ (r.2.2.2 = 0 → (1 ≤ r.1 ∧ r.1 ≤ 7) ∧ r.2.1.size ≤ 200 ∧ ∃ n : Nat, 5 ≤ n ∧ i + n ≤ s.size ∧ r.2.2.1 = ((i + n : Nat) : Int)) := by
  have w1 : wB (i : Int) 0 (std.ofN (std.slen s)) = true := (wB_iff' _ _ _).2 (by rw [s_ofN, s_slen]; omega)
  obtain ⟨X, hX⟩ : ∃ X, X = drp s i := ⟨_, rfl⟩
  have er : std.ssub s (std.toN (i : Int)) (std.slen s) = X := by rw [s_toNn, hX]; rfl
  have hXs : X.size = s.size - i := by rw [hX]; exact drp_size hi
  have hup : std.upTo (i : Int) (std.slen s) := ⟨by omega, by rw [s_slen]; omega⟩
  unfold F_impl_SplitRecord F_spec_SplitRecord
  rw [impl_within_ok, spec_l09In_ok, w1, Option.bind_some, Option.bind_some, Bool.not_true, br_f, br_f, req_of hup, req_of hup]
  simp only [er]
  by_cases h2 : X.size < 2
  · rw [lt_true (by rw [s_ofN, s_slen]; omega), br_t, br_t]
    exact ⟨_, rfl, rfl, fun h => by cases h⟩
  · have r0 := sat_rng X 0
    have r1 := sat_rng X 1
    obtain ⟨n, hn⟩ : ∃ n : Nat, std.sat X 0 * 256 + std.sat X 1 = (n : Int) := ⟨(std.sat X 0 * 256 + std.sat X 1).toNat, by omega⟩
    have eN : std.add .i64 (std.shl .i64 (std.conv .i64 (std.sat X (std.toN 0))) 8) (std.conv .i64 (std.sat X (std.toN 1))) = (n : Int) := by
      rw [show std.toN 0 = 0 from rfl, show std.toN 1 = 1 from rfl, num2 (by omega) (by omega)]; exact hn
    have eM : std.add .i64 (std.mul .i64 256 (std.conv .i64 (std.sat X (std.toN 0)))) (std.conv .i64 (std.sat X (std.toN 1))) = (n : Int) := by
      rw [show std.toN 0 = 0 from rfl, show std.toN 1 = 1 from rfl, conv64 (by omega), conv64 (by omega), mul_id (by omega) (by omega), add_id (by omega) (by omega)]; omega
    simp only [eN, eM]
    have j0 : std.inR 0 (std.slen X) := ⟨by omega, by rw [s_slen]; omega⟩
    have j1 : std.inR 1 (std.slen X) := ⟨by omega, by rw [s_slen]; omega⟩
    have j8 : std.nneg 8 := by show (0 : Int) ≤ 8; omega
    have jl : std.lt (std.ofN (std.slen X)) 2 = false := lt_false (by rw [s_ofN, s_slen]; omega)
    simp only [jl, br_f, req_of j0, req_of j1, req_of j8]
    by_cases h5 : n < 5
    · rw [lt_true (show (n : Int) < 5 by omega), br_t, br_t]
      exact ⟨_, rfl, rfl, fun h => by cases h⟩
    · rw [lt_false (show ¬ (n : Int) < 5 by omega), br_f, br_f]
      by_cases hlen : X.size < n
      · rw [lt_true (by rw [s_ofN, s_slen]; omega), br_t, br_t]
        exact ⟨_, rfl, rfl, fun h => by cases h⟩
      · rw [lt_false (by rw [s_ofN, s_slen]; omega), br_f, br_f]
        have m2 : std.sub .i64 (n : Int) 2 = ((n - 2 : Nat) : Int) := by rw [sub_id (by omega) (by omega)]; omega
        have m1 : std.sub .i64 (n : Int) 1 = ((n - 1 : Nat) : Int) := by rw [sub_id (by omega) (by omega)]; omega
        have m5 : std.sub .i64 (n : Int) 5 = ((n - 5 : Nat) : Int) := by rw [sub_id (by omega) (by omega)]; omega
        simp only [m2, m1, m5, s_toNn]
        have hh : (std.ssub X 0 (n - 2)).size ≤ 1000000000 := by
          show (X.extract 0 (n - 2)).size ≤ _
          rw [ByteArray.size_extract]; omega
        have hck := ck_rng _ hh
        have hY : (std.ssub X (n - 2) n).size = 2 := by
          show (X.extract (n - 2) n).size = 2
          rw [ByteArray.size_extract]; omega
        have hsum := two_same hY hck
        rw [sat_sub (by omega) (by omega), sat_sub (by omega) (by omega), show n - 2 + 0 = n - 2 by omega, show n - 2 + 1 = n - 1 by omega] at hsum
        have q0 := sat_rng X (n - 2)
        have q1 := sat_rng X (n - 1)
        have eS := num2 (a := std.sat X (n - 2)) (b := std.sat X (n - 1)) (by omega) (by omega)
        have hpl : (std.ssub X (std.toN 3) (n - 2)).size = n - 5 := by
          show (X.extract 3 (n - 2)).size = n - 5
          rw [ByteArray.size_extract]; omega
        have hu2 : std.upTo ((n - 2 : Nat) : Int) (std.slen X) := ⟨by omega, by rw [s_slen]; omega⟩
        have hu3 : std.upTo 3 (n - 2) := ⟨by omega, by omega⟩
        have hun : std.upTo (n : Int) (std.slen X) := ⟨by omega, by rw [s_slen]; omega⟩
        have hu2n : std.upTo ((n - 2 : Nat) : Int) n := ⟨by omega, by omega⟩
        have hi2 : std.inR 2 (std.slen X) := ⟨by omega, by rw [s_slen]; omega⟩
        have hr2 := sat_rng X (std.toN 2)
        have hi1 : std.inR ((n - 2 : Nat) : Int) (std.slen X) := ⟨by omega, by rw [s_slen]; omega⟩
        have hi3 : std.inR ((n - 1 : Nat) : Int) (std.slen X) := ⟨by omega, by rw [s_slen]; omega⟩
        simp only [req_of hi1, req_of j8, req_of hi3, req_of hi2, req_of hu2, req_of hu3, impl_Checksum16_ok _ hh, spec_Checksum16_ok _ hh, Option.bind_some, spec_l13Two_ok, req_of hun, req_of hu2n, hsum, eS]
        cases hcs : std.eq (std.sat X (n - 2) * 256 + std.sat X (n - 1)) (ck (std.ssub X 0 (n - 2))) with
        | false =>
          simp only [s_not, Bool.not_false, br_t]
          exact ⟨_, rfl, rfl, fun h => by cases h⟩
        | true =>
          simp only [s_not, Bool.not_true, br_f]
          simp only [req_of hi2, impl_within_ok, spec_l09In_ok, Option.bind_some]
          have e200 : std.lt 200 (std.ofN (std.slen (std.ssub X (std.toN 3) (n - 2)))) = std.lt 200 ((n - 5 : Nat) : Int) := by rw [s_ofN, s_slen, hpl]
          rw [e200]
          cases hk : wB (std.conv .i64 (std.sat X (std.toN 2))) 1 7 with
          | false =>
            simp only [Bool.not_false, br_t, Option.bind_some, letO_eq]
            exact ⟨_, rfl, rfl, fun h => by cases h⟩
          | true =>
            simp only [Bool.not_true, br_f, Option.bind_some, letO_eq]
            cases hlt : std.lt 200 ((n - 5 : Nat) : Int) with
            | true =>
              simp only [br_t]
              exact ⟨_, rfl, rfl, fun h => by cases h⟩
            | false =>
              simp only [br_f]
              simp only [req_of hi2, req_of hu2, req_of hu3, add_id (x := (i : Int)) (y := (n : Int)) (by omega) (by omega)]
              have h200 := of_decide_eq_false hlt
              rw [wB_iff'] at hk
              exact ⟨_, rfl, rfl, fun _ => ⟨hk, by show (std.ssub X (std.toN 3) (n - 2)).size ≤ 200; rw [hpl]; omega, n, by omega, by omega, by show (i : Int) + (n : Int) = _; omega⟩⟩
theorem spec_Known_ok (x : Tl14State) (s : ByteArray) (h : x.gdone.fCells.length ≤ 10000000) : F_spec_l14Known_mpb x s = some (namedI x.gdone.fCells s) := by
  unfold F_spec_l14Known_mpb namedI
  rw [bind_of (scan_first (step := L_spec_l14Known_mpb_x2 x s) (p := fun i => std.seq (gd x.gdone.fCells i).fName s) (n := x.gdone.fCells.length) (fun i hi => by
    simp only [L_spec_l14Known_mpb_x2, letO_eq, s_toNn]
    rw [ltl_t hi, br_t, req_of (inRl hi), inc_nat (by omega)]
    cases std.seq (gd x.gdone.fCells i).fName s <;> rfl) (by
    simp only [L_spec_l14Known_mpb_x2, letO_eq]
    rw [ltl_f, br_f]))]
  unfold firstI
  cases (List.range x.gdone.fCells.length).find? fun i => std.seq (gd x.gdone.fCells i).fName s <;> rfl
/- taking a record: both sides the same -/
theorem sposs_in (want kind : Int) (lib : TLibrary) (cell : TCell) (hw : 0 ≤ want) (k : Int) : F_spec_l14Possible_mpb ⟨want, lib, true, cell, kind, false⟩ k = some (wB k (max kind 3) 6) := by
  unfold F_spec_l14Possible_mpb
  simp only
  rw [lt_false (by omega), br_f, br_t, spec_l09In_ok, Option.bind_some]
  show some (wB k (std.imax kind 3) 6) = _
  have : std.imax kind 3 = max kind 3 := by
    show (if 3 > kind then (3 : Int) else kind) = _
    rw [Int.max_def]; split <;> split <;> omega
  rw [this]
theorem iposs_in (want : Int) (lib : TLibrary) (cell : TCell) (k : Int) : F_impl_streamReader_possible_mpb ⟨true, false, want, true, cell, lib⟩ k =
    some (if k = 3 then decide (cell.fLabels.length = 0) && decide (cell.fInstances.length = 0) else if k = 4 then decide (cell.fInstances.length = 0) else decide (k = 5) || decide (k = 6)) := by
  unfold F_impl_streamReader_possible_mpb
  simp only [br_f, Bool.not_true, Option.bind_some, letO_eq, s_eq, s_ofN, len_eq]
  by_cases h3 : k = 3
  · rw [decide_eq_true h3, br_t, if_pos h3]
    by_cases h4 : cell.fLabels.length = 0
    · rw [decide_eq_true (show ((cell.fLabels.length : Nat) : Int) = 0 by omega), br_t, decide_eq_true h4, Option.bind_some]
      congr 1
      simp
    · rw [decide_eq_false (show ¬ ((cell.fLabels.length : Nat) : Int) = 0 by omega), br_f, decide_eq_false h4]; rfl
  · rw [decide_eq_false h3, br_f, if_neg h3]
    by_cases h4 : k = 4
    · rw [decide_eq_true h4, br_t, if_pos h4]
      congr 1
      simp
    · rw [decide_eq_false h4, br_f, if_neg h4]
      cases decide (k = 5) <;> rfl
set_option maxHeartbeats 2000000 in
theorem ts_shape (want kind : Int) (lib : TLibrary) (cell : TCell) (hw : 0 ≤ want) (hk : kind = 3) (h4 : cell.fLabels = []) (h5 : cell.fInstances = []) (hl : cell.fShapes.length ≤ 24) (p pre : ByteArray) (hp : p.size ≤ 200) :
    ∃ c st' x', F_impl_streamReader_take_mPoooobbb ⟨true, false, want, true, cell, lib⟩ 3 p pre = some (c, st') ∧ F_spec_l14Take_mPbbbb ⟨want, lib, true, cell, kind, false⟩ 3 p pre = some (c, x') ∧
      ((c ≠ 0 ∧ st'.glib = lib ∧ x'.gdone = lib) ∨ (c = 0 ∧ ∃ s, okShape s = true ∧ cell.fShapes.length < 24 ∧ st' = ⟨true, false, want, true, ⟨cell.fName, cell.fShapes ++ [s], cell.fLabels, cell.fInstances⟩, lib⟩ ∧ x' = ⟨want, lib, true, ⟨cell.fName, cell.fShapes ++ [s], cell.fLabels, cell.fInstances⟩, kind, false⟩)) := by
  obtain ⟨v, j, b, hj, _, _, hx, hy⟩ := sim_shape (a := p) (by omega) (i := 0) (Nat.zero_le _) false
  rw [drp_zero] at hx
  have hy' : F_spec_l13GetShape_mPb ⟨p, 0, false⟩ = _ := hy
  unfold F_impl_streamReader_take_mPoooobbb F_spec_l14Take_mPbbbb
  rw [iposs_in, sposs_in _ _ _ _ hw, h4, h5, hk]
  have hb : wB 3 (max 3 3) 6 = true := (wB_iff' _ _ _).2 (by omega)
  rw [hb]
  simp only [List.length_nil, decide_true, Bool.and_self, if_true, Option.bind_some, Bool.not_true, br_f, e31, e32, e33, br_t, hx, hy', whole_fine hj b, spec_fine hj b, letO_eq]
  cases hf : fine p j b with
  | false =>
    simp only [Bool.not_false, br_t, Option.bind_some]
    exact ⟨_, _, _, rfl, rfl, .inl ⟨by decide, rfl, rfl⟩⟩
  | true =>
    simp only [Bool.not_true, br_f, Option.bind_some]
    by_cases h24 : cell.fShapes.length = 24
    · rw [eq_true' (show (std.ofN (len cell.fShapes) : Int) = 24 by rw [s_ofN, len_eq]; omega)]
      simp only [br_t, Option.bind_some]
      exact ⟨_, _, _, rfl, rfl, .inl ⟨by decide, rfl, rfl⟩⟩
    · rw [eq_false' (show (std.ofN (len cell.fShapes) : Int) ≠ 24 by rw [s_ofN, len_eq]; omega)]
      simp only [br_f, impl_validShape_ok, spec_l09Shape_ok, Option.bind_some]
      cases hs : okShape v with
      | false =>
        simp only [Bool.not_false, br_t, Option.bind_some]
        exact ⟨_, _, _, rfl, rfl, .inl ⟨by decide, rfl, rfl⟩⟩
      | true =>
        have hr : std.room (std.nadd (len cell.fShapes) (len [v])) 40 := roomP (by rw [s_nadd, len_eq, len_eq]; simp; omega) (by omega)
        have hr0 : std.room (std.nadd (len ([] : List TShape)) (len cell.fShapes)) 40 := roomP (by rw [s_nadd, len_eq, len_eq]; simp; omega) (by omega)
        simp only [Bool.not_true, br_f, req_of hr, req_of hr0, List.nil_append, Option.bind_some]
        exact ⟨_, _, _, rfl, rfl, .inr ⟨rfl, v, hs, by omega, rfl, rfl⟩⟩
set_option maxHeartbeats 2000000 in
theorem ts_label (want kind : Int) (lib : TLibrary) (cell : TCell) (hw : 0 ≤ want) (hk : kind = 3 ∨ kind = 4) (h5 : cell.fInstances = []) (hl : cell.fLabels.length ≤ 8) (p pre : ByteArray) (hp : p.size ≤ 200) :
    ∃ c st' x', F_impl_streamReader_take_mPoooobbb ⟨true, false, want, true, cell, lib⟩ 4 p pre = some (c, st') ∧ F_spec_l14Take_mPbbbb ⟨want, lib, true, cell, kind, false⟩ 4 p pre = some (c, x') ∧
      ((c ≠ 0 ∧ st'.glib = lib ∧ x'.gdone = lib) ∨ (c = 0 ∧ ∃ s, okLabel s = true ∧ cell.fLabels.length < 8 ∧ st' = ⟨true, false, want, true, ⟨cell.fName, cell.fShapes, cell.fLabels ++ [s], cell.fInstances⟩, lib⟩ ∧ x' = ⟨want, lib, true, ⟨cell.fName, cell.fShapes, cell.fLabels ++ [s], cell.fInstances⟩, 4, false⟩)) := by
  obtain ⟨v, j, b, hj, _, hq, hx, hy⟩ := sim_label (a := p) (by omega) (i := 0) (Nat.zero_le _) false
  rw [drp_zero] at hx
  have hy' : F_spec_l13GetLabel_mPb ⟨p, 0, false⟩ = _ := hy
  have hn : v.fName.size ≤ maxLen := Nat.le_trans hq (by decide)
  unfold F_impl_streamReader_take_mPoooobbb F_spec_l14Take_mPbbbb
  rw [iposs_in, sposs_in _ _ _ _ hw, h5]
  have hb : wB 4 (max kind 3) 6 = true := (wB_iff' _ _ _).2 (by omega)
  rw [hb, if_neg (show ¬ (4 : Int) = 3 by decide)]
  simp only [List.length_nil, decide_true, if_true, Option.bind_some, Bool.not_true, br_f, e41, e42, e43, e44, br_t, hx, hy', whole_fine hj b, spec_fine hj b, letO_eq]
  cases hf : fine p j b with
  | false =>
    simp only [Bool.not_false, br_t, Option.bind_some]
    exact ⟨_, _, _, rfl, rfl, .inl ⟨by decide, rfl, rfl⟩⟩
  | true =>
    simp only [Bool.not_true, br_f, Option.bind_some]
    by_cases h24 : cell.fLabels.length = 8
    · rw [eq_true' (show (std.ofN (len cell.fLabels) : Int) = 8 by rw [s_ofN, len_eq]; omega)]
      simp only [br_t, Option.bind_some]
      exact ⟨_, _, _, rfl, rfl, .inl ⟨by decide, rfl, rfl⟩⟩
    · rw [eq_false' (show (std.ofN (len cell.fLabels) : Int) ≠ 8 by rw [s_ofN, len_eq]; omega)]
      simp only [br_f, impl_validLabel_ok _ hn, spec_l09Label_ok _ hn, Option.bind_some]
      cases hs : okLabel v with
      | false =>
        simp only [Bool.not_false, br_t, Option.bind_some]
        exact ⟨_, _, _, rfl, rfl, .inl ⟨by decide, rfl, rfl⟩⟩
      | true =>
        have hr : std.room (std.nadd (len cell.fLabels) (len [v])) 40 := roomP (by rw [s_nadd, len_eq, len_eq]; simp; omega) (by omega)
        have hr0 : std.room (std.nadd (len ([] : List TLabel)) (len cell.fLabels)) 40 := roomP (by rw [s_nadd, len_eq, len_eq]; simp; omega) (by omega)
        simp only [Bool.not_true, br_f, req_of hr, req_of hr0, List.nil_append, Option.bind_some]
        exact ⟨_, _, _, rfl, rfl, .inr ⟨rfl, v, hs, by omega, rfl, rfl⟩⟩
theorem zero_scat {p : ByteArray} {j : Nat} : std.scat (ofL (oneB 0)) (drp p j) = std.scat (ofL [0]) (drp p j) := rfl
set_option maxHeartbeats 4000000 in
theorem ts_inst (want kind : Int) (lib : TLibrary) (cell : TCell) (hw : 0 ≤ want) (hk : kind = 3 ∨ kind = 4 ∨ kind = 5) (hll : lib.fCells.length ≤ 8) (hl : cell.fInstances.length ≤ 8) (p pre : ByteArray) (hp : p.size ≤ 200) :
    ∃ c st' x', F_impl_streamReader_take_mPoooobbb ⟨true, false, want, true, cell, lib⟩ 5 p pre = some (c, st') ∧ F_spec_l14Take_mPbbbb ⟨want, lib, true, cell, kind, false⟩ 5 p pre = some (c, x') ∧
      ((c ≠ 0 ∧ st'.glib = lib ∧ x'.gdone = lib) ∨ (c = 0 ∧ ∃ s, cell.fInstances.length < 8 ∧ st' = ⟨true, false, want, true, ⟨cell.fName, cell.fShapes, cell.fLabels, cell.fInstances ++ [s]⟩, lib⟩ ∧ x' = ⟨want, lib, true, ⟨cell.fName, cell.fShapes, cell.fLabels, cell.fInstances ++ [s]⟩, 5, false⟩)) := by
  obtain ⟨nm, j, b, hj, _, hq, hx, hy⟩ := sim_name (a := p) (by omega) (i := 0) (Nat.zero_le _) false
  rw [drp_zero] at hx
  have hy' : F_spec_l13GetName_mPb ⟨p, 0, false⟩ = _ := hy
  obtain ⟨S, hS⟩ : ∃ S, S = std.scat (ofL [0]) (drp p j) := ⟨_, rfl⟩
  have hds := drp_size hj
  have hSs : S.size = 1 + (p.size - j) := by rw [hS, scat_size, ofL_size, hds]; rfl
  have hS1 : drp S 1 = drp p j := by
    rw [hS]
    have := ssub_tail (a := ofL [0]) (b := drp p j)
    rw [ofL_size] at this
    exact this
  have hS0 : std.sat S 0 = 0 := by
    rw [hS, sat_left (by rw [ofL_size]; simp), ofL_sat (by simp) (by show 0 ≤ (0 : Int) ∧ (0 : Int) ≤ 255; omega)]
    rfl
  obtain ⟨u, q, b2, hq2, hbb, hu0, hx2, hy2⟩ := sim_inst (a := S) (by omega) (by omega) hS0 b
  rw [hS1] at hx2
  obtain ⟨u', q', b3, hq3, _, hu0', hx3, hy3⟩ := sim_inst (a := S) (by omega) (by omega) hS0 false
  have hq2' : F_impl_streamReader_take_1_mPP ⟨drp S q, b2⟩ = some (fine S q b2, ⟨drp S q, b2⟩, ⟨drp S q, b2⟩) := whole_fine hq2 b2
  have hnm : F_impl_named lib nm = some (namedI lib.fCells nm) := impl_named_ok _ _ (by omega)
  have hkn : F_spec_l14Known_mpb ⟨want, lib, true, cell, kind, false⟩ nm = some (namedI lib.fCells nm) := spec_Known_ok _ _ (by show lib.fCells.length ≤ _; omega)
  have hupj : std.upTo (j : Int) (std.slen p) := ⟨by omega, by rw [s_slen]; omega⟩
  have hS' : std.scat (ofL (oneB 0)) (std.ssub p (std.toN (j : Int)) (std.slen p)) = S := by rw [s_toNn, hS]; rfl
  have hroom : std.room (std.nadd (std.slen (ofL (oneB 0))) (std.slen (std.ssub p (std.toN (j : Int)) (std.slen p)))) 1 := room1 (by
    have : std.slen (std.ssub p (std.toN (j : Int)) (std.slen p)) = p.size - j := by rw [s_toNn]; exact hds
    rw [this, s_slen, ofL_size, one_len]; omega)
  unfold F_impl_streamReader_take_mPoooobbb F_spec_l14Take_mPbbbb
  rw [iposs_in, sposs_in _ _ _ _ hw]
  have hb : wB 5 (max kind 3) 6 = true := (wB_iff' _ _ _).2 (by omega)
  rw [hb, if_neg (show ¬ (5 : Int) = 3 by decide), if_neg (show ¬ (5 : Int) = 4 by decide)]
  simp only [decide_true, Bool.true_or, Option.bind_some, Bool.not_true, br_f, e51, e52, e53, e54, e55, br_t, hx, hy', spec_l13Byte_ok, req_of hupj, req_of hroom, hS', hx2, hy3, hnm, hq2', letO_eq]
  cases b with
  | true =>
    have hb2 := hbb rfl
    subst hb2
    have hf : fine S q true = false := rfl
    simp only [hf, Bool.not_false, br_t, Option.bind_some]
    exact ⟨_, _, _, rfl, rfl, .inl ⟨by decide, rfl, rfl⟩⟩
  | false =>
    rw [hy2] at hy3
    injection hy3 with hy3
    injection hy3 with g1 g2
    injection g2 with g2 g3 g4
    subst g1; subst g4
    have g5 : q' = q := by omega
    subst g5
    have hsf := spec_fine hq2 b2
    simp only [br_f, hsf, Option.bind_some]
    cases hf : fine S q' b2 with
    | false =>
      simp only [Bool.not_false, br_t, Option.bind_some]
      exact ⟨_, _, _, rfl, rfl, .inl ⟨by decide, rfl, rfl⟩⟩
    | true =>
      simp only [Bool.not_true, br_f, Option.bind_some]
      by_cases h24 : cell.fInstances.length = 8
      · rw [eq_true' (show (std.ofN (len cell.fInstances) : Int) = 8 by rw [s_ofN, len_eq]; omega)]
        simp only [br_t, Option.bind_some]
        exact ⟨_, _, _, rfl, rfl, .inl ⟨by decide, rfl, rfl⟩⟩
      · rw [eq_false' (show (std.ofN (len cell.fInstances) : Int) ≠ 8 by rw [s_ofN, len_eq]; omega)]
        simp only [br_f, hkn, Option.bind_some]
        cases hneg : std.lt (namedI lib.fCells nm) 0 with
        | true =>
          simp only [br_t, Option.bind_some]
          exact ⟨_, _, _, rfl, rfl, .inl ⟨by decide, rfl, rfl⟩⟩
        | false =>
          simp only [br_f, impl_validInstance_ok, spec_l09Instance_ok, Option.bind_some]
          cases hs : okInst (TInstance.mk (namedI lib.fCells nm) u.fPlace u.fColumns u.fRows u.fStepX u.fStepY) (std.ofN (len lib.fCells)) with
          | false =>
            simp only [Bool.not_false, br_t, Option.bind_some]
            exact ⟨_, _, _, rfl, rfl, .inl ⟨by decide, rfl, rfl⟩⟩
          | true =>
            have hr : ∀ z : TInstance, std.room (std.nadd (len cell.fInstances) (len [z])) 64 := fun z => roomP (by rw [s_nadd, len_eq, len_eq]; simp; omega) (by omega)
            have hr0 : std.room (std.nadd (len ([] : List TInstance)) (len cell.fInstances)) 64 := roomP (by rw [s_nadd, len_eq, len_eq]; simp; omega) (by omega)
            simp only [Bool.not_true, br_f, req_of (hr _), req_of hr0, List.nil_append, Option.bind_some]
            exact ⟨_, _, _, rfl, rfl, .inr ⟨rfl, _, by omega, rfl, rfl⟩⟩
/- the other kinds of records -/
theorem one_in {a : ByteArray} (ha : a.size ≤ 100000000) {i : Nat} (h : i < a.size) (b : Bool) : F_impl_byteReader_one_mPb ⟨drp a i, b⟩ = some (std.sat a i, ⟨drp a (i + 1), b⟩) := by
  unfold F_impl_byteReader_one_mPb
  have hd := drp_size (show i ≤ a.size by omega)
  have hr := sat_rng a i
  simp only
  have e : std.ssub (drp a i) 1 (std.slen (drp a i)) = drp a (i + 1) := drp_drp (by omega)
  rw [lt_false (by rw [s_ofN, s_slen, hd]; omega), br_f, req_of ⟨by omega, by rw [s_slen, hd]; omega⟩, req_of ⟨by omega, by rw [s_slen, hd]; omega⟩, show std.toN 0 = 0 from rfl, show std.toN 1 = 1 from rfl, drp_sat h, conv64 (by omega), e]
theorem one_out {a : ByteArray} {i : Nat} (h : i = a.size) (b : Bool) : F_impl_byteReader_one_mPb ⟨drp a i, b⟩ = some (0, ⟨drp a i, true⟩) := by
  unfold F_impl_byteReader_one_mPb
  have hd := drp_size (show i ≤ a.size by omega)
  simp only
  rw [lt_true (by rw [s_ofN, s_slen, hd]; omega), br_t]
theorem fine_t (a : ByteArray) (j : Nat) : fine a j true = false := rfl
theorem fine_f (a : ByteArray) (j : Nat) : fine a j false = decide (j = a.size) := rfl
theorem two_reads {p : ByteArray} (hp : p.size ≤ 200) : ∃ v u s1 j b, F_impl_byteReader_one_mPb ⟨p, false⟩ = some (v, s1) ∧ F_impl_byteReader_one_mPb s1 = some (u, ⟨drp p j, b⟩) ∧ j ≤ p.size ∧ fine p j b = decide (p.size = 2) ∧ (p.size = 2 → v = std.sat p 0 ∧ u = std.sat p 1) ∧ byteQ v ∧ byteQ u := by
  have h0 := drp_zero p
  by_cases h1 : p.size = 0
  · have e1 := one_out (a := p) (i := 0) (by omega) false
    have e2 := one_out (a := p) (i := 0) (by omega) true
    rw [h0] at e1
    rw [h0] at e2
    refine ⟨0, 0, _, 0, true, e1, by rw [e2, h0], by omega, ?_, fun h => by omega, ⟨by omega, by omega⟩, ⟨by omega, by omega⟩⟩
    rw [fine_t, decide_eq_false (by omega)]
  · have e1 := one_in (a := p) (by omega) (i := 0) (by omega) false
    rw [h0, Nat.zero_add] at e1
    by_cases h2 : p.size = 1
    · have e2 := one_out (a := p) (i := 1) (by omega) false
      refine ⟨_, 0, _, 1, true, e1, e2, by omega, ?_, fun h => by omega, sat_rng p 0, ⟨by omega, by omega⟩⟩
      rw [fine_t, decide_eq_false (by omega)]
    · have e2 := one_in (a := p) (by omega) (i := 1) (by omega) false
      refine ⟨_, _, _, 2, false, e1, e2, by omega, ?_, fun h => ⟨rfl, rfl⟩, sat_rng p 0, sat_rng p 1⟩
      rw [fine_f]
      congr 1
      exact propext ⟨fun h => by omega, fun h => by omega⟩
theorem three_reads {p : ByteArray} (hp : p.size ≤ 200) : ∃ v u w s1 s2 j b, F_impl_byteReader_one_mPb ⟨p, false⟩ = some (v, s1) ∧ F_impl_byteReader_one_mPb s1 = some (u, s2) ∧ F_impl_byteReader_one_mPb s2 = some (w, ⟨drp p j, b⟩) ∧ j ≤ p.size ∧ fine p j b = decide (p.size = 3) ∧ (p.size = 3 → v = std.sat p 0 ∧ u = std.sat p 1 ∧ w = std.sat p 2) := by
  have h0 := drp_zero p
  by_cases h1 : p.size = 0
  · have e1 := one_out (a := p) (i := 0) (by omega) false
    have e2 := one_out (a := p) (i := 0) (by omega) true
    rw [h0] at e1
    rw [h0] at e2
    refine ⟨0, 0, 0, _, _, 0, true, e1, e2, by rw [e2, h0], by omega, ?_, fun h => by omega⟩
    rw [fine_t, decide_eq_false (by omega)]
  · have e1 := one_in (a := p) (by omega) (i := 0) (by omega) false
    rw [h0, Nat.zero_add] at e1
    by_cases h2 : p.size = 1
    · have e2 := one_out (a := p) (i := 1) (by omega) false
      have e3 := one_out (a := p) (i := 1) (by omega) true
      refine ⟨_, 0, 0, _, _, 1, true, e1, e2, e3, by omega, ?_, fun h => by omega⟩
      rw [fine_t, decide_eq_false (by omega)]
    · have e2 := one_in (a := p) (by omega) (i := 1) (by omega) false
      by_cases h3 : p.size = 2
      · have e3 := one_out (a := p) (i := 2) (by omega) false
        refine ⟨_, _, 0, _, _, 2, true, e1, e2, e3, by omega, ?_, fun h => by omega⟩
        rw [fine_t, decide_eq_false (by omega)]
      · have e3 := one_in (a := p) (by omega) (i := 2) (by omega) false
        refine ⟨_, _, _, _, _, 3, false, e1, e2, e3, by omega, ?_, fun h => ⟨rfl, rfl, rfl⟩⟩
        rw [fine_f]
        congr 1
        exact propext ⟨fun h => by omega, fun h => by omega⟩
theorem eqI_ok (l m : List Int) (h : l.length = m.length) (hl : l.length ≤ 1000) : F_slices_Equal_Lint64_int64 l m = some (decide (l = m)) := by
  have key : ∀ d i, i + d = l.length → whileP (L_slices_Equal_Lint64_int64_x2 l m) (i : Int) = some (if l.drop i = m.drop i then .inr () else .inl ()) := by
    intro d
    induction d with
    | zero =>
      intro i hi
      obtain rfl : i = l.length := by omega
      rw [whileP_unfold]
      simp only [L_slices_Equal_Lint64_int64_x2, letO_eq]
      rw [ltl_f, br_f, List.drop_length, h, List.drop_length, if_pos rfl]
    | succ d ih =>
      intro i hi
      have hil : i < l.length := by omega
      have him : i < m.length := by omega
      rw [whileP_unfold]
      simp only [L_slices_Equal_Lint64_int64_x2, letO_eq, s_toNn]
      rw [ltl_t hil, br_t, req_of (inRl hil), req_of (inRl him), List.drop_eq_getElem_cons hil, List.drop_eq_getElem_cons him, gd_lt hil, gd_lt him]
      by_cases he : l[i] = m[i]
      · rw [eq_true' he, s_not, Bool.not_true, br_f, inc_nat (by omega)]
        simp only
        rw [ih (i + 1) (by omega), he]
        congr 1
        by_cases hd : l.drop (i + 1) = m.drop (i + 1)
        · rw [if_pos hd, if_pos (by rw [hd])]
        · rw [if_neg hd, if_neg (fun hc => hd (by injection hc))]
      · rw [eq_false' he, s_not, Bool.not_false, br_t]
        simp only
        rw [if_neg (fun hc => he (by injection hc))]
  unfold F_slices_Equal_Lint64_int64
  rw [notEq (eq_true' (by rw [s_ofN, s_ofN, len_eq, len_eq, h])), br_f]
  have := key l.length 0 (by omega)
  rw [show (((0 : Nat) : Nat) : Int) = 0 from rfl, List.drop_zero, List.drop_zero] at this
  rw [this, Option.bind_some]
  by_cases he : l = m
  · rw [if_pos he, decide_eq_true he]
  · rw [if_neg he, decide_eq_false he]
theorem three_same {p : ByteArray} {a b c : Int} (ha : 0 ≤ a ∧ a ≤ 255) (hb : 0 ≤ b ∧ b ≤ 255) (hc : 0 ≤ c ∧ c ≤ 255) : std.seq p (ofL [a, b, c]) = (decide (p.size = 3) && decide ([std.sat p 0, std.sat p 1, std.sat p 2] = [a, b, c])) := by
  by_cases h3 : p.size = 3
  · rw [decide_eq_true h3, Bool.true_and]
    have hY := ofL_bytes p
    rw [h3] at hY
    have hY2 : p = ofL [std.sat p 0, std.sat p 1, std.sat p 2] := hY
    by_cases he : [std.sat p 0, std.sat p 1, std.sat p 2] = [a, b, c]
    · rw [decide_eq_true he, ← he, ← hY2]; exact seq_self _
    · rw [decide_eq_false he]
      cases hs : std.seq p (ofL [a, b, c]) with
      | false => rfl
      | true =>
        exfalso
        have h4 := seq_iff.1 hs
        apply he
        rw [h4]
        have g0 : gd [a, b, c] 0 = a := rfl
        have g1 : gd [a, b, c] 1 = b := rfl
        have g2 : gd [a, b, c] 2 = c := rfl
        rw [ofL_sat (by simp) (by rw [g0]; exact ha), ofL_sat (by simp) (by rw [g1]; exact hb), ofL_sat (by simp) (by rw [g2]; exact hc), g0, g1, g2]
  · rw [decide_eq_false h3, Bool.false_and]
    cases hs : std.seq p (ofL [a, b, c]) with
    | false => rfl
    | true =>
      have h4 := congrArg ByteArray.size (seq_iff.1 hs)
      rw [ofL_size] at h4
      exact (h3 h4).elim
theorem seq_comm (a b : ByteArray) : std.seq a b = std.seq b a := by
  rw [Bool.eq_iff_iff, seq_iff, seq_iff]
  exact ⟨Eq.symm, Eq.symm⟩
set_option maxHeartbeats 2000000 in
theorem ts_head (p pre : ByteArray) (hp : p.size ≤ 200) (cA cB : TCell) (kind : Int) :
    ∃ c st' x', F_impl_streamReader_take_mPoooobbb ⟨false, false, 0, false, cA, ⟨[]⟩⟩ 1 p pre = some (c, st') ∧ F_spec_l14Take_mPbbbb ⟨-1, ⟨[]⟩, false, cB, kind, false⟩ 1 p pre = some (c, x') ∧
      ((c ≠ 0 ∧ st'.glib = ⟨[]⟩ ∧ x'.gdone = ⟨[]⟩) ∨ (c = 0 ∧ ∃ want : Int, 1 ≤ want ∧ want ≤ 8 ∧ st' = ⟨true, false, want, false, cA, ⟨[]⟩⟩ ∧ x' = ⟨want, ⟨[]⟩, false, cB, kind, false⟩)) := by
  obtain ⟨v, u, s1, j, b, h1, h2, hj, hf, hvu, _, _⟩ := two_reads hp
  have ip : F_impl_streamReader_possible_mpb ⟨false, false, 0, false, cA, ⟨[]⟩⟩ 1 = some true := poss_head rfl rfl
  have sp : F_spec_l14Possible_mpb ⟨-1, ⟨[]⟩, false, cB, kind, false⟩ 1 = some true := by
    unfold F_spec_l14Possible_mpb
    simp only
    rw [lt_true (by omega), br_t, eq_true' rfl]
  unfold F_impl_streamReader_take_mPoooobbb F_spec_l14Take_mPbbbb
  rw [ip, sp]
  simp only [Option.bind_some, Bool.not_true, br_f, e11, br_t, h1, h2, whole_fine hj b, hf, letO_eq]
  by_cases hs : p.size = 2
  · obtain ⟨rfl, rfl⟩ := hvu hs
    have r0 := sat_rng p 0
    have r1 := sat_rng p 1
    have ei0 : std.inR 0 (std.slen p) := ⟨by omega, by rw [s_slen]; omega⟩
    have ei1 : std.inR 1 (std.slen p) := ⟨by omega, by rw [s_slen]; omega⟩
    rw [decide_eq_true hs, eq_true' (show (std.ofN (std.slen p) : Int) = 2 by rw [s_ofN, s_slen]; omega)]
    simp only [Bool.not_true, br_f, s_not, req_of ei0, req_of ei1, show std.toN 0 = 0 from rfl, show std.toN 1 = 1 from rfl, Option.bind_some, conv64 (show -1000000000 ≤ std.sat p 1 ∧ std.sat p 1 ≤ 1000000000 by omega), impl_within_ok, spec_l09In_ok]
    cases he : std.eq (std.sat p 0) 1 with
    | false =>
      simp only [Bool.not_false, br_t, Option.bind_some]
      exact ⟨_, _, _, rfl, rfl, .inl ⟨by decide, rfl, rfl⟩⟩
    | true =>
      simp only [Bool.not_true, br_f, Option.bind_some]
      cases hw : wB (std.sat p 1) 1 8 with
      | false =>
        simp only [Bool.not_false, br_t, Option.bind_some]
        exact ⟨_, _, _, rfl, rfl, .inl ⟨by decide, rfl, rfl⟩⟩
      | true =>
        rw [wB_iff'] at hw
        simp only [Bool.not_true, br_f, Option.bind_some]
        exact ⟨_, _, _, rfl, rfl, .inr ⟨rfl, _, hw.1, hw.2, rfl, rfl⟩⟩
  · rw [decide_eq_false hs, eq_false' (show (std.ofN (std.slen p) : Int) ≠ 2 by rw [s_ofN, s_slen]; omega)]
    simp only [Bool.not_false, br_t, s_not, Option.bind_some]
    exact ⟨_, _, _, rfl, rfl, .inl ⟨by decide, rfl, rfl⟩⟩
set_option maxHeartbeats 2000000 in
theorem ts_cell (want kind : Int) (lib : TLibrary) (cA cB : TCell) (hw : 0 ≤ want) (hl : (lib.fCells.length : Int) < want) (hll : lib.fCells.length ≤ 8) (p pre : ByteArray) (hp : p.size ≤ 200) :
    ∃ c st' x', F_impl_streamReader_take_mPoooobbb ⟨true, false, want, false, cA, lib⟩ 2 p pre = some (c, st') ∧ F_spec_l14Take_mPbbbb ⟨want, lib, false, cB, kind, false⟩ 2 p pre = some (c, x') ∧
      ((c ≠ 0 ∧ st'.glib = lib ∧ x'.gdone = lib) ∨ (c = 0 ∧ ∃ nm, isName nm = true ∧ st' = ⟨true, false, want, true, ⟨nm, [], [], []⟩, lib⟩ ∧ x' = ⟨want, lib, true, ⟨nm, [], [], []⟩, 3, false⟩)) := by
  obtain ⟨v, j, b, hj, _, hq, hx, hy⟩ := sim_name (a := p) (by omega) (i := 0) (Nat.zero_le _) false
  rw [drp_zero] at hx
  have hy' : F_spec_l13GetName_mPb ⟨p, 0, false⟩ = _ := hy
  have hn : v.size ≤ maxLen := Nat.le_trans hq (by decide)
  have ip : F_impl_streamReader_possible_mpb ⟨true, false, want, false, cA, lib⟩ 2 = some true := poss_cell rfl rfl rfl hl
  have sp : F_spec_l14Possible_mpb ⟨want, lib, false, cB, kind, false⟩ 2 = some true := by
    unfold F_spec_l14Possible_mpb
    simp only
    rw [lt_false (by omega), br_f, br_f, lt_true (by rw [s_ofN, len_eq]; exact hl), br_t, eq_true' rfl]
  have hnm : F_impl_named lib v = some (namedI lib.fCells v) := impl_named_ok _ _ (by omega)
  have hkn : F_spec_l14Known_mpb ⟨want, lib, false, cB, kind, false⟩ v = some (namedI lib.fCells v) := spec_Known_ok _ _ (by show lib.fCells.length ≤ _; omega)
  unfold F_impl_streamReader_take_mPoooobbb F_spec_l14Take_mPbbbb
  rw [ip, sp]
  simp only [Option.bind_some, Bool.not_true, br_f, e21, e22, br_t, hx, hy', whole_fine hj b, spec_fine hj b, letO_eq]
  cases hf : fine p j b with
  | false =>
    simp only [Bool.not_false, br_t, Option.bind_some]
    exact ⟨_, _, _, rfl, rfl, .inl ⟨by decide, rfl, rfl⟩⟩
  | true =>
    simp only [Bool.not_true, br_f, Option.bind_some, impl_IsName_ok _ hn, spec_IsName_ok _ hn, hnm, hkn]
    cases hi : isName v with
    | false =>
      simp only [Bool.not_false, br_t, Option.bind_some]
      exact ⟨_, _, _, rfl, rfl, .inl ⟨by decide, rfl, rfl⟩⟩
    | true =>
      simp only [Bool.not_true, br_f, Option.bind_some]
      cases hle : std.le 0 (namedI lib.fCells v) with
      | true =>
        simp only [br_t, Option.bind_some]
        exact ⟨_, _, _, rfl, rfl, .inl ⟨by decide, rfl, rfl⟩⟩
      | false =>
        simp only [br_f, Option.bind_some]
        exact ⟨_, _, _, rfl, rfl, .inr ⟨rfl, v, hi, rfl, rfl⟩⟩
set_option maxHeartbeats 2000000 in
theorem ts_fin (want kind : Int) (lib : TLibrary) (cell : TCell) (hw : 0 ≤ want) (hk : kind = 3 ∨ kind = 4 ∨ kind = 5) (hll : lib.fCells.length ≤ 8) (n3 : cell.fShapes.length ≤ 24) (n4 : cell.fLabels.length ≤ 8) (n5 : cell.fInstances.length ≤ 8) (p pre : ByteArray) (hp : p.size ≤ 200) :
    ∃ c st' x', F_impl_streamReader_take_mPoooobbb ⟨true, false, want, true, cell, lib⟩ 6 p pre = some (c, st') ∧ F_spec_l14Take_mPbbbb ⟨want, lib, true, cell, kind, false⟩ 6 p pre = some (c, x') ∧
      ((c ≠ 0 ∧ st'.glib = lib ∧ x'.gdone = lib) ∨ (c = 0 ∧ st' = ⟨true, false, want, false, ⟨ByteArray.mk #[], [], [], []⟩, ⟨lib.fCells ++ [cell]⟩⟩ ∧ x' = ⟨want, ⟨lib.fCells ++ [cell]⟩, false, cell, kind, false⟩)) := by
  obtain ⟨v, u, w, s1, s2, j, b, h1, h2, h3, hj, hf, hv⟩ := three_reads hp
  have hb : wB 6 (max kind 3) 6 = true := (wB_iff' _ _ _).2 (by omega)
  have a1 : 0 ≤ (std.ofN (len cell.fShapes) : Int) ∧ (std.ofN (len cell.fShapes) : Int) ≤ 255 := by rw [s_ofN, len_eq]; omega
  have a2 : 0 ≤ (std.ofN (len cell.fLabels) : Int) ∧ (std.ofN (len cell.fLabels) : Int) ≤ 255 := by rw [s_ofN, len_eq]; omega
  have a3 : 0 ≤ (std.ofN (len cell.fInstances) : Int) ∧ (std.ofN (len cell.fInstances) : Int) ≤ 255 := by rw [s_ofN, len_eq]; omega
  have hr1 : std.room (std.nadd (std.slen (ofL [std.ofN (len cell.fShapes)])) (std.slen (ofL [std.ofN (len cell.fLabels)]))) 1 := room1 (by rw [s_slen, s_slen, ofL_size, ofL_size]; simp)
  have hr2 : std.room (std.nadd (std.slen (ofL ([std.ofN (len cell.fShapes)] ++ [std.ofN (len cell.fLabels)]))) (std.slen (ofL [std.ofN (len cell.fInstances)]))) 1 := room1 (by rw [s_slen, s_slen, ofL_size, ofL_size]; simp)
  have hr3 : std.room (std.nadd (len lib.fCells) (len [cell])) 88 := roomP (by rw [s_nadd, len_eq, len_eq]; simp; omega) (by omega)
  have hr4 : std.room (std.nadd (len ([] : List TCell)) (len lib.fCells)) 88 := roomP (by rw [s_nadd, len_eq, len_eq]; simp; omega) (by omega)
  unfold F_impl_streamReader_take_mPoooobbb F_spec_l14Take_mPbbbb
  rw [iposs_in, sposs_in _ _ _ _ hw, hb, if_neg (show ¬ (6 : Int) = 3 by decide), if_neg (show ¬ (6 : Int) = 4 by decide)]
  have hbo : (decide ((6 : Int) = 5) || decide ((6 : Int) = 6)) = true := by decide
  rw [hbo]
  simp only [Option.bind_some, Bool.not_true, br_f, e61, e62, e63, e64, e65, e66, br_t, h1, h2, h3, whole_fine hj b, hf, letO_eq, spec_l13Byte_ok, oneB_id a1, oneB_id a2, oneB_id a3, ofL_app, req_of hr1, req_of hr2, req_of hr3, req_of hr4,
    eqI_ok [v, u, w] [std.ofN (len cell.fShapes), std.ofN (len cell.fLabels), std.ofN (len cell.fInstances)] rfl (by simp)]
  have h3s := three_same (p := p) a1 a2 a3
  rw [show ([std.ofN (len cell.fShapes)] ++ [std.ofN (len cell.fLabels)] ++ [std.ofN (len cell.fInstances)] : List Int) = [std.ofN (len cell.fShapes), std.ofN (len cell.fLabels), std.ofN (len cell.fInstances)] from rfl, h3s]
  by_cases hs : p.size = 3
  · obtain ⟨rfl, rfl, rfl⟩ := hv hs
    rw [decide_eq_true hs]
    simp only [Bool.not_true, br_f, Bool.true_and, Option.bind_some, s_not]
    cases he : decide ([std.sat p 0, std.sat p 1, std.sat p 2] = [std.ofN (len cell.fShapes), std.ofN (len cell.fLabels), std.ofN (len cell.fInstances)]) with
    | false =>
      simp only [Bool.not_false, br_t, Option.bind_some]
      exact ⟨_, _, _, rfl, rfl, .inl ⟨by decide, rfl, rfl⟩⟩
    | true =>
      simp only [Bool.not_true, br_f, Option.bind_some, List.nil_append, req_of hr3]
      exact ⟨_, _, _, rfl, rfl, .inr ⟨rfl, rfl, rfl⟩⟩
  · rw [decide_eq_false hs]
    simp only [Bool.not_false, br_t, Bool.false_and, Option.bind_some, s_not]
    exact ⟨_, _, _, rfl, rfl, .inl ⟨by decide, rfl, rfl⟩⟩
set_option maxHeartbeats 2000000 in
theorem ts_end (want kind : Int) (lib : TLibrary) (cA cB : TCell) (hw : 0 ≤ want) (hl : (lib.fCells.length : Int) = want) (p pre : ByteArray) (hp : p.size ≤ 200) (hpre : pre.size ≤ 100000000) :
    ∃ c st' x', F_impl_streamReader_take_mPoooobbb ⟨true, false, want, false, cA, lib⟩ 7 p pre = some (c, st') ∧ F_spec_l14Take_mPbbbb ⟨want, lib, false, cB, kind, false⟩ 7 p pre = some (c, x') ∧
      ((c ≠ 0 ∧ st'.glib = lib ∧ x'.gdone = lib) ∨ (c = 0 ∧ st' = ⟨true, true, want, false, cA, lib⟩ ∧ x' = ⟨want, lib, false, cB, kind, true⟩)) := by
  obtain ⟨v, u, s1, j, b, h1, h2, hj, hf, hvu, hv, hu⟩ := two_reads hp
  have ip : F_impl_streamReader_possible_mpb ⟨true, false, want, false, cA, lib⟩ 7 = some true := poss_end rfl rfl rfl hl
  have sp : F_spec_l14Possible_mpb ⟨want, lib, false, cB, kind, false⟩ 7 = some true := by
    unfold F_spec_l14Possible_mpb
    simp only
    rw [lt_false (by omega), br_f, br_f, lt_false (by rw [s_ofN, len_eq]; omega), br_f, eq_true' rfl]
  have hck := ck_rng pre (by omega)
  have eT : F_impl_byteReader_two_mPb ⟨p, false⟩ = some (v * 256 + u, ⟨drp p j, b⟩) := by
    unfold F_impl_byteReader_two_mPb
    rw [h1, Option.bind_some]
    simp only
    rw [req_of (by rw [s_nneg]; omega), h2, Option.bind_some]
    unfold byteQ at hv hu
    have e1 := num2 (a := v) (b := u) (by omega) (by omega)
    rw [conv64 (by omega), conv64 (by omega)] at e1
    simp only [e1]
  unfold F_impl_streamReader_take_mPoooobbb F_spec_l14Take_mPbbbb
  rw [ip, sp]
  simp only [Option.bind_some, Bool.not_true, br_f, e71, e72, e73, e74, e75, e76, e77, br_t, eT, whole_fine hj b, hf, letO_eq]
  by_cases hs : p.size = 2
  · obtain ⟨rfl, rfl⟩ := hvu hs
    rw [decide_eq_true hs, eq_true' (show (std.ofN (std.slen p) : Int) = 2 by rw [s_ofN, s_slen]; omega)]
    have h2s := two_same hs hck
    rw [seq_comm] at h2s
    simp only [Bool.not_true, br_f, s_not, impl_Checksum16_ok _ (show pre.size ≤ 1000000000 by omega), spec_Checksum16_ok _ (show pre.size ≤ 1000000000 by omega), spec_l13Two_ok, Option.bind_some, h2s]
    cases he : std.eq (std.sat p 0 * 256 + std.sat p 1) (ck pre) with
    | false =>
      simp only [Bool.not_false, br_t, Option.bind_some]
      exact ⟨_, _, _, rfl, rfl, .inl ⟨by decide, rfl, rfl⟩⟩
    | true =>
      simp only [Bool.not_true, br_f, Option.bind_some]
      exact ⟨_, _, _, rfl, rfl, .inr ⟨rfl, rfl, rfl⟩⟩
  · rw [decide_eq_false hs, eq_false' (show (std.ofN (std.slen p) : Int) ≠ 2 by rw [s_ofN, s_slen]; omega)]
    simp only [Bool.not_false, br_t, s_not, Option.bind_some]
    exact ⟨_, _, _, rfl, rfl, .inl ⟨by decide, rfl, rfl⟩⟩
/- reading a stream: both sides the same -/
structure CBs (c : TCell) : Prop where
  name : c.fName.size ≤ 8
  shapes : c.fShapes.length ≤ 24
  labels : c.fLabels.length ≤ 8
  insts : c.fInstances.length ≤ 8
  lname : ∀ l ∈ c.fLabels, l.fName.size ≤ 8
def GoodL (lib : TLibrary) : Prop := lib.fCells.length ≤ 8 ∧ ∀ c ∈ lib.fCells, CBs c
def Kd (kind : Int) (c : TCell) : Prop := (kind = 3 ∧ c.fLabels = [] ∧ c.fInstances = []) ∨ (kind = 4 ∧ c.fInstances = [] ∧ c.fLabels ≠ []) ∨ (kind = 5 ∧ c.fInstances ≠ [])
def cell0 : TCell := ⟨ByteArray.mk #[], [], [], []⟩
inductive J : TstreamReader → Tl14State → Prop
  | new : J ⟨false, false, 0, false, cell0, ⟨[]⟩⟩ ⟨-1, ⟨[]⟩, false, cell0, 0, false⟩
  | out (want kind : Int) (lib : TLibrary) (cA cB : TCell) : 1 ≤ want → want ≤ 8 → (lib.fCells.length : Int) ≤ want → GoodL lib → J ⟨true, false, want, false, cA, lib⟩ ⟨want, lib, false, cB, kind, false⟩
  | inn (want kind : Int) (lib : TLibrary) (cell : TCell) : 1 ≤ want → want ≤ 8 → (lib.fCells.length : Int) < want → GoodL lib → CBs cell → Kd kind cell → J ⟨true, false, want, true, cell, lib⟩ ⟨want, lib, true, cell, kind, false⟩
  | fin (want kind : Int) (lib : TLibrary) (cA cB : TCell) : GoodL lib → J ⟨true, true, want, false, cA, lib⟩ ⟨want, lib, false, cB, kind, true⟩
theorem imp_no {st : TstreamReader} {k : Int} {p pre : ByteArray} (h : F_impl_streamReader_possible_mpb st k = some false) : F_impl_streamReader_take_mPoooobbb st k p pre = some (4, st) := by
  unfold F_impl_streamReader_take_mPoooobbb
  rw [h, Option.bind_some, Bool.not_false, br_t]
theorem imp_no' {x : Tl14State} {k : Int} {p pre : ByteArray} (h : F_spec_l14Possible_mpb x k = some false) : F_spec_l14Take_mPbbbb x k p pre = some (4, x) := by
  unfold F_spec_l14Take_mPbbbb
  rw [h, Option.bind_some, Bool.not_false, br_t]
theorem take_same {st : TstreamReader} {x : Tl14State} (h : J st x) (hd : st.gdone = false) {k : Int} (hk : 1 ≤ k ∧ k ≤ 7) {p pre : ByteArray} (hp : p.size ≤ 200) (hpre : pre.size ≤ 100000000) :
    ∃ c st' x', F_impl_streamReader_take_mPoooobbb st k p pre = some (c, st') ∧ F_spec_l14Take_mPbbbb x k p pre = some (c, x') ∧ st'.glib = x'.gdone ∧ GoodL st'.glib ∧ (c = 0 → J st' x') := by
  have hnil : GoodL ⟨[]⟩ := ⟨by simp, fun c hc => by cases hc⟩
  cases h with
  | new =>
    by_cases h1 : k = 1
    · subst h1
      obtain ⟨c, st', x', e1, e2, h⟩ := ts_head p pre hp cell0 cell0 0
      refine ⟨c, st', x', e1, e2, ?_⟩
      rcases h with ⟨h0, h1, h2⟩ | ⟨h0, want, w1, w2, h1, h2⟩
      · exact ⟨by rw [h1, h2], by rw [h1]; exact hnil, fun h => (h0 h).elim⟩
      · subst h1; subst h2
        exact ⟨rfl, hnil, fun _ => .out want 0 ⟨[]⟩ cell0 cell0 w1 w2 (by show ((0 : Nat) : Int) ≤ want; omega) hnil⟩
    · refine ⟨4, _, _, imp_no ?_, imp_no' ?_, rfl, hnil, fun h => by cases h⟩
      · unfold F_impl_streamReader_possible_mpb
        simp only [br_f, Bool.not_false, br_t]
        rw [eq_false' h1]
      · unfold F_spec_l14Possible_mpb
        simp only
        rw [lt_true (by omega), br_t, eq_false' h1]
  | out want kind lib cA cB w1 w2 hl hg =>
    by_cases hlt : (lib.fCells.length : Int) < want
    · by_cases h2 : k = 2
      · subst h2
        obtain ⟨c, st', x', e1, e2, h⟩ := ts_cell want kind lib cA cB (by omega) hlt hg.1 p pre hp
        refine ⟨c, st', x', e1, e2, ?_⟩
        rcases h with ⟨h0, h1, h2⟩ | ⟨h0, nm, hn, h1, h2⟩
        · exact ⟨by rw [h1, h2], by rw [h1]; exact hg, fun h => (h0 h).elim⟩
        · subst h1; subst h2
          exact ⟨rfl, hg, fun _ => .inn want 3 lib ⟨nm, [], [], []⟩ w1 w2 hlt hg ⟨isName_size hn, by simp, by simp, by simp, fun l hl => by cases hl⟩ (.inl ⟨rfl, rfl, rfl⟩)⟩
      · refine ⟨4, _, _, imp_no ?_, imp_no' ?_, rfl, hg, fun h => by cases h⟩
        · unfold F_impl_streamReader_possible_mpb
          simp only [br_f, Bool.not_false, Bool.not_true, br_t, Option.bind_some, letO_eq]
          rw [lt_true (by rw [s_ofN, len_eq]; exact hlt), br_t, eq_false' h2]
        · unfold F_spec_l14Possible_mpb
          simp only
          rw [lt_false (by omega), br_f, br_f, lt_true (by rw [s_ofN, len_eq]; exact hlt), br_t, eq_false' h2]
    · by_cases h7 : k = 7
      · subst h7
        obtain ⟨c, st', x', e1, e2, h⟩ := ts_end want kind lib cA cB (by omega) (by omega) p pre hp hpre
        refine ⟨c, st', x', e1, e2, ?_⟩
        rcases h with ⟨h0, h1, h2⟩ | ⟨h0, h1, h2⟩
        · exact ⟨by rw [h1, h2], by rw [h1]; exact hg, fun h => (h0 h).elim⟩
        · subst h1; subst h2
          exact ⟨rfl, hg, fun _ => .fin want kind lib cA cB hg⟩
      · refine ⟨4, _, _, imp_no ?_, imp_no' ?_, rfl, hg, fun h => by cases h⟩
        · unfold F_impl_streamReader_possible_mpb
          simp only [br_f, Bool.not_false, Bool.not_true, br_t, Option.bind_some, letO_eq]
          rw [lt_false (by rw [s_ofN, len_eq]; exact hlt), br_f, eq_false' h7]
        · unfold F_spec_l14Possible_mpb
          simp only
          rw [lt_false (by omega), br_f, br_f, lt_false (by rw [s_ofN, len_eq]; exact hlt), br_f, eq_false' h7]
  | inn want kind lib cell w1 w2 hl hg hc hK =>
    have h0w : 0 ≤ want := by omega
    have hk345 : kind = 3 ∨ kind = 4 ∨ kind = 5 := by rcases hK with ⟨h, _⟩ | ⟨h, _⟩ | ⟨h, _⟩ <;> simp [h]
    have no : ∀ (hi : (if k = 3 then decide (cell.fLabels.length = 0) && decide (cell.fInstances.length = 0) else if k = 4 then decide (cell.fInstances.length = 0) else decide (k = 5) || decide (k = 6)) = false) (hs : ¬ (max kind 3 ≤ k ∧ k ≤ 6)),
        ∃ c st' x', F_impl_streamReader_take_mPoooobbb ⟨true, false, want, true, cell, lib⟩ k p pre = some (c, st') ∧ F_spec_l14Take_mPbbbb ⟨want, lib, true, cell, kind, false⟩ k p pre = some (c, x') ∧ st'.glib = x'.gdone ∧ GoodL st'.glib ∧ (c = 0 → J st' x') := by
      intro hi hs
      refine ⟨4, _, _, imp_no (by rw [iposs_in, hi]), imp_no' (by
        rw [sposs_in _ _ _ _ h0w]
        cases hw : wB k (max kind 3) 6 with
        | false => rfl
        | true => exact (hs ((wB_iff' _ _ _).1 hw)).elim), rfl, hg, fun h => by cases h⟩
    have hkc : k = 1 ∨ k = 2 ∨ k = 3 ∨ k = 4 ∨ k = 5 ∨ k = 6 ∨ k = 7 := by omega
    rcases hkc with rfl | rfl | rfl | rfl | rfl | rfl | rfl
    · exact no (by rw [if_neg (by decide), if_neg (by decide)]; decide) (by omega)
    · exact no (by rw [if_neg (by decide), if_neg (by decide)]; decide) (by omega)
    · by_cases he : cell.fLabels = [] ∧ cell.fInstances = []
      · have hk3 : kind = 3 := by
          rcases hK with ⟨h, _⟩ | ⟨_, _, h⟩ | ⟨_, h⟩
          · exact h
          · exact (h he.1).elim
          · exact (h he.2).elim
        obtain ⟨c, st', x', e1, e2, h⟩ := ts_shape want kind lib cell h0w hk3 he.1 he.2 hc.shapes p pre hp
        refine ⟨c, st', x', e1, e2, ?_⟩
        rcases h with ⟨h0, h1, h2⟩ | ⟨h0, s, hs, hlen, h1, h2⟩
        · exact ⟨by rw [h1, h2], by rw [h1]; exact hg, fun h => (h0 h).elim⟩
        · subst h1; subst h2
          exact ⟨rfl, hg, fun _ => .inn want kind lib _ w1 w2 hl hg ⟨hc.name, by simp; omega, hc.labels, hc.insts, hc.lname⟩ (.inl ⟨hk3, he.1, he.2⟩)⟩
      · refine no (by
          rw [if_pos rfl, Bool.and_eq_false_iff]
          by_cases h4 : cell.fLabels = []
          · right
            rw [decide_eq_false_iff_not]
            intro h5
            exact he ⟨h4, List.length_eq_zero_iff.1 h5⟩
          · left
            rw [decide_eq_false_iff_not]
            intro h5
            exact h4 (List.length_eq_zero_iff.1 h5)) ?_
        rcases hK with ⟨_, h4, h5⟩ | ⟨h, _⟩ | ⟨h, _⟩
        · exact (he ⟨h4, h5⟩).elim
        · omega
        · omega
    · by_cases he : cell.fInstances = []
      · have hk34 : kind = 3 ∨ kind = 4 := by
          rcases hK with ⟨h, _⟩ | ⟨h, _⟩ | ⟨_, h⟩
          · exact .inl h
          · exact .inr h
          · exact (h he).elim
        obtain ⟨c, st', x', e1, e2, h⟩ := ts_label want kind lib cell h0w hk34 he hc.labels p pre hp
        refine ⟨c, st', x', e1, e2, ?_⟩
        rcases h with ⟨h0, h1, h2⟩ | ⟨h0, s, hs, hlen, h1, h2⟩
        · exact ⟨by rw [h1, h2], by rw [h1]; exact hg, fun h => (h0 h).elim⟩
        · subst h1; subst h2
          have hn : s.fName.size ≤ 8 := by
            unfold okLabel at hs
            simp only [Bool.and_eq_true] at hs
            exact isName_size hs.2.2
          refine ⟨rfl, hg, fun _ => .inn want 4 lib _ w1 w2 hl hg ⟨hc.name, hc.shapes, by simp; omega, hc.insts, fun l hl => ?_⟩ (.inr (.inl ⟨rfl, he, by simp⟩))⟩
          rcases List.mem_append.1 hl with hl | hl
          · exact hc.lname l hl
          · rw [List.mem_singleton] at hl; rw [hl]; exact hn
      · refine no (by
          rw [if_neg (by decide), if_pos rfl, decide_eq_false_iff_not]
          intro h5
          exact he (List.length_eq_zero_iff.1 h5)) ?_
        rcases hK with ⟨_, _, h5⟩ | ⟨_, h5, _⟩ | ⟨h, _⟩
        · exact (he h5).elim
        · exact (he h5).elim
        · omega
    · obtain ⟨c, st', x', e1, e2, h⟩ := ts_inst want kind lib cell h0w hk345 hg.1 hc.insts p pre hp
      refine ⟨c, st', x', e1, e2, ?_⟩
      rcases h with ⟨h0, h1, h2⟩ | ⟨h0, s, hlen, h1, h2⟩
      · exact ⟨by rw [h1, h2], by rw [h1]; exact hg, fun h => (h0 h).elim⟩
      · subst h1; subst h2
        exact ⟨rfl, hg, fun _ => .inn want 5 lib _ w1 w2 hl hg ⟨hc.name, hc.shapes, hc.labels, by simp; omega, hc.lname⟩ (.inr (.inr ⟨rfl, by simp⟩))⟩
    · obtain ⟨c, st', x', e1, e2, h⟩ := ts_fin want kind lib cell h0w hk345 hg.1 hc.shapes hc.labels hc.insts p pre hp
      refine ⟨c, st', x', e1, e2, ?_⟩
      rcases h with ⟨h0, h1, h2⟩ | ⟨h0, h1, h2⟩
      · exact ⟨by rw [h1, h2], by rw [h1]; exact hg, fun h => (h0 h).elim⟩
      · subst h1; subst h2
        have hg2 : GoodL ⟨lib.fCells ++ [cell]⟩ := ⟨by simp; omega, fun c hc' => by
          rcases List.mem_append.1 hc' with h | h
          · exact hg.2 c h
          · rw [List.mem_singleton] at h; rw [h]; exact hc⟩
        exact ⟨rfl, hg2, fun _ => .out want kind ⟨lib.fCells ++ [cell]⟩ _ cell w1 w2 (by simp; omega) hg2⟩
    · exact no (by rw [if_neg (by decide), if_neg (by decide)]; decide) (by omega)
  | fin want kind lib cA cB hg => cases hd
abbrev StI := Int × Bool × Bool × Int × Bool × ByteArray × List TShape × List TLabel × List TInstance × List TCell
abbrev StS := Int × Int × List TCell × Bool × ByteArray × List TShape × List TLabel × List TInstance × Int × Bool
def tupI (n : Nat) (st : TstreamReader) : StI := ((n : Int), st.gbegun, st.gdone, st.gcells, st.ginside, st.gcell.fName, st.gcell.fShapes, st.gcell.fLabels, st.gcell.fInstances, st.glib.fCells)
def tupS (n : Nat) (x : Tl14State) : StS := ((n : Int), x.gwant, x.gdone.fCells, x.gopen, x.gcell.fName, x.gcell.fShapes, x.gcell.fLabels, x.gcell.fInstances, x.gkind, x.gended)
theorem J.ended {st : TstreamReader} {x : Tl14State} (h : J st x) : st.gdone = x.gended := by cases h <;> rfl
theorem J.lib {st : TstreamReader} {x : Tl14State} (h : J st x) : st.glib = x.gdone ∧ GoodL st.glib := by
  cases h with
  | new => exact ⟨rfl, by simp, fun c hc => by cases hc⟩
  | out want kind lib cA cB w1 w2 hl hg => exact ⟨rfl, hg⟩
  | inn want kind lib cell w1 w2 hl hg hc hK => exact ⟨rfl, hg⟩
  | fin want kind lib cA cB hg => exact ⟨rfl, hg⟩
/-- what both loops end with -/
def Ends (s : ByteArray) (a : Option ((Int × Int × List TCell) ⊕ StI)) (b : Option ((Int × Int × Int × List TCell × Bool × ByteArray × List TShape × List TLabel × List TInstance × Int × Bool) ⊕ StS)) : Prop :=
  (∃ (c n : Int) (x' : Tl14State), c ≠ 0 ∧ GoodL x'.gdone ∧ a = some (.inl (c, n, x'.gdone.fCells)) ∧ b = some (.inl (c, n, x'.gwant, x'.gdone.fCells, x'.gopen, x'.gcell.fName, x'.gcell.fShapes, x'.gcell.fLabels, x'.gcell.fInstances, x'.gkind, x'.gended))) ∨
  ∃ n st x, n ≤ s.size ∧ J st x ∧ a = some (.inr (tupI n st)) ∧ b = some (.inr (tupS n x))
set_option maxHeartbeats 2000000 in
theorem read_same {s : ByteArray} (hs : s.size ≤ 2097152) : ∀ M n st x, n ≤ s.size → s.size - n ≤ M → J st x → Ends s (whileP (L_impl_readStream_x11 s) (tupI n st)) (whileP (L_spec_l14Read_x11 s) (tupS n x)) := by
  intro M
  induction M using Nat.strongRecOn with
  | ind M ih =>
    intro n st x hn hM hJ
    cases hdn : st.gdone with
    | true =>
      have hen : x.gended = true := by rw [← hJ.ended]; exact hdn
      refine .inr ⟨n, st, x, hn, hJ, ?_, ?_⟩
      · rw [whileP_unfold]
        simp only [L_impl_readStream_x11, letO_eq, tupI, hdn, Bool.not_true, br_f]
      · rw [whileP_unfold]
        simp only [L_spec_l14Read_x11, letO_eq, tupS, hen, Bool.not_true, br_f]
    | false =>
      have hen : x.gended = false := by rw [← hJ.ended]; exact hdn
      obtain ⟨⟨k, p, nx, c⟩, e1, e2, h0⟩ := split_same hs n hn
      simp only at h0
      have hst : TstreamReader.mk st.gbegun false st.gcells st.ginside (TCell.mk st.gcell.fName st.gcell.fShapes st.gcell.fLabels st.gcell.fInstances) (TLibrary.mk st.glib.fCells) = st := by rw [← hdn]
      have hx : Tl14State.mk x.gwant (TLibrary.mk x.gdone.fCells) x.gopen (TCell.mk x.gcell.fName x.gcell.fShapes x.gcell.fLabels x.gcell.fInstances) x.gkind false = x := by rw [← hen]
      have hup : std.upTo (n : Int) (std.slen s) := ⟨by omega, by rw [s_slen]; omega⟩
      obtain ⟨hlib, hgl⟩ := hJ.lib
      by_cases hc : c = 0
      · subst hc
        obtain ⟨hk, hp, m, hm5, hms, rfl⟩ := h0 rfl
        have o1 : M - 1 < M := by omega
        have o2 : s.size - (n + m) ≤ M - 1 := by omega
        have hpre : (std.ssub s 0 n).size ≤ 100000000 := by
          show (s.extract 0 n).size ≤ _
          rw [ByteArray.size_extract]; omega
        obtain ⟨c2, st', x', f1, f2, g1, g2, g3⟩ := take_same hJ hdn hk hp hpre
        by_cases hc2 : c2 = 0
        · subst hc2
          have := ih (M - 1) o1 (n + m) st' x' hms o2 (g3 rfl)
          have a1 : whileP (L_impl_readStream_x11 s) (tupI n st) = whileP (L_impl_readStream_x11 s) (tupI (n + m) st') := by
            rw [whileP_unfold]
            simp only [L_impl_readStream_x11, letO_eq, tupI, hdn, Bool.not_false, br_t, e1, Option.bind_some, eq_true' rfl, req_of hup, s_toNn, hst, f1, s_not, Bool.not_true, br_f]
          have a2 : whileP (L_spec_l14Read_x11 s) (tupS n x) = whileP (L_spec_l14Read_x11 s) (tupS (n + m) x') := by
            rw [whileP_unfold]
            simp only [L_spec_l14Read_x11, letO_eq, tupS, hen, Bool.not_false, br_t, e2, Option.bind_some, eq_true' rfl, req_of hup, s_toNn, hx, f2, s_not, Bool.not_true, br_f]
          rw [a1, a2]
          exact this
        · refine .inl ⟨c2, (n : Int), x', hc2, by rw [← g1]; exact g2, ?_, ?_⟩
          · rw [whileP_unfold]
            simp only [L_impl_readStream_x11, letO_eq, tupI, hdn, Bool.not_false, br_t, e1, Option.bind_some, eq_true' rfl, req_of hup, s_toNn, hst, f1]
            rw [eq_false' hc2]
            simp only [s_not, Bool.not_false, br_t, g1]
          · rw [whileP_unfold]
            simp only [L_spec_l14Read_x11, letO_eq, tupS, hen, Bool.not_false, br_t, e2, Option.bind_some, eq_true' rfl, req_of hup, s_toNn, hx, f2, s_not, Bool.not_true, br_f]
            rw [eq_false' hc2]
            simp only [Bool.not_false, br_t]
      · refine .inl ⟨c, (n : Int), x, hc, by rw [← hlib]; exact hgl, ?_, ?_⟩
        · rw [whileP_unfold]
          simp only [L_impl_readStream_x11, letO_eq, tupI, hdn, Bool.not_false, br_t, e1, Option.bind_some, eq_false' hc, br_f, s_not, hlib]
        · rw [whileP_unfold]
          simp only [L_spec_l14Read_x11, letO_eq, tupS, hen, Bool.not_false, br_t, e2, Option.bind_some, eq_false' hc, s_not]
theorem readStream_same {s : ByteArray} (hs : s.size ≤ 2097152) : ∃ (lib : TLibrary) (c n : Int) (x : Tl14State), GoodL lib ∧ F_impl_readStream s = some (lib, c, n) ∧ F_spec_l14Read s = some (x, c, n) ∧ x.gdone = lib := by
  have h := read_same hs s.size 0 _ _ (Nat.zero_le _) (by omega) J.new
  have t1 : tupI 0 ⟨false, false, 0, false, cell0, ⟨[]⟩⟩ = (0, false, false, 0, false, (ByteArray.mk #[]), ([] : List TShape), ([] : List TLabel), ([] : List TInstance), ([] : List TCell)) := rfl
  have t2 : tupS 0 ⟨-1, ⟨[]⟩, false, cell0, 0, false⟩ = (0, (-1), ([] : List TCell), false, (ByteArray.mk #[]), ([] : List TShape), ([] : List TLabel), ([] : List TInstance), 0, false) := rfl
  rw [t1, t2] at h
  unfold F_impl_readStream F_spec_l14Read
  rcases h with ⟨c, n, x', hc, hg, e1, e2⟩ | ⟨n, st, x, hn, hJ, e1, e2⟩
  · rw [e1, e2]
    exact ⟨x'.gdone, c, n, x', hg, rfl, rfl, rfl⟩
  · obtain ⟨hlib, hgl⟩ := hJ.lib
    rw [e1, e2]
    simp only [Option.bind_some, letO_eq, tupI, tupS]
    by_cases hns : n < s.size
    · rw [lt_true (by rw [s_ofN, s_slen]; omega), br_t, eq_false' (show (n : Int) ≠ std.ofN (std.slen s) by rw [s_ofN, s_slen]; omega), s_not, Bool.not_false, br_t]
      exact ⟨x.gdone, 4, (n : Int), _, by rw [← hlib]; exact hgl, by rw [hlib], rfl, rfl⟩
    · rw [lt_false (by rw [s_ofN, s_slen]; omega), br_f, eq_true' (show (n : Int) = std.ofN (std.slen s) by rw [s_ofN, s_slen]; omega), s_not, Bool.not_true, br_f]
      exact ⟨x.gdone, 0, (n : Int), _, by rw [← hlib]; exact hgl, by rw [hlib], rfl, rfl⟩
theorem GoodL.small {lib : TLibrary} (h : GoodL lib) : SmallL lib := ⟨by have := h.1; omega, fun c hc => by
  have g := h.2 c hc
  exact ⟨by have := g.name; omega, by have := g.shapes; omega, by have := g.labels; omega, by have := g.insts; omega, fun l hl => by have := g.lname l hl; omega⟩⟩
/- SalvageStream -/
theorem SalvageStream_same {s : ByteArray} (hs : s.size ≤ 2097152) : ∃ r : TLibrary × Int, GoodL r.1 ∧ F_impl_SalvageStream s = some r ∧ F_spec_SalvageStream s = some r := by
  obtain ⟨lib, c, n, x, hg, e1, e2, e3⟩ := readStream_same hs
  unfold F_impl_SalvageStream F_spec_SalvageStream
  rw [e1, e2, Option.bind_some, Option.bind_some]
  simp only [e3]
  exact ⟨_, hg, rfl, rfl⟩
theorem lawW_SalvageStream (s : ByteArray) (_ : s.size ≤ maxLen) : F_laws_FnExactSalvageStream s = some true := by
  unfold F_laws_FnExactSalvageStream
  cases hb : std.lt 1048576 (std.ofN (std.slen s)) with
  | true => rfl
  | false =>
    rw [br_f]
    have hl := of_decide_eq_false hb
    rw [s_ofN, s_slen] at hl
    obtain ⟨⟨b, n⟩, hg, e1, e2⟩ := SalvageStream_same (s := s) (by omega)
    have hbs : SmallL b := hg.small
    have m2 := markLibrary_ok b 1 hbs (by omega)
    have m3 := heldLibrary_ok b 1 hbs (by omega)
    have e0 : ((1 : Nat) : Int) = 1 := rfl
    rw [e0] at m2 m3
    have hml : ((List.range b.fCells.length).map (mC b.fCells 1)).length = b.fCells.length := by simp
    simp only [e1, e2, Option.bind_some, laws_eqLibrary_ok b hbs, Bool.not_true, br_f, eq_true' rfl, s_not, letO_eq, m2, m3]
    rw [req_of (by rw [len_eq, len_eq, hml]), req_of (by rw [len_eq, len_eq, hml]), lt_false (by omega), br_f, req_of (by rw [len_eq, len_eq, hml])]
    simp only [br_f]
end Go.Proofs.Ytlenieingkfjaaa.AM
