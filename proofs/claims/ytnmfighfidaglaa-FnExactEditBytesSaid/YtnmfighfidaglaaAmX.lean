/-
  What the functions that the law reaches compute, and that they do. No condition.
-/
import Derived.Test.YtnmfighfidaglaaAmW
import Derived.Test.YtnmfighfidaglaaAmE
import Derived.WideShapes
namespace Go.Proofs.Ytnmfighfidaglaa.AM
open Go Go.Proofs Go.RowKit
set_option linter.unusedVariables false
set_option linter.unusedSimpArgs false
set_option maxRecDepth 100000

theorem br_bool {β : Type} (b : Bool) (x y : Option β) : br b x y = if b then x else y := by cases b <;> rfl
theorem letO_eq {α β : Type} (e : α) (k : α → Option β) : letO e k = k e := rfl
theorem req_of {β : Type} {p : Prop} {k : Option β} (h : p) : req p k = k := if_pos h
theorem F27_eq (a : TEdit) : F27 a = some a := rfl
theorem F108_eq (a b c : Int) : F108 a b c = some (decide (b ≤ a) && decide (a ≤ c)) := by
  unfold F108
  simp only [letO, std]
  cases h : decide (b ≤ a) <;> simp [br]
theorem F110_eq (a b c : Int) : F110 a b c = some (decide (b ≤ a) && decide (a ≤ c)) := F108_eq a b c
theorem F109_eq (a : TRect) : F109 a = F107 a := rfl
theorem F192_eq (a : Int) : F192 a = some (decide (0 ≤ a) && decide (a ≤ 7)) := by
  unfold F192
  rw [F108_eq]; rfl
theorem F149_eq (a : TShape) : F149 a = F140 a := by
  unfold F149 F140
  rw [F110_eq, F192_eq]; rfl
theorem F195_eq (a : TPoint) : F195 a = F193 a := rfl
theorem F196_eq (a : TTransform) : F196 a = F194 a := rfl
/-- a loop through the numbers below n -/
theorem scan {ok : Nat → Bool} {step : Int → Option (Int ⊕ (Unit ⊕ Unit))} {n : Nat} (h : ∀ i : Nat, i < n → step i = some (cond (ok i) (.inl ((i + 1 : Nat) : Int)) (.inr (.inl ())))) (hn : step n = some (.inr (.inr ()))) :
    ∀ m i : Nat, i + m = n → whileP step i = some (if (List.range' i m).all ok then .inr () else .inl ())
  | 0, i, hi => by
    have : i = n := by omega
    subst this
    rw [whileP_unfold, hn]; rfl
  | m + 1, i, hi => by
    rw [whileP_unfold, h i (by omega)]
    cases hb : ok i with
    | true =>
      simp only [cond]
      rw [scan h hn m (i + 1) (by omega)]
      simp only [List.range', List.all_cons, hb, Bool.true_and]
    | false => simp [List.range', hb]
theorem wrap_id {x : Int} (h1 : -9223372036854775808 ≤ x) (h2 : x < 9223372036854775808) : IntKind.i64.wrap x = x := by
  simp [IntKind.wrap, IntKind.signed, IntKind.bits]
  omega
noncomputable def okName (s : ByteArray) (i : Nat) : Bool :=
  (std.le 97 (std.sat s (std.toN i)) && std.le (std.sat s (std.toN i)) 122) || (std.le 48 (std.sat s (std.toN i)) && std.le (std.sat s (std.toN i)) 57)
noncomputable def isName (s : ByteArray) : Bool := (List.range s.size).all (okName s) && (decide (1 ≤ s.size) && decide (s.size ≤ 8))
theorem F139_eq (s : ByteArray) (hs : s.size ≤ maxLen) : F139 s = some (isName s) := by
  have hb : maxLen = 9223372036854775807 := by rfl
  unfold F139
  rw [show (0 : Int) = ((0 : Nat) : Int) from rfl, scan (ok := okName s) (n := s.size) ?_ ?_ s.size 0 (by omega)]
  · simp only [Option.bind_some, isName, List.range_eq_range']
    cases hx : (List.range' 0 s.size).all (okName s)
    · simp
    · have e1 : decide ((1 : Int) ≤ (s.size : Int)) = decide (1 ≤ s.size) := by congr 1; simp; omega
      have e2 : decide ((s.size : Int) ≤ 8) = decide (s.size ≤ 8) := by congr 1; simp; omega
      simp only [letO, std, br_bool, e1, e2, if_true, Option.bind_some, Bool.true_and]
      cases decide (1 ≤ s.size) <;> rfl
  · intro i hi
    have e3 : std.lt (i : Int) (std.ofN (std.slen s)) = true := by simp [std]; omega
    have e4 : std.inR (i : Int) (std.slen s) := by simp [std]; omega
    have e5 : std.add .i64 (i : Int) 1 = ((i + 1 : Nat) : Int) := wrap_id (by omega) (by omega)
    simp only [letO, e3, br, req_of e4, e5, okName]
    generalize std.sat s (std.toN (i : Int)) = c
    cases std.le 97 c <;> cases std.le c 122 <;> cases std.le 48 c <;> cases std.le c 57 <;> rfl
  · simp only [letO, std, br_bool]
    simp
theorem lt_le (a b : Int) : std.lt a b = !std.le b a := by
  show decide (a < b) = !decide (b ≤ a)
  by_cases h : a < b
  · simp [h]
  · have : b ≤ a := by omega
    simp [h, this]
theorem F152_eq (s : ByteArray) (hs : s.size ≤ maxLen) : F152 s = some (isName s) := by
  have hb : maxLen = 9223372036854775807 := by rfl
  unfold F152
  rw [show (0 : Int) = ((0 : Nat) : Int) from rfl, scan (ok := okName s) (n := s.size) ?_ ?_ s.size 0 (by omega)]
  · simp only [Option.bind_some, isName, List.range_eq_range']
    cases hx : (List.range' 0 s.size).all (okName s)
    · simp
    · have e1 : decide ((1 : Int) ≤ (s.size : Int)) = decide (1 ≤ s.size) := by congr 1; simp; omega
      have e2 : decide ((s.size : Int) ≤ 8) = decide (s.size ≤ 8) := by congr 1; simp; omega
      simp only [letO, std, br_bool, e1, e2, if_true, Option.bind_some, Bool.true_and]
      cases decide (1 ≤ s.size) <;> rfl
  · intro i hi
    have e3 : std.lt (i : Int) (std.ofN (std.slen s)) = true := by simp [std]; omega
    have e4 : std.inR (i : Int) (std.slen s) := by simp [std]; omega
    have e5 : std.add .i64 (i : Int) 1 = ((i + 1 : Nat) : Int) := wrap_id (by omega) (by omega)
    simp only [letO, e3, br, req_of e4, e5, okName]
    generalize std.sat s (std.toN (i : Int)) = c
    rw [lt_le c 97, lt_le c 48, lt_le 122 c, lt_le 57 c]
    cases std.le 97 c <;> cases std.le c 122 <;> cases std.le 48 c <;> cases std.le c 57 <;> rfl
  · simp only [letO, std, br_bool]
    simp
noncomputable def wB (a b c : Int) : Bool := std.le b a && std.le a c
theorem F108_w (a b c : Int) : F108 a b c = some (wB a b c) := by
  unfold F108 wB
  cases std.le b a <;> rfl
theorem F110_w (a b c : Int) : F110 a b c = some (wB a b c) := F108_w a b c
noncomputable def okRect (a : TRect) : Bool := std.le (-40) a.fX0 && (std.lt a.fX0 a.fX1 && (std.le a.fX1 40 && (std.le (-40) a.fY0 && (std.lt a.fY0 a.fY1 && std.le a.fY1 40))))
theorem F107_ok (a : TRect) : F107 a = some (okRect a) := by
  unfold F107 okRect
  cases std.le (-40) a.fX0 <;> cases std.lt a.fX0 a.fX1 <;> cases std.le a.fX1 40 <;> cases std.le (-40) a.fY0 <;> cases std.lt a.fY0 a.fY1 <;> rfl
theorem F192_w (a : Int) : F192 a = some (wB a 0 7) := by
  unfold F192
  rw [F108_w]; rfl
noncomputable def okShape (a : TShape) : Bool := wB a.fLayer 0 7 && okRect a.fBox
theorem F140_ok (a : TShape) : F140 a = some (okShape a) := by
  unfold F140 okShape
  rw [F192_w, F107_ok]
  cases wB a.fLayer 0 7 <;> rfl
theorem F149_ok (a : TShape) : F149 a = some (okShape a) := by rw [F149_eq, F140_ok]
noncomputable def okPoint (a : TPoint) : Bool := wB a.fX (-40) 39 && wB a.fY (-40) 39
theorem F193_ok (a : TPoint) : F193 a = some (okPoint a) := by
  unfold F193 okPoint
  rw [F108_w, F108_w]
  cases wB a.fX (-40) 39 <;> rfl
theorem F195_ok (a : TPoint) : F195 a = some (okPoint a) := F193_ok a
noncomputable def okLabel (a : TLabel) : Bool := wB a.fLayer 0 7 && (okPoint a.fAt && isName a.fName)
theorem F142_ok (a : TLabel) (h : a.fName.size ≤ maxLen) : F142 a = some (okLabel a) := by
  unfold F142 okLabel
  rw [F192_w, F193_ok, F139_eq _ h]
  cases wB a.fLayer 0 7 <;> cases okPoint a.fAt <;> rfl
theorem F150_ok (a : TLabel) (h : a.fName.size ≤ maxLen) : F150 a = some (okLabel a) := by
  unfold F150 okLabel
  rw [F110_w, F195_ok, F152_eq _ h]
  cases wB a.fLayer 0 7 <;> cases okPoint a.fAt <;> rfl
noncomputable def okTr (a : TTransform) : Bool := wB a.fOrientation 0 7 && (wB a.fX (-80) 80 && wB a.fY (-80) 80)
theorem F194_ok (a : TTransform) : F194 a = some (okTr a) := by
  unfold F194 okTr
  simp only [F108_w]
  cases wB a.fOrientation 0 7 <;> cases wB a.fX (-80) 80 <;> rfl
theorem F196_ok (a : TTransform) : F196 a = some (okTr a) := F194_ok a
noncomputable def okInst (a : TInstance) (m : Int) : Bool := wB a.fCell 0 (std.sub .i64 m 1) && (okTr a.fPlace && (wB a.fColumns 1 4 && (wB a.fRows 1 4 && (wB a.fStepX (-80) 80 && (wB a.fStepY (-80) 80 && ((std.lt 1 a.fColumns || std.eq a.fStepX 0) && (std.lt 1 a.fRows || std.eq a.fStepY 0)))))))
theorem F144_ok (a : TInstance) (m : Int) : F144 a m = some (okInst a m) := by
  unfold F144 okInst
  simp only [F108_w, F194_ok]
  cases wB a.fCell 0 (std.sub .i64 m 1) <;> cases okTr a.fPlace <;> cases wB a.fColumns 1 4 <;> cases wB a.fRows 1 4 <;> try rfl
  cases wB a.fStepX (-80) 80 <;> cases wB a.fStepY (-80) 80 <;> try rfl
  cases std.lt 1 a.fColumns <;> cases std.eq a.fStepX 0 <;> cases std.lt 1 a.fRows <;> cases std.eq a.fStepY 0 <;> rfl
theorem F151_ok (a : TInstance) (m : Int) : F151 a m = some (okInst a m) := by
  unfold F151 okInst
  simp only [F110_w, F196_ok]
  cases wB a.fCell 0 (std.sub .i64 m 1) <;> cases okTr a.fPlace <;> cases wB a.fColumns 1 4 <;> cases wB a.fRows 1 4 <;> try rfl
  cases wB a.fStepX (-80) 80 <;> cases wB a.fStepY (-80) 80 <;> try rfl
  cases std.lt 1 a.fColumns <;> cases std.eq a.fStepX 0 <;> cases std.lt 1 a.fRows <;> cases std.eq a.fStepY 0 <;> rfl
theorem eq_self' (x : Int) : std.eq x x = true := by simp [std]
theorem seq_self' (x : ByteArray) : std.seq x x = true := by simp [std]
theorem eq_zero (x : Int) : std.eq 0 x = std.eq x 0 := by simp only [std]; exact Bool.beq_comm
theorem seq_zero (x : ByteArray) : std.seq (ByteArray.mk #[]) x = std.seq x (ByteArray.mk #[]) := by simp only [std]; exact Bool.beq_comm
theorem band_and (a b : Bool) : std.band a b = (a && b) := rfl
theorem not_not' (a : Bool) : std.not a = !a := rfl
noncomputable def zS (a : TShape) : Bool := std.eq a.fLayer 0 && (std.eq a.fBox.fX0 0 && (std.eq a.fBox.fY0 0 && (std.eq a.fBox.fX1 0 && std.eq a.fBox.fY1 0)))
noncomputable def zL (a : TLabel) : Bool := std.eq a.fLayer 0 && ((std.eq a.fAt.fX 0 && std.eq a.fAt.fY 0) && std.seq a.fName (ByteArray.mk #[]))
noncomputable def zI (a : TInstance) : Bool := std.eq a.fCell 0 && ((std.eq a.fPlace.fOrientation 0 && (std.eq a.fPlace.fX 0 && std.eq a.fPlace.fY 0)) && (std.eq a.fColumns 0 && (std.eq a.fRows 0 && (std.eq a.fStepX 0 && std.eq a.fStepY 0))))
theorem F141_z (a : TShape) : F141 a = some (zS a) := by
  unfold F141 zS
  simp only [band_and, Bool.and_true]
theorem F143_z (a : TLabel) : F143 a = some (zL a) := by
  unfold F143 zL
  simp only [band_and, Bool.and_true]
theorem F145_z (a : TInstance) : F145 a = some (zI a) := by
  unfold F145 zI
  simp only [band_and, Bool.and_true]
/-- is it an edit -/
noncomputable def okEdit (a : TEdit) : Bool :=
  (wB a.fCell 0 8 && wB a.fIndex 0 24) &&
  (if a.fKind = 1 then std.seq a.fName (ByteArray.mk #[]) && okShape a.fShape && zL a.fLabel && zI a.fInstance
   else if a.fKind = 3 then std.seq a.fName (ByteArray.mk #[]) && zS a.fShape && okLabel a.fLabel && zI a.fInstance
   else if a.fKind = 5 then std.seq a.fName (ByteArray.mk #[]) && zS a.fShape && zL a.fLabel && okInst a.fInstance 8
   else if a.fKind = 2 ∨ a.fKind = 4 ∨ a.fKind = 6 then std.seq a.fName (ByteArray.mk #[]) && zS a.fShape && zL a.fLabel && zI a.fInstance
   else if a.fKind = 7 ∨ a.fKind = 8 then std.eq a.fIndex 0 && isName a.fName && zS a.fShape && zL a.fLabel && zI a.fInstance
   else if a.fKind = 9 then std.eq a.fIndex 0 && std.seq a.fName (ByteArray.mk #[]) && zS a.fShape && zL a.fLabel && zI a.fInstance
   else false)
theorem eq_dec (x y : Int) : std.eq x y = decide (x = y) := by
  simp only [std]
  by_cases h : x = y <;> simp [h]
theorem F68_ok (a : TEdit) (h1 : a.fName.size ≤ maxLen) (h2 : a.fLabel.fName.size ≤ maxLen) : F68 a = some (okEdit a) := by
  unfold F68 okEdit
  simp only [F108_w, F139_eq _ h1, F140_ok, F141_z, F142_ok _ h2, F143_z, F144_ok, F145_z, not_not']
  generalize okShape a.fShape = s1
  generalize zS a.fShape = s2
  generalize okLabel a.fLabel = l1
  generalize zL a.fLabel = l2
  generalize okInst a.fInstance 8 = i1
  generalize zI a.fInstance = i2
  generalize isName a.fName = n1
  generalize std.seq a.fName _ = n2
  generalize wB a.fCell 0 8 = c1
  generalize wB a.fIndex 0 24 = c2
  generalize std.eq a.fIndex 0 = c3
  generalize a.fKind = k
  by_cases hk : 1 ≤ k ∧ k ≤ 9
  · have : k = 1 ∨ k = 2 ∨ k = 3 ∨ k = 4 ∨ k = 5 ∨ k = 6 ∨ k = 7 ∨ k = 8 ∨ k = 9 := by omega
    rcases this with rfl | rfl | rfl | rfl | rfl | rfl | rfl | rfl | rfl <;> cases c1 <;> cases c2 <;> try rfl
    all_goals (cases c3 <;> try rfl)
    all_goals (cases n2 <;> try rfl)
    all_goals (cases n1 <;> try rfl)
    all_goals (cases s2 <;> try rfl)
    all_goals (cases s1 <;> try rfl)
    all_goals (cases l2 <;> try rfl)
    all_goals (cases l1 <;> try rfl)
    all_goals (cases i2 <;> try rfl)
    all_goals (cases i1 <;> rfl)
  · have hw : wB k 1 9 = false := by
      simp [wB, std]; omega
    rw [hw]
    have e1 : ¬ k = 1 := by omega
    have e2 : ¬ k = 2 := by omega
    have e3 : ¬ k = 3 := by omega
    have e4 : ¬ k = 4 := by omega
    have e5 : ¬ k = 5 := by omega
    have e6 : ¬ k = 6 := by omega
    have e7 : ¬ k = 7 := by omega
    have e8 : ¬ k = 8 := by omega
    have e9 : ¬ k = 9 := by omega
    simp only [e1, e2, e3, e4, e5, e6, e7, e8, e9, or_self, if_false, Bool.and_false]
    rfl
theorem zS_fold (a : TShape) : (std.eq a.fLayer 0 && (std.eq a.fBox.fX0 0 && (std.eq a.fBox.fY0 0 && (std.eq a.fBox.fX1 0 && std.eq a.fBox.fY1 0)))) = zS a := rfl
theorem zL_fold (a : TLabel) : (std.eq a.fLayer 0 && ((std.eq a.fAt.fX 0 && std.eq a.fAt.fY 0) && std.seq a.fName (ByteArray.mk #[]))) = zL a := rfl
theorem zI_fold (a : TInstance) : (std.eq a.fCell 0 && ((std.eq a.fPlace.fOrientation 0 && (std.eq a.fPlace.fX 0 && std.eq a.fPlace.fY 0)) && (std.eq a.fColumns 0 && (std.eq a.fRows 0 && (std.eq a.fStepX 0 && std.eq a.fStepY 0))))) = zI a := rfl
theorem F77_ok (a : TEdit) (h1 : a.fName.size ≤ maxLen) (h2 : a.fLabel.fName.size ≤ maxLen) : F77 a = some (okEdit a) := by
  unfold F77 okEdit
  simp only [F110_w, F152_eq _ h1, F149_ok, F150_ok _ h2, F151_ok, band_and, Bool.and_true, Bool.true_and, eq_self', seq_self', eq_zero, seq_zero, zS_fold, zL_fold, zI_fold]
  generalize okShape a.fShape = s1
  generalize zS a.fShape = s2
  generalize okLabel a.fLabel = l1
  generalize zL a.fLabel = l2
  generalize okInst a.fInstance 8 = i1
  generalize zI a.fInstance = i2
  generalize isName a.fName = n1
  generalize std.seq a.fName _ = n2
  generalize wB a.fCell 0 8 = c1
  generalize wB a.fIndex 0 24 = c2
  generalize std.eq a.fIndex 0 = c3
  generalize a.fKind = k
  by_cases hk : 1 ≤ k ∧ k ≤ 9
  · have : k = 1 ∨ k = 2 ∨ k = 3 ∨ k = 4 ∨ k = 5 ∨ k = 6 ∨ k = 7 ∨ k = 8 ∨ k = 9 := by omega
    rcases this with rfl | rfl | rfl | rfl | rfl | rfl | rfl | rfl | rfl <;> cases c1 <;> cases c2 <;> try rfl
    all_goals (cases c3 <;> try rfl)
    all_goals (cases n2 <;> try rfl)
    all_goals (cases n1 <;> try rfl)
    all_goals (cases s2 <;> try rfl)
    all_goals (cases s1 <;> try rfl)
    all_goals (cases l2 <;> try rfl)
    all_goals (cases l1 <;> try rfl)
    all_goals (cases i2 <;> try rfl)
    all_goals (cases i1 <;> rfl)
  · have e1 : ¬ k = 1 := by omega
    have e2 : ¬ k = 2 := by omega
    have e3 : ¬ k = 3 := by omega
    have e4 : ¬ k = 4 := by omega
    have e5 : ¬ k = 5 := by omega
    have e6 : ¬ k = 6 := by omega
    have e7 : ¬ k = 7 := by omega
    have e8 : ¬ k = 8 := by omega
    have e9 : ¬ k = 9 := by omega
    simp only [eq_dec, e1, e2, e3, e4, e5, e6, e7, e8, e9, or_self, if_false, Bool.and_false, decide_false]
    cases c1 <;> cases c2 <;> rfl
/-- the string of these bytes -/
noncomputable def ofL (l : List Int) : ByteArray := std.ofBytes (len l) (fun i => gd l (0 + i))
theorem ofL_data (l : List Int) : (ofL l).data.toList = l.map fun x => UInt8.ofNat x.toNat := by
  unfold ofL
  show ((List.range (len l)).map fun i => UInt8.ofNat (gd l (0 + i)).toNat).toArray.toList = _
  simp only [Nat.zero_add, len, gd]
  apply List.ext_getElem?
  intro i
  rw [List.getElem?_map, List.getElem?_map]
  by_cases h : i < l.length
  · rw [List.getElem?_range h]
    simp [List.getD_eq_getElem?_getD, h]
  · rw [List.getElem?_eq_none (by simpa using h), List.getElem?_eq_none (by omega)]
    rfl
theorem bytes_ext {a b : ByteArray} (h : a.data.toList = b.data.toList) : a = b := by
  cases a; cases b
  simp at h
  rw [h]
theorem ofL_app (a b : List Int) : std.scat (ofL a) (ofL b) = ofL (a ++ b) := by
  apply bytes_ext
  show (ofL a ++ ofL b).data.toList = _
  rw [ByteArray.data_append, Array.toList_append, ofL_data, ofL_data, ofL_data, List.map_append]
theorem ofL_str (s : ByteArray) : ofL (strL s) = s := by
  apply bytes_ext
  rw [ofL_data]
  unfold strL
  rw [List.map_map]
  refine Eq.trans (List.map_congr_left (g := id) fun x _ => ?_) (List.map_id _)
  show UInt8.ofNat ((x.toNat : Int)).toNat = x
  simp
theorem ofL_len (l : List Int) : std.slen (ofL l) = l.length := by
  show (ofL l).data.size = l.length
  rw [← Array.length_toList, ofL_data, List.length_map]
theorem seq_refl (s : ByteArray) : std.seq s s = true := seq_self' s
noncomputable def oneB (x : Int) : List Int := [std.conv .u8 x]
noncomputable def twoB (x : Int) : List Int := [std.conv .u8 (std.shr .i64 (std.add .i64 x 32768) 8), std.conv .u8 (std.add .i64 x 32768)]
theorem F69_b (x : Int) : F69 x = some (ofL (oneB x)) := rfl
theorem F146_b (x : Int) : F146 x = some (ofL (twoB x)) := by
  unfold F146 F83
  rw [req_of (by simp [std])]
  rfl
theorem room_of {a b : Nat} (h : a + b ≤ 1000000) : std.room (std.nadd a b) 1 := by
  show (a + b) * 1 ≤ 35184372088832
  omega
theorem F86_b (l : List Int) (x : Int) (h : l.length ≤ 100000) : F86mob l (std.add .i64 x 32768) = some (l ++ twoB x) := by
  unfold F86mob
  rw [req_of (by simp [std])]
  simp only [letO]
  rw [req_of (room_of (by simp [len]; omega))]
  rfl
/-- a loop of n rounds -/
theorem while_up {σ ρ : Type} {step : σ → Option (σ ⊕ ρ)} (S : Nat → σ) (n : Nat) {r : ρ} (h : ∀ i, i < n → step (S i) = some (.inl (S (i + 1)))) (hn : step (S n) = some (.inr r)) : ∀ m i, i + m = n → whileP step (S i) = some r
  | 0, i, hi => by
    have : i = n := by omega
    subst this
    rw [whileP_unfold, hn]
  | m + 1, i, hi => by
    rw [whileP_unfold, h i (by omega)]
    exact while_up S n h hn m (i + 1) (by omega)
theorem F153_ok (l vs : List Int) (hv : vs.length ≤ 1000) (hl : l.length ≤ 10000) : F153mob l vs = some (l ++ vs.flatMap twoB) := by
  unfold F153mob
  rw [show ((0 : Int), l) = (fun i : Nat => ((i : Int), l ++ (vs.take i).flatMap twoB)) 0 by simp]
  rw [while_up (fun i : Nat => ((i : Int), l ++ (vs.take i).flatMap twoB)) vs.length (r := l ++ vs.flatMap twoB) ?_ ?_ vs.length 0 (by omega)]
  · rfl
  · intro i hi
    have e : std.lt (i : Int) (std.ofN (len vs)) = true := by simp [std, len]; omega
    have e2 : std.inR (i : Int) (len vs) := by simp [std, len]; omega
    have e3 : std.add .i64 (i : Int) 1 = ((i + 1 : Nat) : Int) := wrap_id (by omega) (by omega)
    have e5 : ((vs.take i).flatMap twoB).length ≤ 2 * i := by
      have : ∀ q : List Int, (q.flatMap twoB).length = 2 * q.length := by
        intro q
        induction q with
        | nil => rfl
        | cons x q ih => rw [List.flatMap_cons, List.length_append, ih]; simp [twoB]; omega
      rw [this, List.length_take]
      omega
    have e6 : (l ++ (vs.take i).flatMap twoB).length ≤ 100000 := by rw [List.length_append]; omega
    simp only [letO, e, br, req_of e2, e3, F86_b _ _ e6, Option.bind_some]
    have e4 : gd vs (std.toN (i : Int)) = vs[i] := by
      show vs.getD i default = _
      simp [hi]
    rw [e4, List.take_succ_eq_append_getElem hi, List.flatMap_append, ← List.append_assoc]
    simp
  · have e : std.lt (vs.length : Int) (std.ofN (len vs)) = false := by simp [std, len]
    simp only [letO, e, br, List.take_length]
theorem scat_str (l : List Int) (s : ByteArray) : std.scat (ofL l) s = ofL (l ++ strL s) := by
  have h := ofL_app l (strL s)
  rw [ofL_str] at h
  exact h
theorem strL_length (s : ByteArray) : (strL s).length = s.size := strL_len s
noncomputable def shapeB (a : TShape) : List Int := oneB a.fLayer ++ [a.fBox.fX0, a.fBox.fY0, a.fBox.fX1, a.fBox.fY1].flatMap twoB
noncomputable def nameB (s : ByteArray) : List Int := oneB (std.ofN (std.slen s)) ++ strL s
noncomputable def labelB (a : TLabel) : List Int := (oneB a.fLayer ++ [a.fAt.fX, a.fAt.fY].flatMap twoB) ++ nameB a.fName
noncomputable def instB (a : TInstance) : List Int := (oneB a.fCell ++ oneB a.fPlace.fOrientation) ++ [a.fPlace.fX, a.fPlace.fY].flatMap twoB ++ (oneB a.fColumns ++ oneB a.fRows) ++ [a.fStepX, a.fStepY].flatMap twoB
theorem two_len (x : Int) : (twoB x).length = 2 := rfl
theorem one_len (x : Int) : (oneB x).length = 1 := rfl
theorem F70_b (a : TShape) : F70 a = some (ofL (shapeB a)) := by
  unfold F70 shapeB
  simp only [F69_b, F146_b, Option.bind_some, ofL_app, ofL_len]
  repeat rw [req_of (room_of (by simp only [List.length_append, two_len, one_len]; omega))]
  simp
theorem F73_b (s : ByteArray) (h : s.size ≤ 1000) : F73 s = some (ofL (nameB s)) := by
  unfold F73 nameB
  simp only [F69_b, Option.bind_some, scat_str, ofL_len]
  rw [req_of (room_of (by simp only [one_len]; show 1 + s.size ≤ _; omega))]
theorem F71_b (a : TLabel) (h : a.fName.size ≤ 1000) : F71 a = some (ofL (labelB a)) := by
  unfold F71 labelB
  have hn : (nameB a.fName).length ≤ 1001 := by unfold nameB; rw [List.length_append, one_len, strL_length]; omega
  simp only [F69_b, F146_b, F73_b _ h, Option.bind_some, ofL_app, ofL_len]
  repeat rw [req_of (room_of (by simp only [List.length_append, two_len, one_len]; omega))]
  simp
theorem F72_b (a : TInstance) : F72 a = some (ofL (instB a)) := by
  unfold F72 instB
  simp only [F69_b, F146_b, Option.bind_some, ofL_app, ofL_len]
  repeat rw [req_of (room_of (by simp only [List.length_append, two_len, one_len]; omega))]
  simp
theorem F78_b (l : List Int) (a : TShape) (h : l.length ≤ 1000) : F78mob l a = some (l ++ shapeB a) := by
  unfold F78mob shapeB
  simp only [letO]
  rw [req_of (room_of (by simp [len]; omega)), F153_ok _ _ (by simp) (by simp; omega)]
  simp [oneB]
theorem F81_b (l : List Int) (s : ByteArray) (h : l.length ≤ 2000) (hs : s.size ≤ 1000) : F81mob l s = some (l ++ nameB s) := by
  unfold F81mob nameB
  simp only [letO]
  rw [req_of (room_of (by simp [len]; omega)), req_of (room_of (by simp [len]; show l.length + 1 + s.size ≤ _; omega))]
  simp [oneB]
theorem F79_b (l : List Int) (a : TLabel) (h : l.length ≤ 1000) (hs : a.fName.size ≤ 1000) : F79mob l a = some (l ++ labelB a) := by
  unfold F79mob labelB
  simp only [letO]
  rw [req_of (room_of (by simp [len]; omega)), F153_ok _ _ (by simp) (by simp; omega)]
  simp only [Option.bind_some]
  rw [F81_b _ _ (by simp [two_len]; omega) hs]
  simp [oneB]
theorem F80_b (l : List Int) (a : TInstance) (h : l.length ≤ 1000) : F80mob (l ++ [std.conv .u8 a.fCell]) a = some (l ++ instB a) := by
  unfold F80mob instB
  simp only [letO]
  rw [req_of (room_of (by simp [len]; omega)), F153_ok _ _ (by simp) (by simp; omega)]
  simp only [Option.bind_some]
  rw [req_of (room_of (by simp [len, two_len]; omega)), F153_ok _ _ (by simp) (by simp [two_len]; omega)]
  simp [oneB]
noncomputable def headB (a : TEdit) : List Int := [std.conv .u8 a.fKind, std.conv .u8 a.fCell, std.conv .u8 a.fIndex]
noncomputable def editB (a : TEdit) : List Int := headB a ++ (if a.fKind = 1 then shapeB a.fShape else if a.fKind = 3 then labelB a.fLabel else if a.fKind = 5 then instB a.fInstance else if a.fKind = 7 ∨ a.fKind = 8 then nameB a.fName else [])
theorem isName_size {s : ByteArray} (h : isName s = true) : s.size ≤ 8 := by
  unfold isName at h
  simp only [Bool.and_eq_true, decide_eq_true_eq] at h
  exact h.2.2
theorem okEdit_name {a : TEdit} (h : okEdit a = true) (hk : a.fKind = 7 ∨ a.fKind = 8) : a.fName.size ≤ 1000 := by
  unfold okEdit at h
  have e1 : ¬ a.fKind = 1 := by omega
  have e2 : ¬ a.fKind = 2 := by omega
  have e3 : ¬ a.fKind = 3 := by omega
  have e4 : ¬ a.fKind = 4 := by omega
  have e5 : ¬ a.fKind = 5 := by omega
  have e6 : ¬ a.fKind = 6 := by omega
  simp only [e1, e2, e3, e4, e5, e6, or_self, if_false, hk, if_true, Bool.and_eq_true] at h
  have := isName_size h.2.1.1.1.2
  omega
theorem okEdit_label {a : TEdit} (h : okEdit a = true) (hk : a.fKind = 3) : a.fLabel.fName.size ≤ 1000 := by
  unfold okEdit at h
  simp only [hk, show ¬ ((3 : Int) = 1) by decide, if_false, if_true, Bool.and_eq_true] at h
  have h2 := h.2.1.2
  unfold okLabel at h2
  simp only [Bool.and_eq_true] at h2
  have := isName_size h2.2.2
  omega
theorem F26_b (a : TEdit) (h1 : a.fName.size ≤ maxLen) (h2 : a.fLabel.fName.size ≤ maxLen) : F26 a = some (if okEdit a then ofL (editB a) else ByteArray.mk #[]) := by
  unfold F26
  rw [F68_ok a h1 h2]
  simp only [Option.bind_some]
  cases hok : okEdit a with
  | false => rfl
  | true =>
    simp only [Bool.not_true, br, if_true, F69_b, F70_b, F72_b, Option.bind_some, ofL_app, ofL_len, eq_dec]
    repeat rw [req_of (room_of (by simp only [List.length_append, two_len, one_len]; omega))]
    unfold editB
    have e0 : oneB a.fKind ++ oneB a.fCell ++ oneB a.fIndex = headB a := rfl
    simp only [e0]
    by_cases k1 : a.fKind = 1
    · simp only [k1, decide_true, if_true]
      rw [req_of (room_of (by rw [show (headB a).length = 3 from rfl]; simp [shapeB, oneB, twoB]))]
    · simp only [k1, decide_false, if_false]
      by_cases k3 : a.fKind = 3
      · have hn := okEdit_label hok k3
        simp only [k3, decide_true, if_true, F71_b _ hn, Option.bind_some, ofL_app, ofL_len]
        rw [req_of (room_of (by rw [show (headB a).length = 3 from rfl]; simp [labelB, nameB, oneB, twoB, strL_length]; omega))]
      · simp only [k3, decide_false, if_false]
        by_cases k5 : a.fKind = 5
        · simp only [k5, decide_true, if_true]
          rw [req_of (room_of (by rw [show (headB a).length = 3 from rfl]; simp [instB, oneB, twoB]))]
        · simp only [k5, decide_false, if_false]
          by_cases k7 : a.fKind = 7 ∨ a.fKind = 8
          · have hn := okEdit_name hok k7
            simp only [F73_b _ hn, Option.bind_some, ofL_app, ofL_len, letO]
            rw [req_of (room_of (by rw [show (headB a).length = 3 from rfl]; simp [nameB, oneB, strL_length]; omega))]
            rcases k7 with k7 | k7
            · simp [k7]
            · simp [k7]
          · have k7' : ¬ a.fKind = 7 := fun h => k7 (.inl h)
            have k8' : ¬ a.fKind = 8 := fun h => k7 (.inr h)
            simp [k7', k8', letO]
theorem F28_b (a : TEdit) (h1 : a.fName.size ≤ maxLen) (h2 : a.fLabel.fName.size ≤ maxLen) : F28 a = some (if okEdit a then ofL (editB a) else ByteArray.mk #[]) := by
  unfold F28
  rw [F77_ok a h1 h2]
  simp only [Option.bind_some]
  cases hok : okEdit a with
  | false => rfl
  | true =>
    have e0 : [std.conv .u8 a.fKind, std.conv .u8 a.fCell, std.conv .u8 a.fIndex] = headB a := rfl
    have e1 : (headB a).length = 3 := rfl
    simp only [Bool.not_true, br, if_true, letO, e0, eq_dec]
    unfold editB
    by_cases k1 : a.fKind = 1
    · simp only [k1, decide_true, if_true, F78_b _ _ (show (headB a).length ≤ 1000 by omega), Option.bind_some]
      rfl
    · simp only [k1, decide_false, if_false]
      by_cases k3 : a.fKind = 3
      · have hn := okEdit_label hok k3
        simp only [k3, decide_true, if_true, F79_b _ _ (show (headB a).length ≤ 1000 by omega) hn, Option.bind_some]
        rfl
      · simp only [k3, decide_false, if_false]
        by_cases k5 : a.fKind = 5
        · simp only [k5, decide_true, if_true]
          rw [req_of (room_of (by simp [len, e1])), F80_b _ _ (show (headB a).length ≤ 1000 by omega)]
          rfl
        · simp only [k5, decide_false, if_false]
          by_cases k7 : a.fKind = 7 ∨ a.fKind = 8
          · have hn := okEdit_name hok k7
            rcases k7 with k7 | k7
            · simp [k7, F81_b _ _ (show (headB a).length ≤ 2000 by omega) hn, ofL]
            · simp [k7, F81_b _ _ (show (headB a).length ≤ 2000 by omega) hn, ofL]
          · have k7' : ¬ a.fKind = 7 := fun h => k7 (.inl h)
            have k8' : ¬ a.fKind = 8 := fun h => k7 (.inr h)
            simp [k7', k8']
            rfl
theorem F67_b (a : TLabel) (x : Int) : ∃ y, F67 a x = some y := by
  unfold F67
  cases std.lt (std.sub .i64 x (std.ofN (std.slen a.fName))) 0 <;> exact ⟨_, rfl⟩
theorem F25_b (a : TEdit) (x : Int) : ∃ y, F25 a x = some y := by
  unfold F25
  obtain ⟨y, hy⟩ := F67_b a.fLabel (std.sub .i64 x (std.ofN (std.slen a.fName)))
  rw [hy]
  cases std.lt (std.sub .i64 x (std.ofN (std.slen a.fName))) 0
  · simp only [br, Option.bind_some]
    cases std.lt y 0 <;> exact ⟨_, rfl⟩
  · exact ⟨_, rfl⟩
theorem F5_true (a : TEdit) (h1 : a.fName.size ≤ maxLen) (h2 : a.fLabel.fName.size ≤ maxLen) : F5 a = some true := by
  unfold F5
  obtain ⟨y, hy⟩ := F25_b a 1048576
  rw [hy, F27_eq]
  simp only [Option.bind_some, F26_b _ h1 h2, F28_b _ h1 h2, seq_refl]
  cases std.lt y 0 <;> rfl
theorem okWide_agg {P : Program} {W : World} {r : Reach} {base : Nat} {t : TypeId} {v : Value} {fs : Array Field} (ht : P.underlying t = some (.struct fs)) (h : Value.okWide P W r base t v) : ∃ cs, v = .agg cs := by
  unfold Value.okWide at h
  rw [ht] at h
  obtain ⟨cs, h, _⟩ := h
  exact ⟨cs, h⟩
theorem shape_TEdit {l : List AC} (h : Shape T 5 47 l) : ∃ e : TEdit, l = [.v (.int .i64 e.fKind), .v (.int .i64 e.fCell), .v (.int .i64 e.fIndex), .v (.string e.fName), .v (.int .i64 e.fShape.fLayer), .v (.int .i64 e.fShape.fBox.fX0), .v (.int .i64 e.fShape.fBox.fY0), .v (.int .i64 e.fShape.fBox.fX1), .v (.int .i64 e.fShape.fBox.fY1), .v (.int .i64 e.fLabel.fLayer), .v (.int .i64 e.fLabel.fAt.fX), .v (.int .i64 e.fLabel.fAt.fY), .v (.string e.fLabel.fName), .v (.int .i64 e.fInstance.fCell), .v (.int .i64 e.fInstance.fPlace.fOrientation), .v (.int .i64 e.fInstance.fPlace.fX), .v (.int .i64 e.fInstance.fPlace.fY), .v (.int .i64 e.fInstance.fColumns), .v (.int .i64 e.fInstance.fRows), .v (.int .i64 e.fInstance.fStepX), .v (.int .i64 e.fInstance.fStepY)] ∧ (Lit.int .i64 e.fKind).wf = true ∧ (Lit.int .i64 e.fCell).wf = true ∧ (Lit.int .i64 e.fIndex).wf = true ∧ e.fName.size ≤ maxLen ∧ (Lit.int .i64 e.fShape.fLayer).wf = true ∧ (Lit.int .i64 e.fShape.fBox.fX0).wf = true ∧ (Lit.int .i64 e.fShape.fBox.fY0).wf = true ∧ (Lit.int .i64 e.fShape.fBox.fX1).wf = true ∧ (Lit.int .i64 e.fShape.fBox.fY1).wf = true ∧ (Lit.int .i64 e.fLabel.fLayer).wf = true ∧ (Lit.int .i64 e.fLabel.fAt.fX).wf = true ∧ (Lit.int .i64 e.fLabel.fAt.fY).wf = true ∧ e.fLabel.fName.size ≤ maxLen ∧ (Lit.int .i64 e.fInstance.fCell).wf = true ∧ (Lit.int .i64 e.fInstance.fPlace.fOrientation).wf = true ∧ (Lit.int .i64 e.fInstance.fPlace.fX).wf = true ∧ (Lit.int .i64 e.fInstance.fPlace.fY).wf = true ∧ (Lit.int .i64 e.fInstance.fColumns).wf = true ∧ (Lit.int .i64 e.fInstance.fRows).wf = true ∧ (Lit.int .i64 e.fInstance.fStepX).wf = true ∧ (Lit.int .i64 e.fInstance.fStepY).wf = true := by
  obtain ⟨_, _, rfl, ⟨n0, rfl, wn0⟩, _, _, rfl, ⟨n1, rfl, wn1⟩, _, _, rfl, ⟨n2, rfl, wn2⟩, _, _, rfl, ⟨n3, rfl, wn3⟩, _, _, rfl, ⟨_, _, rfl, ⟨n4, rfl, wn4⟩, _, _, rfl, ⟨_, _, rfl, ⟨n5, rfl, wn5⟩, _, _, rfl, ⟨n6, rfl, wn6⟩, _, _, rfl, ⟨n7, rfl, wn7⟩, _, _, rfl, ⟨n8, rfl, wn8⟩, rfl⟩, rfl⟩, _, _, rfl, ⟨_, _, rfl, ⟨n9, rfl, wn9⟩, _, _, rfl, ⟨_, _, rfl, ⟨n10, rfl, wn10⟩, _, _, rfl, ⟨n11, rfl, wn11⟩, rfl⟩, _, _, rfl, ⟨n12, rfl, wn12⟩, rfl⟩, _, _, rfl, ⟨_, _, rfl, ⟨n13, rfl, wn13⟩, _, _, rfl, ⟨_, _, rfl, ⟨n14, rfl, wn14⟩, _, _, rfl, ⟨n15, rfl, wn15⟩, _, _, rfl, ⟨n16, rfl, wn16⟩, rfl⟩, _, _, rfl, ⟨n17, rfl, wn17⟩, _, _, rfl, ⟨n18, rfl, wn18⟩, _, _, rfl, ⟨n19, rfl, wn19⟩, _, _, rfl, ⟨n20, rfl, wn20⟩, rfl⟩, rfl⟩ := h
  exact ⟨TEdit.mk n0 n1 n2 n3 (TShape.mk n4 (TRect.mk n5 n6 n7 n8)) (TLabel.mk n9 (TPoint.mk n10 n11) n12) (TInstance.mk n13 (TTransform.mk n14 n15 n16) n17 n18 n19 n20), rfl, wn0, wn1, wn2, wn3, wn4, wn5, wn6, wn7, wn8, wn9, wn10, wn11, wn12, wn13, wn14, wn15, wn16, wn17, wn18, wn19, wn20⟩
theorem open_TEdit {H : Type} {enc : TypeId × Value → H} {W : World} {spare : Nat → Bool} {held : Bool} {r : Reach} {base : Nat} {v : Value} {x : DataW H} {ps : List MemPlace}
    (hv : Value.okWide Try.prog W r base 47 v) (h : DataW.Trod enc Try.prog W 0 spare held 47 v x ps) : ∃ e : TEdit, ((Lit.int .i64 e.fKind).wf = true ∧ (Lit.int .i64 e.fCell).wf = true ∧ (Lit.int .i64 e.fIndex).wf = true ∧ e.fName.size ≤ maxLen ∧ (Lit.int .i64 e.fShape.fLayer).wf = true ∧ (Lit.int .i64 e.fShape.fBox.fX0).wf = true ∧ (Lit.int .i64 e.fShape.fBox.fY0).wf = true ∧ (Lit.int .i64 e.fShape.fBox.fX1).wf = true ∧ (Lit.int .i64 e.fShape.fBox.fY1).wf = true ∧ (Lit.int .i64 e.fLabel.fLayer).wf = true ∧ (Lit.int .i64 e.fLabel.fAt.fX).wf = true ∧ (Lit.int .i64 e.fLabel.fAt.fY).wf = true ∧ e.fLabel.fName.size ≤ maxLen ∧ (Lit.int .i64 e.fInstance.fCell).wf = true ∧ (Lit.int .i64 e.fInstance.fPlace.fOrientation).wf = true ∧ (Lit.int .i64 e.fInstance.fPlace.fX).wf = true ∧ (Lit.int .i64 e.fInstance.fPlace.fY).wf = true ∧ (Lit.int .i64 e.fInstance.fColumns).wf = true ∧ (Lit.int .i64 e.fInstance.fRows).wf = true ∧ (Lit.int .i64 e.fInstance.fStepX).wf = true ∧ (Lit.int .i64 e.fInstance.fStepY).wf = true) ∧ RelV (RelI (fun b => b < W.heap.size) W) (.agg [.v (.int .i64 e.fKind), .v (.int .i64 e.fCell), .v (.int .i64 e.fIndex), .v (.string e.fName), .v (.int .i64 e.fShape.fLayer), .v (.int .i64 e.fShape.fBox.fX0), .v (.int .i64 e.fShape.fBox.fY0), .v (.int .i64 e.fShape.fBox.fX1), .v (.int .i64 e.fShape.fBox.fY1), .v (.int .i64 e.fLabel.fLayer), .v (.int .i64 e.fLabel.fAt.fX), .v (.int .i64 e.fLabel.fAt.fY), .v (.string e.fLabel.fName), .v (.int .i64 e.fInstance.fCell), .v (.int .i64 e.fInstance.fPlace.fOrientation), .v (.int .i64 e.fInstance.fPlace.fX), .v (.int .i64 e.fInstance.fPlace.fY), .v (.int .i64 e.fInstance.fColumns), .v (.int .i64 e.fInstance.fRows), .v (.int .i64 e.fInstance.fStepX), .v (.int .i64 e.fInstance.fStepY)]) v := by
  obtain ⟨a, hv⟩ := okWide_agg (tok 47 d47 rfl).1 hv
  obtain ⟨cs, hs, hr⟩ := open_agg tok (d := 5) (by kernel_rfl) hv h
  obtain ⟨e, rfl, he⟩ := shape_TEdit hs
  exact ⟨e, he, hr⟩
end Go.Proofs.Ytnmfighfidaglaa.AM
