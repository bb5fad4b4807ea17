/-
  What the functions that the law reaches compute, and that they do. No condition.
-/
import Derived.Test.YtohgghncmkiicaaGreatAmSR
import Derived.Test.YtohgghncmkiicaaGreatAmP
namespace Go.Proofs.YtohgghncmkiicaaGreat.AM
noncomputable section
open Go Go.Proofs Go.RowKit
set_option linter.unusedVariables false
set_option linter.unusedSimpArgs false
set_option maxRecDepth 100000

def wB (a b c : Int) : Bool := std.le b a && std.le a c
theorem spec_l09In_ok (a b c : Int) : Fq3 a b c = some (wB a b c) := by
  unfold Fq3 wB
  cases std.le b a <;> rfl
theorem impl_within_ok (a b c : Int) : Fq4 a b c = some (wB a b c) := by
  unfold Fq4 wB
  cases std.le b a <;> rfl
def okRect (a : TRect) : Bool := std.le (-40) a.fX0 && (std.lt a.fX0 a.fX1 && (std.le a.fX1 40 && (std.le (-40) a.fY0 && (std.lt a.fY0 a.fY1 && std.le a.fY1 40))))
theorem spec_l09Rect_ok (a : TRect) : Fq135 a = some (okRect a) := by
  unfold Fq135 okRect
  cases std.le (-40) a.fX0 <;> cases std.lt a.fX0 a.fX1 <;> cases std.le a.fX1 40 <;> cases std.le (-40) a.fY0 <;> cases std.lt a.fY0 a.fY1 <;> rfl
theorem impl_IsValidRect_ok (a : TRect) : Fq122 a = some (okRect a) := by
  unfold Fq122 okRect
  cases std.le (-40) a.fX0 <;> cases std.lt a.fX0 a.fX1 <;> cases std.le a.fX1 40 <;> cases std.le (-40) a.fY0 <;> cases std.lt a.fY0 a.fY1 <;> rfl
theorem spec_l09Layer_ok (a : Int) : Fq87 a = some (wB a 0 7) := by
  unfold Fq87
  rw [spec_l09In_ok]; rfl
def okShape (a : TS) : Bool := wB a.fy 0 7 && okRect a.fb
theorem spec_l09Shape_ok (a : TS) : Fq88 a = some (okShape a) := by
  unfold Fq88 okShape
  rw [spec_l09Layer_ok, spec_l09Rect_ok]
  cases wB a.fy 0 7 <;> rfl
theorem impl_validShape_ok (a : TS) : Fq101 a = some (okShape a) := by
  unfold Fq101 okShape
  rw [impl_within_ok, impl_IsValidRect_ok]
  cases wB a.fy 0 7 <;> rfl
def okPoint (a : TPoint) : Bool := wB a.fX (-40) 39 && wB a.fY (-40) 39
theorem spec_l09Unit_ok (a : TPoint) : Fq152 a = some (okPoint a) := by
  unfold Fq152 okPoint
  rw [spec_l09In_ok, spec_l09In_ok]
  cases wB a.fX (-40) 39 <;> rfl
theorem impl_isUnitCell_ok (a : TPoint) : Fq124 a = some (okPoint a) := by
  unfold Fq124 okPoint
  rw [impl_within_ok, impl_within_ok]
  cases wB a.fX (-40) 39 <;> rfl
def okName (s : ByteArray) (i : Nat) : Bool :=
  (std.le 97 (std.sat s i) && std.le (std.sat s i) 122) || (std.le 48 (std.sat s i) && std.le (std.sat s i) 57)
def isName (s : ByteArray) : Bool := (List.range s.size).all (okName s) && (decide (1 <= s.size) && decide (s.size <= 8))
theorem lt_le (a b : Int) : std.lt a b = !std.le b a := by
  rw [s_lt, s_le]
  by_cases h : a < b
  · have : ¬ b <= a := by omega
    simp [h]
  · have : b <= a := by omega
    simp [h, this]
theorem nameEnd (s : ByteArray) (b : Bool) : ((match (if b then .inr () else .inl () : Unit ⊕ Unit) with
    | .inl _ => some false
    | .inr _ => ((br (std.le 1 (std.ofN (std.slen s))) (some (std.le (std.ofN (std.slen s)) 8)) (some false)) : Option Bool).bind fun y33 => letO y33 fun w39 => some w39) : Option Bool) = some (b && (decide (1 <= s.size) && decide (s.size <= 8))) := by
  cases b with
  | false => rfl
  | true =>
    have e1 : std.le 1 (std.ofN (std.slen s)) = decide (1 <= s.size) := by rw [s_le, s_ofN, s_slen]; congr 1; simp; omega
    have e2 : std.le (std.ofN (std.slen s)) 8 = decide (s.size <= 8) := by rw [s_le, s_ofN, s_slen]; congr 1; simp; omega
    simp only [if_true, e1, e2, br_bool, lq, Bool.true_and]
    cases decide (1 <= s.size) <;> rfl
theorem spec_IsName_ok (s : ByteArray) (hs : s.size <= maxLen) : Fq32 s = some (isName s) := by
  have hb := maxLen_eq
  unfold Fq32
  refine Eq.trans (bind_of (scan (ok := okName s) (n := s.size) (yes := .inr ()) (no := .inl ()) (fun i hi => ?_) ?_)) (nameEnd s _)
  · simp only [Lq32_x2, lq, s_toNn, ro_ (show std.inR (i : Int) (std.slen s) from inRn hi), okName]
    rw [lt_true (by rw [s_ofN, s_slen]; omega), br_t, inc_nat (by omega)]
    generalize std.sat s i = c
    cases std.le 97 c <;> cases std.le c 122 <;> cases std.le 48 c <;> cases std.le c 57 <;> rfl
  · simp only [Lq32_x2, lq]
    rw [lt_false (by rw [s_ofN, s_slen]; omega)]; rfl
theorem impl_IsName_ok (s : ByteArray) (hs : s.size <= maxLen) : Fq33 s = some (isName s) := by
  have hb := maxLen_eq
  unfold Fq33
  refine Eq.trans (bind_of (scan (ok := okName s) (n := s.size) (yes := .inr ()) (no := .inl ()) (fun i hi => ?_) ?_)) (nameEnd s _)
  · simp only [Lq33_x2, lq, s_toNn, ro_ (show std.inR (i : Int) (std.slen s) from inRn hi), okName]
    rw [lt_true (by rw [s_ofN, s_slen]; omega), br_t, inc_nat (by omega)]
    generalize std.sat s i = c
    rw [lt_le c 97, lt_le c 48, lt_le 122 c, lt_le 57 c]
    cases std.le 97 c <;> cases std.le c 122 <;> cases std.le 48 c <;> cases std.le c 57 <;> rfl
  · simp only [Lq33_x2, lq]
    rw [lt_false (by rw [s_ofN, s_slen]; omega)]; rfl
def okLabel (a : TB) : Bool := wB a.fy 0 7 && (okPoint a.fa && isName a.fN)
theorem spec_l09Label_ok (a : TB) (h : a.fN.size <= maxLen) : Fq85 a = some (okLabel a) := by
  unfold Fq85 okLabel
  rw [spec_l09Layer_ok, spec_l09Unit_ok, spec_IsName_ok _ h]
  cases wB a.fy 0 7 <;> cases okPoint a.fa <;> rfl
theorem impl_validLabel_ok (a : TB) (h : a.fN.size <= maxLen) : Fq84 a = some (okLabel a) := by
  unfold Fq84 okLabel
  rw [impl_within_ok, impl_isUnitCell_ok, impl_IsName_ok _ h]
  cases wB a.fy 0 7 <;> cases okPoint a.fa <;> rfl
def okTr (a : TM) : Bool := wB a.fo 0 7 && (wB a.fX (-80) 80 && wB a.fY (-80) 80)
theorem spec_l09Transform_ok (a : TM) : Fq117 a = some (okTr a) := by
  unfold Fq117 okTr
  simp only [spec_l09In_ok]
  cases wB a.fo 0 7 <;> cases wB a.fX (-80) 80 <;> rfl
theorem impl_IsValidTransform_ok (a : TM) : Fq150 a = some (okTr a) := by
  unfold Fq150 okTr
  simp only [impl_within_ok]
  cases wB a.fo 0 7 <;> cases wB a.fX (-80) 80 <;> rfl
def okInst (a : TI) (m : Int) : Bool := wB a.fc 0 (std.sub .i64 m 1) && (okTr a.fp && (wB a.fK 1 4 && (wB a.fR 1 4 && (wB a.fu (-80) 80 && (wB a.fv (-80) 80 && ((std.lt 1 a.fK || std.eq a.fu 0) && (std.lt 1 a.fR || std.eq a.fv 0)))))))
theorem spec_l09Instance_ok (a : TI) (m : Int) : Fq94 a m = some (okInst a m) := by
  unfold Fq94 okInst
  simp only [spec_l09In_ok, spec_l09Transform_ok]
  cases wB a.fc 0 (std.sub .i64 m 1) <;> cases okTr a.fp <;> cases wB a.fK 1 4 <;> cases wB a.fR 1 4 <;> try rfl
  cases wB a.fu (-80) 80 <;> cases wB a.fv (-80) 80 <;> try rfl
  cases std.lt 1 a.fK <;> cases std.eq a.fu 0 <;> cases std.lt 1 a.fR <;> cases std.eq a.fv 0 <;> rfl
theorem impl_validInstance_ok (a : TI) (m : Int) : Fq98 a m = some (okInst a m) := by
  unfold Fq98 okInst
  simp only [impl_within_ok, impl_IsValidTransform_ok]
  cases wB a.fc 0 (std.sub .i64 m 1) <;> cases okTr a.fp <;> cases wB a.fK 1 4 <;> cases wB a.fR 1 4 <;> try rfl
  cases wB a.fu (-80) 80 <;> cases wB a.fv (-80) 80 <;> try rfl
  cases std.lt 1 a.fK <;> cases std.eq a.fu 0 <;> cases std.lt 1 a.fR <;> cases std.eq a.fv 0 <;> rfl
theorem laws_toShape_ok (a : TS) : Fq19 a = some a := rfl
theorem laws_toShapeS_ok (a : List TS) (h : a.length <= 10000000) : Fq62 a = some a := by
  unfold Fq62
  rw [ro_ (nneg_len _), ro_ (room_le (by rw [eL_]; omega) (by decide))]
  simp only [lq, s_ofN, s_toNn, eL_]
  rw [bind_of (while_copy (st := Lq62_x7 a _) a (List.replicate a.length _) (by simp) (fun i hi v hv => ?_) (fun v => ?_)), ro_ (by simp)]
  · simp only [Lq62_x7, lq, s_toNn, s_nadd, Nat.zero_add]
    rw [ltl_t hi, br_t, ro_ (inRl hi), laws_toShape_ok, obs, ro_ (inRl (by simpa using hi)), ro_ (by simp [eL_, hv]), inc_nat (by omega)]
  · simp only [Lq62_x7, lq]
    rw [ltl_f, br_f]
theorem laws_toLabel_ok (a : TB) : Fq17 a = some a := rfl
theorem laws_toLabelS_ok (a : List TB) (h : a.length <= 10000000) : Fq60 a = some a := by
  unfold Fq60
  rw [ro_ (nneg_len _), ro_ (room_le (by rw [eL_]; omega) (by decide))]
  simp only [lq, s_ofN, s_toNn, eL_]
  rw [bind_of (while_copy (st := Lq60_x7 a _) a (List.replicate a.length _) (by simp) (fun i hi v hv => ?_) (fun v => ?_)), ro_ (by simp)]
  · simp only [Lq60_x7, lq, s_toNn, s_nadd, Nat.zero_add]
    rw [ltl_t hi, br_t, ro_ (inRl hi), laws_toLabel_ok, obs, ro_ (inRl (by simpa using hi)), ro_ (by simp [eL_, hv]), inc_nat (by omega)]
  · simp only [Lq60_x7, lq]
    rw [ltl_f, br_f]
theorem laws_toInstance_ok (a : TI) : Fq18 a = some a := rfl
theorem laws_toInstanceS_ok (a : List TI) (h : a.length <= 10000000) : Fq63 a = some a := by
  unfold Fq63
  rw [ro_ (nneg_len _), ro_ (room_le (by rw [eL_]; omega) (by decide))]
  simp only [lq, s_ofN, s_toNn, eL_]
  rw [bind_of (while_copy (st := Lq63_x7 a _) a (List.replicate a.length _) (by simp) (fun i hi v hv => ?_) (fun v => ?_)), ro_ (by simp)]
  · simp only [Lq63_x7, lq, s_toNn, s_nadd, Nat.zero_add]
    rw [ltl_t hi, br_t, ro_ (inRl hi), laws_toInstance_ok, obs, ro_ (inRl (by simpa using hi)), ro_ (by simp [eL_, hv]), inc_nat (by omega)]
  · simp only [Lq63_x7, lq]
    rw [ltl_f, br_f]
/-- nothing is great -/
structure SmallC (c : TC) : Prop where
  name : c.fN.size <= 1048576
  shapes : c.fS.length <= 1048576
  labels : c.fL.length <= 1048576
  insts : c.fI.length <= 1048576
  lnames : ∀ l ∈ c.fL, l.fN.size <= 1048576
structure SmallL (a : TL) : Prop where
  cells : a.fC.length <= 1048576
  cell : ∀ c ∈ a.fC, SmallC c
theorem laws_toCell_ok (c : TC) (h : SmallC c) : Fq22 c = some c := by
  unfold Fq22
  rw [laws_toShapeS_ok _ (by have := h.shapes; omega), laws_toLabelS_ok _ (by have := h.labels; omega), laws_toInstanceS_ok _ (by have := h.insts; omega)]
  rfl
theorem laws_toCellS_ok (a : List TC) (h : a.length <= 1048576) (hc : ∀ c ∈ a, SmallC c) : Fq59 a = some a := by
  unfold Fq59
  rw [ro_ (nneg_len _), ro_ (room_le (by rw [eL_]; omega) (by decide))]
  simp only [lq, s_ofN, s_toNn, eL_, obs]
  rw [bind_of (while_copy (st := Lq59_x14 a _) a (List.replicate a.length _) (by simp) (fun i hi v hv => ?_) (fun v => ?_)), ro_ (by simp)]
  · simp only [Lq59_x14, lq, s_toNn, s_nadd, Nat.zero_add]
    rw [ltl_t hi, br_t, ro_ (inRl hi), laws_toCell_ok _ (hc _ (gd_mem hi)), obs, ro_ (inRl (by simpa using hi)), ro_ (by simp [eL_, hv]), inc_nat (by omega)]
    rfl
  · simp only [Lq59_x14, lq]
    rw [ltl_f, br_f]
theorem laws_toLibrary_ok (a : TL) (h : SmallL a) : Fq125 a = some a := by
  unfold Fq125
  rw [laws_toCellS_ok _ h.cells h.cell]; rfl
-- the sizes
theorem subl_ok {n : Nat} {x : Int} (h : n <= maxLen) (hx : 0 <= x /\ x <= 1048576) : std.sub .i64 x (std.ofN n) = x - n := by
  have := maxLen_eq
  rw [s_ofN, sub_id (by omega) (by omega)]
theorem laws_szShapeS_ok (a : List TS) (x : Int) (ha : a.length <= maxLen) (hx : 0 <= x /\ x <= 1048576) : ∃ y, Fq142 a x = some y /\ (0 <= y -> y <= x /\ a.length <= 1048576) := by
  unfold Fq142
  rw [eL_, subl_ok ha hx, br_bool, s_lt]
  by_cases h : x - (a.length : Int) < 0
  · exact ⟨-1, by simp [h], fun h => by omega⟩
  · exact ⟨x - a.length, by simp [h], fun _ => ⟨by omega, by omega⟩⟩
theorem laws_szInstanceS_ok (a : List TI) (x : Int) (ha : a.length <= maxLen) (hx : 0 <= x /\ x <= 1048576) : ∃ y, Fq136 a x = some y /\ (0 <= y -> y <= x /\ a.length <= 1048576) := by
  unfold Fq136
  rw [eL_, subl_ok ha hx, br_bool, s_lt]
  by_cases h : x - (a.length : Int) < 0
  · exact ⟨-1, by simp [h], fun h => by omega⟩
  · exact ⟨x - a.length, by simp [h], fun _ => ⟨by omega, by omega⟩⟩
theorem laws_szLabel_ok (a : TB) (x : Int) (ha : a.fN.size <= maxLen) (hx : 0 <= x /\ x <= 1048576) : ∃ y, Fq13 a x = some y /\ (0 <= y -> y <= x /\ a.fN.size <= 1048576) := by
  unfold Fq13
  rw [s_slen, subl_ok ha hx, br_bool, s_lt]
  by_cases h : x - (a.fN.size : Int) < 0
  · exact ⟨-1, by simp [h], fun h => by omega⟩
  · exact ⟨x - a.fN.size, by simp [h], fun _ => ⟨by omega, by omega⟩⟩
/-- a loop that takes from what is left -/
theorem while_sz {α : Type} [Inhabited α] {st : Int × Int -> Option ((Int × Int) ⊕ (Int ⊕ Int))} (l : List α) (ok : α -> Prop) (x : Int) (hx : 0 <= x /\ x <= 1048576)
    (h : ∀ i, i < l.length -> ∀ y : Int, 0 <= y /\ y <= 1048576 -> ∃ z : Int, (z < 0 /\ st (y, (i : Int)) = some (.inr (.inl (-1)))) \/ (0 <= z /\ z <= y /\ ok (gd l i) /\ st (y, (i : Int)) = some (.inl (z, ((i + 1 : Nat) : Int)))))
    (he : ∀ y, st (y, (l.length : Int)) = some (.inr (.inr y))) : ∃ r, whileP st (x, 0) = some r /\ (r = .inl (-1) \/ ∃ z, r = .inr z /\ 0 <= z /\ z <= x /\ ∀ e ∈ l, ok e) := by
  refine while_ex (fun s => ∃ (i : Nat) (y : Int), s = (y, (i : Int)) /\ i <= l.length /\ 0 <= y /\ y <= x /\ ∀ j, j < i -> ok (gd l j)) _ (fun s => l.length + 1 - s.2.toNat) ⟨0, x, rfl, by omega, by omega, by omega, fun j hj => by omega⟩ ?_
  rintro _ ⟨i, y, rfl, h1, h2, h3, h4⟩
  by_cases hi : i < l.length
  · obtain ⟨z, ⟨_, hz⟩ | ⟨g1, g2, g3, hz⟩⟩ := h i hi y ⟨h2, by omega⟩
    · exact .inr ⟨_, hz, .inl rfl⟩
    · exact .inl ⟨_, hz, ⟨i + 1, z, rfl, by omega, g1, by omega, fun j hj => by
        rcases Nat.lt_or_ge j i with hj' | hj'
        · exact h4 j hj'
        · rw [show j = i by omega]; exact g3⟩, by simp only [Int.toNat_natCast]; omega⟩
  · have hil : i = l.length := by omega
    subst hil
    refine .inr ⟨_, he y, .inr ⟨y, rfl, h2, h3, fun e hm => ?_⟩⟩
    obtain ⟨j, hj, rfl⟩ := List.getElem_of_mem hm
    rw [<- gd_lt hj]; exact h4 j hj
theorem laws_szLabelS_ok (a : List TB) (x : Int) (ha : a.length <= maxLen) (hn : ∀ l ∈ a, l.fN.size <= maxLen) (hx : 0 <= x /\ x <= 1048576) : ∃ y, Fq61 a x = some y /\ (0 <= y -> y <= x /\ a.length <= 1048576 /\ ∀ l ∈ a, l.fN.size <= 1048576) := by
  have hb := maxLen_eq
  unfold Fq61
  rw [eL_, subl_ok ha hx, br_bool, s_lt]
  by_cases h : x - (a.length : Int) < 0
  · exact ⟨-1, by simp [h], fun h => by omega⟩
  · rw [if_neg (by simpa using h)]
    obtain ⟨r, h1, h2⟩ := while_sz (st := Lq61_x3 a) a (fun l => l.fN.size <= 1048576) (x - a.length) ⟨by omega, by omega⟩ (fun i hi y hy => by
      obtain ⟨z, hz, hz2⟩ := laws_szLabel_ok (gd a i) y (hn _ (gd_mem hi)) hy
      refine ⟨z, ?_⟩
      simp only [Lq61_x3, lq, s_toNn]
      rw [ltl_t hi, br_t, ro_ (inRl hi), hz, obs, br_bool, s_lt, inc_nat (by omega)]
      by_cases h0 : z < 0
      · exact .inl ⟨h0, by simp [h0]⟩
      · exact .inr ⟨by omega, (hz2 (by omega)).1, (hz2 (by omega)).2, by simp [h0]⟩) (fun y => by
      simp only [Lq61_x3, lq]
      rw [ltl_f, br_f])
    rw [h1, obs]
    rcases h2 with rfl | ⟨z, rfl, h3, h4, h5⟩
    · exact ⟨-1, rfl, fun h => by omega⟩
    · exact ⟨z, rfl, fun _ => ⟨by omega, by omega, h5⟩⟩
def wfC (c : TC) : Prop := c.fN.size <= maxLen /\ c.fS.length <= maxLen /\ c.fL.length <= maxLen /\ c.fI.length <= maxLen /\ ∀ l ∈ c.fL, l.fN.size <= maxLen
theorem laws_szCell_ok (c : TC) (x : Int) (hc : wfC c) (hx : 0 <= x /\ x <= 1048576) : ∃ y, Fq25 c x = some y /\ (0 <= y -> y <= x /\ SmallC c) := by
  obtain ⟨h1, h2, h3, h4, h5⟩ := hc
  unfold Fq25
  rw [s_slen, subl_ok h1 hx, br_bool, s_lt]
  by_cases h : x - (c.fN.size : Int) < 0
  · exact ⟨-1, by simp [h], fun h => by omega⟩
  · rw [if_neg (by simpa using h)]
    obtain ⟨y1, e1, f1⟩ := laws_szShapeS_ok c.fS (x - c.fN.size) h2 ⟨by omega, by omega⟩
    rw [e1, obs, br_bool, s_lt]
    by_cases g1 : y1 < 0
    · exact ⟨-1, by simp [g1], fun h => by omega⟩
    · have f1 := f1 (by omega)
      rw [if_neg (by simpa using g1)]
      obtain ⟨y2, e2, f2⟩ := laws_szLabelS_ok c.fL y1 h3 h5 ⟨by omega, by omega⟩
      rw [e2, obs, br_bool, s_lt]
      by_cases g2 : y2 < 0
      · exact ⟨-1, by simp [g2], fun h => by omega⟩
      · have f2 := f2 (by omega)
        rw [if_neg (by simpa using g2)]
        obtain ⟨y3, e3, f3⟩ := laws_szInstanceS_ok c.fI y2 h4 ⟨by omega, by omega⟩
        rw [e3, obs, br_bool, s_lt]
        by_cases g3 : y3 < 0
        · exact ⟨-1, by simp [g3], fun h => by omega⟩
        · have f3 := f3 (by omega)
          exact ⟨y3, by simp [g3], fun _ => ⟨by omega, ⟨by omega, f1.2, f2.2.1, f3.2, f2.2.2⟩⟩⟩
def wfLb (a : TL) : Prop := a.fC.length <= maxLen /\ ∀ c ∈ a.fC, wfC c
/-- the size of a library: it fits, or the law says nothing -/
theorem laws_szLibrary_ok2 (a : TL) (ha : wfLb a) : ∃ y, Fq110 a 1048576 = some y /\ (0 <= y -> y <= 1048576 /\ SmallL a) := by
  have hb := maxLen_eq
  unfold Fq110 Fq81
  rw [eL_, subl_ok ha.1 ⟨by decide, by decide⟩, br_bool, s_lt]
  by_cases h : (1048576 : Int) - (a.fC.length : Int) < 0
  · exact ⟨-1, by simp [h, br_bool, s_lt], fun h => by omega⟩
  · rw [if_neg (by simpa using h)]
    obtain ⟨r, h1, h2⟩ := while_sz (st := Lq81_x3 a.fC) a.fC SmallC (1048576 - a.fC.length) ⟨by omega, by omega⟩ (fun i hi y hy => by
      obtain ⟨z, hz, hz2⟩ := laws_szCell_ok (gd a.fC i) y (ha.2 _ (gd_mem hi)) hy
      refine ⟨z, ?_⟩
      simp only [Lq81_x3, lq, s_toNn]
      have := ha.1
      rw [ltl_t hi, br_t, ro_ (inRl hi), hz, obs, br_bool, s_lt, inc_nat (by omega)]
      by_cases h0 : z < 0
      · exact .inl ⟨h0, by simp [h0]⟩
      · exact .inr ⟨by omega, (hz2 (by omega)).1, (hz2 (by omega)).2, by simp [h0]⟩) (fun y => by
      simp only [Lq81_x3, lq]
      rw [ltl_f, br_f])
    rw [h1, obs]
    rcases h2 with rfl | ⟨z, rfl, h3, h4, h5⟩
    · exact ⟨-1, rfl, fun h => by omega⟩
    · refine ⟨z, ?_, fun _ => ⟨by omega, ⟨by omega, h5⟩⟩⟩
      simp only [lq, obs]
      rw [lt_false (by omega), br_f]
theorem laws_szLibrary_ok (a : TL) (ha : wfLb a) : ∃ y, Fq110 a 1048576 = some y /\ (0 <= y -> SmallL a) := by
  obtain ⟨y, h1, h2⟩ := laws_szLibrary_ok2 a ha
  exact ⟨y, h1, fun h => (h2 h).2⟩
-- nothing differs
theorem laws_eqRect_ok (a : TRect) : Fq153 a a = some true := by unfold Fq153; simp [eq_true', s_not, br]
theorem laws_eqShape_ok (a : TS) : Fq16 a a = some true := by unfold Fq16; simp [eq_true', s_not, br, laws_eqRect_ok]
theorem laws_eqPoint_ok (a : TPoint) : Fq118 a a = some true := by unfold Fq118; simp [eq_true', s_not, br]
theorem laws_eqLabel_ok (a : TB) : Fq15 a a = some true := by unfold Fq15; simp [eq_true', s_not, br, laws_eqPoint_ok, seq_self]
theorem laws_eqTransform_ok (a : TM) : Fq119 a a = some true := by unfold Fq119; simp [eq_true', s_not, br]
theorem laws_eqInstance_ok (a : TI) : Fq14 a a = some true := by unfold Fq14; simp [eq_true', s_not, br, laws_eqTransform_ok]
theorem laws_eqShapeS_ok (l : List TS) (h : l.length <= 10000000) : Fq74 l l = some true := by
  unfold Fq74
  rw [notEq (eq_true' rfl), br_f]
  refine Eq.trans (bind_of (while_eq (r := .inr ()) l.length (fun i hi => ?_) ?_)) rfl
  · simp only [Lq74_x2, lq, s_toNn, laws_eqShape_ok, obs]
    rw [ltl_t hi, br_t, ro_ (inRl hi), ro_ (inRl hi), inc_nat (by omega)]; rfl
  · simp only [Lq74_x2, lq]
    rw [ltl_f]; rfl
theorem laws_eqLabelS_ok (l : List TB) (h : l.length <= 10000000) : Fq77 l l = some true := by
  unfold Fq77
  rw [notEq (eq_true' rfl), br_f]
  refine Eq.trans (bind_of (while_eq (r := .inr ()) l.length (fun i hi => ?_) ?_)) rfl
  · simp only [Lq77_x2, lq, s_toNn, laws_eqLabel_ok, obs]
    rw [ltl_t hi, br_t, ro_ (inRl hi), ro_ (inRl hi), inc_nat (by omega)]; rfl
  · simp only [Lq77_x2, lq]
    rw [ltl_f]; rfl
theorem laws_eqInstanceS_ok (l : List TI) (h : l.length <= 10000000) : Fq73 l l = some true := by
  unfold Fq73
  rw [notEq (eq_true' rfl), br_f]
  refine Eq.trans (bind_of (while_eq (r := .inr ()) l.length (fun i hi => ?_) ?_)) rfl
  · simp only [Lq73_x2, lq, s_toNn, laws_eqInstance_ok, obs]
    rw [ltl_t hi, br_t, ro_ (inRl hi), ro_ (inRl hi), inc_nat (by omega)]; rfl
  · simp only [Lq73_x2, lq]
    rw [ltl_f]; rfl
theorem laws_eqCell_ok (c : TC) (h : SmallC c) : Fq26 c c = some true := by
  unfold Fq26
  rw [laws_eqShapeS_ok _ (by have := h.shapes; omega), laws_eqLabelS_ok _ (by have := h.labels; omega), laws_eqInstanceS_ok _ (by have := h.insts; omega)]
  simp [seq_self, s_not, br]
theorem laws_eqLibrary_ok (a : TL) (h : SmallL a) : Fq131 a a = some true := by
  have hl := h.cells
  unfold Fq131 Fq79
  rw [notEq (eq_true' rfl), br_f]
  rw [bind_of (while_eq (st := Lq79_x2 a.fC a.fC) (r := .inr ()) a.fC.length (fun i hi => ?_) ?_)]
  · rfl
  · simp only [Lq79_x2, lq]
    rw [ltl_f]; rfl
  · simp only [Lq79_x2, lq, s_toNn]
    rw [ltl_t hi, br_t, ro_ (inRl hi), ro_ (inRl hi), laws_eqCell_ok _ (h.cell _ (gd_mem hi)), inc_nat (by omega)]; rfl
theorem wfC_of {c : TC} (h : wfCell c) : wfC c := ⟨h.1, h.2.1.1, h.2.2.1.1, h.2.2.2.1, fun l hl => (h.2.2.1.2 l hl).2.2⟩
theorem wfLb_of {a : TL} (h : wfLibrary a) : wfLb a := ⟨h.1, fun c hc => wfC_of (h.2 c hc)⟩
def okCell (c : TC) (k : Int) : Bool := isName c.fN && (decide (c.fS.length <= 24) && (decide (c.fL.length <= 8) && (decide (c.fI.length <= 8) && (c.fS.all okShape && (c.fL.all okLabel && c.fI.all fun x => okInst x k)))))
theorem lt_lit (n : Nat) (k : Nat) : std.lt (k : Int) (std.ofN n) = !decide (n <= k) := by
  rw [s_lt, s_ofN]
  by_cases h : n <= k
  · have : ¬ ((k : Int) < (n : Int)) := by omega
    simp [h, this]
  · have : ((k : Int) < (n : Int)) := by omega
    simp [h, this]
theorem spec_l09Cell_ok (c : TC) (k : Int) (h : SmallC c) : Fq27 c k = some (okCell c k) := by
  have hb := maxLen_eq
  have e24 := lt_lit c.fS.length 24
  have e8 := lt_lit c.fL.length 8
  have e8' := lt_lit c.fI.length 8
  have s1 := h.shapes; have s2 := h.labels; have s3 := h.insts
  unfold Fq27 okCell
  rw [spec_IsName_ok _ (by have := h.name; omega)]
  simp only [obs, lq, eL_, show (24 : Int) = ((24 : Nat) : Int) from rfl, show (8 : Int) = ((8 : Nat) : Int) from rfl, e24, e8, e8']
  cases isName c.fN with
  | false => rfl
  | true =>
    cases decide (c.fS.length <= 24) with
    | false => rfl
    | true =>
      cases decide (c.fL.length <= 8) with
      | false => rfl
      | true =>
        cases decide (c.fI.length <= 8) with
        | false => rfl
        | true =>
          simp only [Bool.not_true, br_f, obs, Bool.true_and]
          rw [bind_of (scan (ok := fun i => okShape (gd c.fS i)) (n := c.fS.length) (yes := .inr ()) (no := .inl false) (fun i hi => ?_) ?_), range_all]
          · cases c.fS.all okShape with
            | false => rfl
            | true =>
              simp only [if_true, Bool.true_and]
              rw [bind_of (scan (ok := fun i => okLabel (gd c.fL i)) (n := c.fL.length) (yes := .inr ()) (no := .inl false) (fun i hi => ?_) ?_), range_all]
              · cases c.fL.all okLabel with
                | false => rfl
                | true =>
                  simp only [if_true, Bool.true_and]
                  rw [bind_of (scan (ok := fun i => okInst (gd c.fI i) k) (n := c.fI.length) (yes := .inr ()) (no := .inl false) (fun i hi => ?_) ?_), range_all (fun x => okInst x k)]
                  · cases c.fI.all fun x => okInst x k <;> rfl
                  · simp only [Lq27_x52, lq]
                    rw [ltl_f, br_f]
                  · simp only [Lq27_x52, lq, s_toNn]
                    rw [ltl_t hi, br_t, ro_ (inRl hi), spec_l09Instance_ok, obs, inc_nat (by omega)]
                    cases okInst (gd c.fI i) k <;> rfl
              · simp only [Lq27_x33, lq]
                rw [ltl_f, br_f]
              · simp only [Lq27_x33, lq, s_toNn]
                rw [ltl_t hi, br_t, ro_ (inRl hi), spec_l09Label_ok _ (by have := h.lnames _ (gd_mem hi); omega), obs, inc_nat (by omega)]
                cases okLabel (gd c.fL i) <;> rfl
          · simp only [Lq27_x14, lq]
            rw [ltl_f, br_f]
          · simp only [Lq27_x14, lq, s_toNn]
            rw [ltl_t hi, br_t, ro_ (inRl hi), spec_l09Shape_ok, obs, inc_nat (by omega)]
            cases okShape (gd c.fS i) <;> rfl
/-- a loop that stops at the first element that is met -/
theorem scan_first {step : Int -> Option (Int ⊕ (Int ⊕ Unit))} {p : Nat -> Bool} {n : Nat} (h : ∀ i : Nat, i < n -> step i = some (cond (p i) (.inr (.inl (i : Int))) (.inl ((i + 1 : Nat) : Int)))) (hn : step n = some (.inr (.inr ()))) :
    whileP step 0 = some (match (List.range n).find? p with | some i => .inl (i : Int) | none => .inr ()) := by
  have key : ∀ m i : Nat, i + m = n -> whileP step i = some (match (List.range' i m).find? p with | some i => .inl (i : Int) | none => .inr ()) := by
    intro m
    induction m with
    | zero =>
      intro i hi
      have : i = n := by omega
      subst this
      rw [whileP_unfold, hn]; rfl
    | succ m ih =>
      intro i hi
      rw [whileP_unfold, h i (by omega)]
      cases hb : p i with
      | true => simp [List.range', hb]
      | false =>
        simp only [cond]
        rw [ih (i + 1) (by omega)]
        simp [List.range', hb]
  have := key n 0 (by omega)
  rw [List.range_eq_range']
  exact this
def firstI (p : Nat -> Bool) (n : Nat) : Int := match (List.range n).find? p with | some i => (i : Int) | none => -1
theorem firstI_any (p : Nat -> Bool) (n : Nat) : std.le 0 (firstI p n) = (List.range n).any p := by
  unfold firstI
  cases h : (List.range n).find? p with
  | none =>
    rw [List.find?_eq_none] at h
    have : (List.range n).any p = false := by rw [List.any_eq_false]; exact h
    rw [this]; show std.le 0 (-1) = false; exact le_false (by omega)
  | some i =>
    have h1 := List.find?_some h
    have h2 := List.mem_of_find?_eq_some h
    have : (List.range n).any p = true := by rw [List.any_eq_true]; exact ⟨i, h2, h1⟩
    rw [this]; show std.le 0 (i : Int) = true; exact le_true (by omega)
theorem range_any {α : Type} [Inhabited α] (p : α -> Bool) (l : List α) : (List.range l.length).any (fun i => !p (gd l i)) = !l.all p := by
  rw [<- range_all p l, List.all_eq_not_any_not, Bool.not_not]
theorem containsShape (l : List TS) (h : l.length <= 10000000) : Fq147 l = some (!l.all okShape) := by
  unfold Fq147 Fq82
  rw [bind_of (scan_first (p := fun i => !okShape (gd l i)) (n := l.length) (fun i hi => ?_) ?_)]
  · rw [<- range_any okShape l, <- firstI_any]
    unfold firstI
    cases (List.range l.length).find? (fun i => !okShape (gd l i)) <;> rfl
  · simp only [Lq82_x2, lq]
    rw [ltl_f, br_f]
  · simp only [Lq82_x2, lq, s_toNn, Fq163]
    rw [ltl_t hi, br_t, ro_ (inRl hi), impl_validShape_ok, obs, obs, inc_nat (by omega)]
    cases okShape (gd l i) <;> rfl
theorem containsLabel (l : List TB) (h : l.length <= 10000000) (hn : ∀ x ∈ l, x.fN.size <= maxLen) : Fq128 l = some (!l.all okLabel) := by
  unfold Fq128 Fq89
  rw [bind_of (scan_first (p := fun i => !okLabel (gd l i)) (n := l.length) (fun i hi => ?_) ?_)]
  · rw [<- range_any okLabel l, <- firstI_any]
    unfold firstI
    cases (List.range l.length).find? (fun i => !okLabel (gd l i)) <;> rfl
  · simp only [Lq89_x2, lq]
    rw [ltl_f, br_f]
  · simp only [Lq89_x2, lq, s_toNn, Fq158]
    rw [ltl_t hi, br_t, ro_ (inRl hi), impl_validLabel_ok _ (hn _ (gd_mem hi)), obs, obs, inc_nat (by omega)]
    cases okLabel (gd l i) <;> rfl
theorem containsInst (l : List TI) (k : Int) (h : l.length <= 10000000) : Fq133 l k = some (!l.all fun x => okInst x k) := by
  unfold Fq133 Fq92
  rw [bind_of (scan_first (p := fun i => !okInst (gd l i) k) (n := l.length) (fun i hi => ?_) ?_)]
  · rw [<- range_any (fun x => okInst x k) l, <- firstI_any]
    unfold firstI
    cases (List.range l.length).find? (fun i => !okInst (gd l i) k) <;> rfl
  · simp only [Lq92_x2, lq]
    rw [ltl_f, br_f]
  · simp only [Lq92_x2, lq, s_toNn, Fq157]
    rw [ltl_t hi, br_t, ro_ (inRl hi), impl_validInstance_ok, obs, obs, inc_nat (by omega)]
    cases okInst (gd l i) k <;> rfl
theorem impl_validCell_ok (c : TC) (k : Int) (h : SmallC c) : Fq9 c k = some (okCell c k) := by
  have hb := maxLen_eq
  have e24 := lt_lit c.fS.length 24
  have e8 := lt_lit c.fL.length 8
  have e8' := lt_lit c.fI.length 8
  unfold Fq9 okCell
  rw [impl_IsName_ok _ (by have := h.name; omega), containsShape _ (by have := h.shapes; omega), containsLabel _ (by have := h.labels; omega) (fun x hx => by have := h.lnames x hx; omega), containsInst _ _ (by have := h.insts; omega)]
  simp only [obs, lq, eL_, show (24 : Int) = ((24 : Nat) : Int) from rfl, show (8 : Int) = ((8 : Nat) : Int) from rfl, e24, e8, e8']
  cases isName c.fN <;> cases decide (c.fS.length <= 24) <;> cases decide (c.fL.length <= 8) <;> cases decide (c.fI.length <= 8) <;> cases c.fS.all okShape <;> cases c.fL.all okLabel <;> cases (c.fI.all fun x => okInst x k) <;> rfl
/-- the first cell with this name -/
def namedI (l : List TC) (s : ByteArray) : Int := firstI (fun i => std.seq (gd l i).fN s) l.length
theorem impl_named_ok (a : TL) (s : ByteArray) (h : a.fC.length <= 10000000) : Fq24 a s = some (namedI a.fC s) := by
  unfold Fq24 Fq100
  rw [bind_of (scan_first (p := fun i => std.seq (gd a.fC i).fN s) (n := a.fC.length) (fun i hi => ?_) ?_)]
  · unfold namedI firstI
    cases (List.range a.fC.length).find? (fun i => std.seq (gd a.fC i).fN s) <;> rfl
  · simp only [Lq100_x2, lq]
    rw [ltl_f, br_f]
  · simp only [Lq100_x2, lq, s_toNn, Fq155]
    rw [ltl_t hi, br_t, ro_ (inRl hi), obs, inc_nat (by omega)]
    cases std.seq (gd a.fC i).fN s <;> rfl
/-- no cell ahead of k has its name -/
def fresh (l : List TC) (k : Nat) : Bool := (List.range k).all fun j => !std.seq (gd l j).fN (gd l k).fN
theorem find_first (p : Nat -> Bool) (n k : Nat) (hk : k < n) (hp : p k = true) : (List.range n).find? p = some k ↔ (List.range k).all (fun j => !p j) = true := by
  rw [List.all_eq_true, List.find?_eq_some_iff_append]
  constructor
  · rintro ⟨h1, l1, l2, h2, h3⟩ j hj
    apply h3
    have hlen : l1.length = k := by
      have h4 : (List.range n)[l1.length]? = some k := by rw [h2]; simp
      have hlt : l1.length < n := by
        have := (List.getElem?_eq_some_iff.1 h4).1
        simpa using this
      rw [List.getElem?_range hlt] at h4
      injection h4
    have h5 : l1 = List.range k := by
      have := congrArg (List.take l1.length) h2
      rw [List.take_left', List.take_range] at this
      · rw [<- this, hlen]; congr 1; omega
      · rfl
    rw [h5]; exact hj
  · intro h
    refine ⟨hp, List.range k, List.range' (k + 1) (n - (k + 1)), ?_, fun j hj => h j hj⟩
    rw [List.range_eq_range', List.range_eq_range', show n = k + (1 + (n - (k + 1))) by omega, <- List.range'_append_1, Nat.add_comm 1, List.range'_succ]
    simp
    omega
theorem named_first (l : List TC) (k : Nat) (hk : k < l.length) : std.eq (namedI l (gd l k).fN) (k : Int) = fresh l k := by
  rw [s_eq, Bool.eq_iff_iff]
  unfold fresh
  rw [<- find_first (fun i => std.seq (gd l i).fN (gd l k).fN) l.length k hk (seq_self _)]
  unfold namedI firstI
  cases h : (List.range l.length).find? (fun i => std.seq (gd l i).fN (gd l k).fN) with
  | none => simp
  | some i => simp; omega
def okLib (a : TL) : Bool := decide (1 <= a.fC.length) && (decide (a.fC.length <= 8) && (List.range a.fC.length).all fun k => okCell (gd a.fC k) k && fresh a.fC k)
theorem lt_one (n : Nat) : std.lt (std.ofN n) 1 = !decide (1 <= n) := by
  rw [s_lt, s_ofN]
  by_cases h : 1 <= n
  · have : ¬ ((n : Int) < 1) := by omega
    simp [h, this]
  · have : ((n : Int) < 1) := by omega
    simp [h, this]
theorem spec_IsValidLibrary_ok (a : TL) (h : SmallL a) : Fq20 a = some (okLib a) := by
  have hl := h.cells
  have e8 := lt_lit a.fC.length 8
  unfold Fq20 okLib
  simp only [lq, eL_, show (8 : Int) = ((8 : Nat) : Int) from rfl, e8, lt_one]
  cases decide (1 <= a.fC.length) with
  | false => rfl
  | true =>
    cases decide (a.fC.length <= 8) with
    | false => rfl
    | true =>
      simp only [Bool.not_true, br_f, obs, Bool.true_and]
      rw [bind_of (scan (ok := fun k => okCell (gd a.fC k) k && fresh a.fC k) (n := a.fC.length) (yes := .inr ()) (no := .inl false) (fun i hi => ?_) ?_)]
      · cases (List.range a.fC.length).all fun k => okCell (gd a.fC k) k && fresh a.fC k <;> rfl
      · simp only [Lq20_x10, lq]
        rw [ltl_f, br_f]
      · simp only [Lq20_x10, lq, s_toNn]
        rw [ltl_t hi, br_t, ro_ (inRl hi), spec_l09Cell_ok _ _ (h.cell _ (gd_mem hi)), obs, inc_nat (by omega)]
        cases okCell (gd a.fC i) (i : Int) with
        | false => rfl
        | true =>
          simp only [Bool.not_true, br_f, Bool.true_and]
          rw [bind_of (scan (ok := fun j => !std.seq (gd a.fC j).fN (gd a.fC i).fN) (n := i) (yes := .inr ()) (no := .inl false) (fun j hj => ?_) ?_)]
          · unfold fresh
            cases (List.range i).all fun j => !std.seq (gd a.fC j).fN (gd a.fC i).fN <;> rfl
          · simp only [Lq20_x26, lq]
            rw [lt_false (by omega), br_f]
          · simp only [Lq20_x26, lq, s_toNn]
            rw [lt_true (by omega), br_t, ro_ (inRl (by omega)), ro_ (inRl hi), inc_nat (by omega)]
            cases std.seq (gd a.fC j).fN (gd a.fC i).fN <;> rfl
theorem impl_IsValidLibrary_ok (a : TL) (h : SmallL a) : Fq21 a = some (okLib a) := by
  have hl := h.cells
  have e8 := lt_lit a.fC.length 8
  unfold Fq21 okLib
  simp only [lq, eL_, show (8 : Int) = ((8 : Nat) : Int) from rfl, e8, lt_one]
  cases decide (1 <= a.fC.length) with
  | false => rfl
  | true =>
    cases decide (a.fC.length <= 8) with
    | false => rfl
    | true =>
      simp only [Bool.not_true, br_f, obs, Bool.true_and]
      rw [bind_of (scan (ok := fun k => okCell (gd a.fC k) k && fresh a.fC k) (n := a.fC.length) (yes := .inr ()) (no := .inl false) (fun i hi => ?_) ?_)]
      · cases (List.range a.fC.length).all fun k => okCell (gd a.fC k) k && fresh a.fC k <;> rfl
      · simp only [Lq21_x10, lq]
        rw [ltl_f, br_f]
      · simp only [Lq21_x10, lq, s_toNn]
        rw [ltl_t hi, br_t, ro_ (inRl hi), impl_validCell_ok _ _ (h.cell _ (gd_mem hi)), obs, inc_nat (by omega)]
        cases okCell (gd a.fC i) (i : Int) with
        | false => rfl
        | true =>
          simp only [Bool.not_true, br_f, Bool.true_and]
          rw [impl_named_ok _ _ (show a.fC.length <= 10000000 by omega), obs, named_first _ _ hi]
          cases fresh a.fC i <;> rfl
/- sz, to, eq of an edit -/
structure SmallE (a : TE) : Prop where
  name : a.fN.size <= 1048576
  lname : a.fl_.fN.size <= 1048576
theorem laws_szEdit_ok (a : TE) (x : Int) (h1 : a.fN.size <= maxLen) (h2 : a.fl_.fN.size <= maxLen) (hx : 0 <= x /\ x <= 1048576) : ∃ y, Fq2 a x = some y /\ (0 <= y -> y <= x /\ SmallE a) := by
  have hb := maxLen_eq
  unfold Fq2 Fq13
  rw [s_slen, s_ofN, sub_id (x := x) (by omega) (by omega), br_bool, s_lt]
  by_cases h : x - (a.fN.size : Int) < 0
  · exact ⟨-1, by simp [h], fun h => by omega⟩
  · rw [if_neg (by simpa using h), s_slen, s_ofN, sub_id (by omega) (by omega), br_bool, s_lt]
    by_cases g : x - (a.fN.size : Int) - (a.fl_.fN.size : Int) < 0
    · exact ⟨-1, by simp [g, br_bool, s_lt], fun h => by omega⟩
    · exact ⟨x - (a.fN.size : Int) - (a.fl_.fN.size : Int), by simp [g, br_bool, s_lt], fun _ => ⟨by omega, by omega, by omega⟩⟩
theorem laws_toEdit_ok (a : TE) : Fq0 a = some a := rfl
theorem laws_eqEdit_ok (a : TE) : Fq1 a a = some true := by
  unfold Fq1
  simp [eq_true', s_not, br, laws_eqShape_ok, laws_eqLabel_ok, laws_eqInstance_ok, seq_self]
/- is it an edit -/
theorem eq_self' (x : Int) : std.eq x x = true := by simp [std]
theorem eq_zero (x : Int) : std.eq 0 x = std.eq x 0 := by simp only [std]; exact Bool.beq_comm
theorem seq_zero (x : ByteArray) : std.seq (ByteArray.mk #[]) x = std.seq x (ByteArray.mk #[]) := by simp only [std]; exact Bool.beq_comm
theorem band_and (a b : Bool) : std.band a b = (a && b) := rfl
theorem not_not' (a : Bool) : std.not a = !a := rfl
def zS (a : TS) : Bool := std.eq a.fy 0 && (std.eq a.fb.fX0 0 && (std.eq a.fb.fY0 0 && (std.eq a.fb.fX1 0 && std.eq a.fb.fY1 0)))
def zL (a : TB) : Bool := std.eq a.fy 0 && ((std.eq a.fa.fX 0 && std.eq a.fa.fY 0) && std.seq a.fN (ByteArray.mk #[]))
def zI (a : TI) : Bool := std.eq a.fc 0 && ((std.eq a.fp.fo 0 && (std.eq a.fp.fX 0 && std.eq a.fp.fY 0)) && (std.eq a.fK 0 && (std.eq a.fR 0 && (std.eq a.fu 0 && std.eq a.fv 0))))
theorem spec_l13NoShape_ok (a : TS) : Fq105 a = some (zS a) := by
  unfold Fq105 zS
  simp only [band_and, Bool.and_true]
theorem spec_l13NoLabel_ok (a : TB) : Fq108 a = some (zL a) := by
  unfold Fq108 zL
  simp only [band_and, Bool.and_true]
theorem spec_l13NoInstance_ok (a : TI) : Fq134 a = some (zI a) := by
  unfold Fq134 zI
  simp only [band_and, Bool.and_true]
/-- is it an edit -/
def okEdit (a : TE) : Bool :=
  (wB a.fc 0 8 && wB a.fx 0 24) &&
  (if a.fk_ = 1 then std.seq a.fN (ByteArray.mk #[]) && okShape a.fs_ && zL a.fl_ && zI a.fi_
   else if a.fk_ = 3 then std.seq a.fN (ByteArray.mk #[]) && zS a.fs_ && okLabel a.fl_ && zI a.fi_
   else if a.fk_ = 5 then std.seq a.fN (ByteArray.mk #[]) && zS a.fs_ && zL a.fl_ && okInst a.fi_ 8
   else if a.fk_ = 2 \/ a.fk_ = 4 \/ a.fk_ = 6 then std.seq a.fN (ByteArray.mk #[]) && zS a.fs_ && zL a.fl_ && zI a.fi_
   else if a.fk_ = 7 \/ a.fk_ = 8 then std.eq a.fx 0 && isName a.fN && zS a.fs_ && zL a.fl_ && zI a.fi_
   else if a.fk_ = 9 then std.eq a.fx 0 && std.seq a.fN (ByteArray.mk #[]) && zS a.fs_ && zL a.fl_ && zI a.fi_
   else false)
theorem eq_dec (x y : Int) : std.eq x y = decide (x = y) := by
  simp only [std]
  by_cases h : x = y <;> simp [h]
theorem spec_IsValidEdit_ok (a : TE) (h1 : a.fN.size <= maxLen) (h2 : a.fl_.fN.size <= maxLen) : Fq91 a = some (okEdit a) := by
  unfold Fq91 okEdit
  simp only [spec_l09In_ok, spec_IsName_ok _ h1, spec_l09Shape_ok, spec_l13NoShape_ok, spec_l09Label_ok _ h2, spec_l13NoLabel_ok, spec_l09Instance_ok, spec_l13NoInstance_ok, not_not']
  generalize okShape a.fs_ = s1
  generalize zS a.fs_ = s2
  generalize okLabel a.fl_ = l1
  generalize zL a.fl_ = l2
  generalize okInst a.fi_ 8 = i1
  generalize zI a.fi_ = i2
  generalize isName a.fN = n1
  generalize std.seq a.fN _ = n2
  generalize wB a.fc 0 8 = c1
  generalize wB a.fx 0 24 = c2
  generalize std.eq a.fx 0 = c3
  generalize a.fk_ = k
  by_cases hk : 1 <= k /\ k <= 9
  · have : k = 1 \/ k = 2 \/ k = 3 \/ k = 4 \/ k = 5 \/ k = 6 \/ k = 7 \/ k = 8 \/ k = 9 := by omega
    rcases this with rfl | rfl | rfl | rfl | rfl | rfl | rfl | rfl | rfl <;> cases c1 <;> cases c2 <;> try rfl
    all_goals (cases c3 <;> try rfl)
    all_goals (cases n2 <;> try rfl)
    all_goals (cases n1 <;> try rfl)
    all_goals (cases s2 <;> try rfl)
    all_goals (cases s1 <;> try rfl)
    all_goals (cases l2 <;> try rfl)
    all_goals (cases l1 <;> try rfl)
    all_goals (cases i2 <;> try rfl)
    all_goals (cases i1 <;> rfl)
  · have hw : wB k 1 9 = false := by
      simp [wB, std]; omega
    rw [hw]
    have e1 : ¬ k = 1 := by omega
    have e2 : ¬ k = 2 := by omega
    have e3 : ¬ k = 3 := by omega
    have e4 : ¬ k = 4 := by omega
    have e5 : ¬ k = 5 := by omega
    have e6 : ¬ k = 6 := by omega
    have e7 : ¬ k = 7 := by omega
    have e8 : ¬ k = 8 := by omega
    have e9 : ¬ k = 9 := by omega
    simp only [e1, e2, e3, e4, e5, e6, e7, e8, e9, or_self, if_false, Bool.and_false]
    rfl
theorem zS_fold (a : TS) : (std.eq a.fy 0 && (std.eq a.fb.fX0 0 && (std.eq a.fb.fY0 0 && (std.eq a.fb.fX1 0 && std.eq a.fb.fY1 0)))) = zS a := rfl
theorem zL_fold (a : TB) : (std.eq a.fy 0 && ((std.eq a.fa.fX 0 && std.eq a.fa.fY 0) && std.seq a.fN (ByteArray.mk #[]))) = zL a := rfl
theorem zI_fold (a : TI) : (std.eq a.fc 0 && ((std.eq a.fp.fo 0 && (std.eq a.fp.fX 0 && std.eq a.fp.fY 0)) && (std.eq a.fK 0 && (std.eq a.fR 0 && (std.eq a.fu 0 && std.eq a.fv 0))))) = zI a := rfl
theorem impl_IsValidEdit_ok (a : TE) (h1 : a.fN.size <= maxLen) (h2 : a.fl_.fN.size <= maxLen) : Fq99 a = some (okEdit a) := by
  unfold Fq99 okEdit
  simp only [impl_within_ok, impl_IsName_ok _ h1, impl_validShape_ok, impl_validLabel_ok _ h2, impl_validInstance_ok, band_and, Bool.and_true, Bool.true_and, eq_self', seq_self, eq_zero, seq_zero, zS_fold, zL_fold, zI_fold]
  generalize okShape a.fs_ = s1
  generalize zS a.fs_ = s2
  generalize okLabel a.fl_ = l1
  generalize zL a.fl_ = l2
  generalize okInst a.fi_ 8 = i1
  generalize zI a.fi_ = i2
  generalize isName a.fN = n1
  generalize std.seq a.fN _ = n2
  generalize wB a.fc 0 8 = c1
  generalize wB a.fx 0 24 = c2
  generalize std.eq a.fx 0 = c3
  generalize a.fk_ = k
  by_cases hk : 1 <= k /\ k <= 9
  · have : k = 1 \/ k = 2 \/ k = 3 \/ k = 4 \/ k = 5 \/ k = 6 \/ k = 7 \/ k = 8 \/ k = 9 := by omega
    rcases this with rfl | rfl | rfl | rfl | rfl | rfl | rfl | rfl | rfl <;> cases c1 <;> cases c2 <;> try rfl
    all_goals (cases c3 <;> try rfl)
    all_goals (cases n2 <;> try rfl)
    all_goals (cases n1 <;> try rfl)
    all_goals (cases s2 <;> try rfl)
    all_goals (cases s1 <;> try rfl)
    all_goals (cases l2 <;> try rfl)
    all_goals (cases l1 <;> try rfl)
    all_goals (cases i2 <;> try rfl)
    all_goals (cases i1 <;> rfl)
  · have e1 : ¬ k = 1 := by omega
    have e2 : ¬ k = 2 := by omega
    have e3 : ¬ k = 3 := by omega
    have e4 : ¬ k = 4 := by omega
    have e5 : ¬ k = 5 := by omega
    have e6 : ¬ k = 6 := by omega
    have e7 : ¬ k = 7 := by omega
    have e8 : ¬ k = 8 := by omega
    have e9 : ¬ k = 9 := by omega
    simp only [eq_dec, e1, e2, e3, e4, e5, e6, e7, e8, e9, or_self, if_false, Bool.and_false, decide_false]
    cases c1 <;> cases c2 <;> rfl
/- the code of an edit: both sides -/
/-- a loop that says yes at the first element that is met -/
theorem scan_any {step : Int -> Option (Int ⊕ (Bool ⊕ Unit))} {p : Nat -> Bool} {n : Nat} (h : ∀ i : Nat, i < n -> step i = some (cond (p i) (.inr (.inl true)) (.inl ((i + 1 : Nat) : Int)))) (hn : step n = some (.inr (.inr ()))) :
    whileP step 0 = some (cond ((List.range n).any p) (.inl true) (.inr ())) := by
  have key : ∀ m i : Nat, i + m = n -> whileP step i = some (cond ((List.range' i m).any p) (.inl true) (.inr ())) := by
    intro m
    induction m with
    | zero =>
      intro i hi
      have : i = n := by omega
      subst this
      rw [whileP_unfold, hn]; rfl
    | succ m ih =>
      intro i hi
      rw [whileP_unfold, h i (by omega)]
      cases hb : p i with
      | true => simp [List.range', hb]
      | false =>
        show whileP step ((i + 1 : Nat) : Int) = _
        rw [ih (i + 1) (by omega)]
        simp [List.range', hb]
  have := key n 0 (by omega)
  rw [List.range_eq_range']
  exact this
theorem any_res {b : Bool} : ((some (cond b (.inl true) (.inr ())) : Option (Bool ⊕ Unit)).bind fun y3 => (match y3 with
    | .inl y3k0 => (letO y3k0 fun w25 => some w25)
    | .inr y3m0 => some false)) = some b := by cases b <;> rfl
def othN (l : List TC) (k : Int) (s : ByteArray) : Bool := (List.range l.length).any fun i => std.not (std.eq (i : Int) k) && std.seq (gd l i).fN s
theorem spec_l13Named_ok (a : TL) (k : Int) (s : ByteArray) (h : a.fC.length <= 10000000) : Fq56 a k s = some (othN a.fC k s) := by
  unfold Fq56
  rw [scan_any (p := fun i => std.not (std.eq (i : Int) k) && std.seq (gd a.fC i).fN s) (n := a.fC.length) (fun i hi => ?_) ?_]
  · exact any_res
  · simp only [Lq56_x2, lq]
    rw [ltl_f, br_f]
  · simp only [Lq56_x2, lq, s_toNn]
    rw [ltl_t hi, br_t, ro_ (inRl hi), inc_nat (by omega)]
    cases std.not (std.eq (i : Int) k) <;> cases std.seq (gd a.fC i).fN s <;> rfl
def usesB (c : TC) (k : Int) : Bool := (List.range c.fI.length).any fun i => std.eq (gd c.fI i).fc k
theorem spec_l09Uses_ok (c : TC) (k : Int) (h : c.fI.length <= 10000000) : Fq76 c k = some (usesB c k) := by
  unfold Fq76
  rw [scan_any (p := fun i => std.eq (gd c.fI i).fc k) (n := c.fI.length) (fun i hi => ?_) ?_]
  · exact any_res
  · simp only [Lq76_x2, lq]
    rw [ltl_f, br_f]
  · simp only [Lq76_x2, lq, s_toNn]
    rw [ltl_t hi, br_t, ro_ (inRl hi), inc_nat (by omega)]
    cases std.eq (gd c.fI i).fc k <;> rfl
def placedB (a : TL) (k : Int) : Bool := (List.range a.fC.length).any fun j => usesB (gd a.fC j) k
theorem spec_l13Placed_ok (a : TL) (k : Int) (h : SmallL a) : Fq72 a k = some (placedB a k) := by
  have hc := h.cells
  unfold Fq72
  rw [scan_any (p := fun j => usesB (gd a.fC j) k) (n := a.fC.length) (fun i hi => ?_) ?_]
  · exact any_res
  · simp only [Lq72_x2, lq]
    rw [ltl_f, br_f]
  · have hi2 := (h.cell _ (gd_mem hi)).insts
    simp only [Lq72_x2, lq, s_toNn]
    rw [ltl_t hi, br_t, ro_ (inRl hi), inc_nat (by omega), spec_l09Uses_ok _ _ (by omega), obs]
    cases usesB (gd a.fC i) k <;> rfl
theorem impl_uses_ok (c : TC) (k : Int) (h : c.fI.length <= 10000000) : Fq148 c.fI k = some (usesB c k) := by
  unfold Fq148 Fq86
  rw [bind_of (scan_first (p := fun i => std.eq (gd c.fI i).fc k) (n := c.fI.length) (fun i hi => ?_) ?_)]
  · unfold usesB
    rw [<- firstI_any]
    unfold firstI
    cases (List.range c.fI.length).find? (fun i => std.eq (gd c.fI i).fc k) <;> rfl
  · simp only [Lq86_x2, lq]
    rw [ltl_f, br_f]
  · simp only [Lq86_x2, lq, s_toNn, Fq159]
    rw [ltl_t hi, br_t, ro_ (inRl hi), obs, inc_nat (by omega)]
    cases std.eq (gd c.fI i).fc k <;> rfl
/-- the cells that place the cell k -/
def usersL (a : TL) (k : Int) (n : Nat) : List Int := ((List.range n).filter fun j => usesB (gd a.fC j) k).map fun j : Nat => (j : Int)
theorem usersL_len (a : TL) (k : Int) (n : Nat) : (usersL a k n).length <= n := by
  unfold usersL
  rw [List.length_map]
  exact Nat.le_trans (List.length_filter_le _ _) (by simp)
theorem usersL_succ (a : TL) (k : Int) (n : Nat) : usersL a k (n + 1) = usersL a k n ++ (if usesB (gd a.fC n) k = true then [(n : Int)] else []) := by
  unfold usersL
  rw [List.range_succ, List.filter_append, List.map_append]
  cases h : usesB (gd a.fC n) k <;> simp [h]
theorem usersL_any (a : TL) (k : Int) : decide (0 < (usersL a k a.fC.length).length) = placedB a k := by
  unfold usersL placedB
  rw [Bool.eq_iff_iff, decide_eq_true_eq, List.length_map, List.length_pos_iff_exists_mem, List.any_eq_true]
  simp [List.mem_filter]
theorem hasCell_ok (a : TL) (k : Int) (h : SmallL a) : Fq138 a k = some (okLib a && wB k 0 ((a.fC.length : Int) - 1)) := by
  have hl := h.cells
  unfold Fq138
  rw [impl_IsValidLibrary_ok _ h]
  simp only [obs, lq, s_ofN, eL_]
  rw [sub_id (by omega) (by omega), impl_within_ok]
  cases okLib a <;> rfl
theorem impl_UsersOf_ok (a : TL) (k : Int) (h : SmallL a) : Fq29 a k = some (if okLib a && wB k 0 ((a.fC.length : Int) - 1) then usersL a k a.fC.length else []) := by
  have hc := h.cells
  unfold Fq29
  rw [show TL.mk a.fC = a from rfl, hasCell_ok a k h, obs]
  cases okLib a && wB k 0 ((a.fC.length : Int) - 1) with
  | false => rfl
  | true =>
    simp only [lq, Bool.not_true, br_f, if_true]
    refine Eq.trans (bind_of (while_from (r := usersL a k a.fC.length) (fun i => ((i : Int), usersL a k i)) a.fC.length rfl (fun i hi => ?_) ?_)) rfl
    · have hi2 := (h.cell _ (gd_mem hi)).insts
      have hu := usersL_len a k i
      simp only [Lq29_x7, lq, s_toNn]
      rw [ltl_t hi, br_t, ro_ (inRl hi), impl_uses_ok _ _ (by omega), obs, inc_nat (by omega), usersL_succ]
      cases usesB (gd a.fC i) k with
      | false => simp [br]
      | true =>
        rw [br_t, ro_ (show std.room (std.nadd (len (usersL a k i)) (len [(i : Int)])) 8 from ?_)]
        · rfl
        · rw [s_nadd, eL_, eL_, List.length_singleton]
          show _ * 8 <= 35184372088832
          omega
    · simp only [Lq29_x7, lq]
      rw [ltl_f, br_f]
/-- names -/
theorem seq_eq {x y s : ByteArray} (h : std.seq x s = true) (g : std.seq y s = true) : std.seq x y = true := by
  have h1 : (x.toList == s.toList) = true := h
  have h2 : (y.toList == s.toList) = true := g
  show (x.toList == y.toList) = true
  rw [eq_of_beq h1, eq_of_beq h2]
  exact beq_self_eq_true _
theorem okLib_fresh {a : TL} (hv : okLib a = true) {j k : Nat} (hk : k < a.fC.length) (hj : j < k) : std.seq (gd a.fC j).fN (gd a.fC k).fN = false := by
  unfold okLib at hv
  simp only [Bool.and_eq_true, List.all_eq_true] at hv
  have := (hv.2.2 k (List.mem_range.2 hk)).2
  unfold fresh at this
  rw [List.all_eq_true] at this
  simpa using this j (List.mem_range.2 hj)
theorem seq_comm {x y : ByteArray} (h : std.seq x y = true) : std.seq y x = true := seq_eq (seq_self y) h
theorem name_once {a : TL} (hv : okLib a = true) {s : ByteArray} {j k : Nat} (hj : j < a.fC.length) (hk : k < a.fC.length) (h : std.seq (gd a.fC j).fN s = true) (g : std.seq (gd a.fC k).fN s = true) : j = k := by
  rcases Nat.lt_trichotomy j k with h1 | h1 | h1
  · have := okLib_fresh hv hk h1
    rw [seq_eq h g] at this; cases this
  · exact h1
  · have := okLib_fresh hv hj h1
    rw [seq_eq g h] at this; cases this
theorem named_other {a : TL} (hv : okLib a = true) (k : Nat) (hk : k < a.fC.length) (s : ByteArray) : (std.le 0 (namedI a.fC s) && std.not (std.eq (namedI a.fC s) (k : Int))) = othN a.fC (k : Int) s := by
  unfold namedI firstI
  cases h : (List.range a.fC.length).find? (fun i => std.seq (gd a.fC i).fN s) with
  | none =>
    rw [List.find?_eq_none] at h
    have : othN a.fC (k : Int) s = false := by
      unfold othN
      rw [List.any_eq_false]
      intro i hi
      have := h i hi
      simp [this]
    rw [this]; rfl
  | some i =>
    have h1 := List.find?_some h
    have h2 := List.mem_range.1 (List.mem_of_find?_eq_some h)
    simp only at h1 ⊢
    rw [show std.le 0 (i : Int) = true from le_true (by omega), Bool.true_and]
    unfold othN
    by_cases hik : i = k
    · subst hik
      rw [eq_true' rfl]
      symm
      show _ = false
      rw [List.any_eq_false]
      intro j hj
      by_cases hji : j = i
      · subst hji; rw [eq_true' rfl]; simp [s_not]
      · intro hc
        rw [Bool.and_eq_true] at hc
        exact hji (name_once hv (List.mem_range.1 hj) h2 hc.2 h1)
    · rw [eq_false' (by omega)]
      symm
      show _ = true
      rw [List.any_eq_true]
      exact ⟨i, List.mem_range.2 h2, by rw [eq_false' (by omega), h1]; rfl⟩
theorem named_any (a : TL) (s : ByteArray) : std.le 0 (namedI a.fC s) = othN a.fC (-1) s := by
  unfold namedI othN
  rw [firstI_any]
  refine congrArg (fun f => (List.range a.fC.length).any f) ?_
  funext i
  rw [eq_false' (by omega)]
  rfl
/- the code of an edit, and its inverse -/
def insC (i n m : Int) : Int := if n < i then 2 else if n = m then 3 else 0
def delC (i n : Int) : Int := if n <= i then 5 else 0
def eCode (a : TL) (e : TE) : Int :=
  if (okLib a && okEdit e) = false then 1
  else if e.fk_ = 8 then (if (a.fC.length : Int) < e.fc then 5 else if (a.fC.length : Int) = 8 then 3 else if othN a.fC (-1) e.fN = true then 6 else 0)
  else if (a.fC.length : Int) <= e.fc then 5
  else if e.fk_ = 1 then insC e.fx (gd a.fC e.fc.toNat).fS.length 24
  else if e.fk_ = 2 then delC e.fx (gd a.fC e.fc.toNat).fS.length
  else if e.fk_ = 3 then insC e.fx (gd a.fC e.fc.toNat).fL.length 8
  else if e.fk_ = 4 then delC e.fx (gd a.fC e.fc.toNat).fL.length
  else if e.fk_ = 5 then (if insC e.fx (gd a.fC e.fc.toNat).fI.length 8 = 0 /\ e.fc <= e.fi_.fc then 6 else insC e.fx (gd a.fC e.fc.toNat).fI.length 8)
  else if e.fk_ = 6 then delC e.fx (gd a.fC e.fc.toNat).fI.length
  else if e.fk_ = 7 then (if othN a.fC e.fc e.fN = true then 6 else 0)
  else (if (a.fC.length : Int) = 1 \/ 0 < (gd a.fC e.fc.toNat).fS.length + (gd a.fC e.fc.toNat).fL.length + (gd a.fC e.fc.toNat).fI.length \/ placedB a e.fc = true then 6 else 0)
theorem okEdit_kind {e : TE} (h : okEdit e = true) : (e.fk_ = 1 \/ e.fk_ = 2 \/ e.fk_ = 3 \/ e.fk_ = 4 \/ e.fk_ = 5 \/ e.fk_ = 6 \/ e.fk_ = 7 \/ e.fk_ = 8 \/ e.fk_ = 9) /\ 0 <= e.fc /\ 0 <= e.fx := by
  unfold okEdit at h
  rw [Bool.and_eq_true, Bool.and_eq_true] at h
  obtain ⟨⟨h1, h2⟩, h3⟩ := h
  have e1 : 0 <= e.fc := by unfold wB at h1; simp [std] at h1; exact h1.1
  have e2 : 0 <= e.fx := by unfold wB at h2; simp [std] at h2; exact h2.1
  refine ⟨?_, e1, e2⟩
  by_cases hk : 1 <= e.fk_ /\ e.fk_ <= 9
  · omega
  · exfalso
    have n1 : ¬ e.fk_ = 1 := by omega
    have n2 : ¬ e.fk_ = 2 := by omega
    have n3 : ¬ e.fk_ = 3 := by omega
    have n4 : ¬ e.fk_ = 4 := by omega
    have n5 : ¬ e.fk_ = 5 := by omega
    have n6 : ¬ e.fk_ = 6 := by omega
    have n7 : ¬ e.fk_ = 7 := by omega
    have n8 : ¬ e.fk_ = 8 := by omega
    have n9 : ¬ e.fk_ = 9 := by omega
    simp only [n1, n2, n3, n4, n5, n6, n7, n8, n9, or_self, if_false] at h3
    cases h3
theorem br_dec {β : Type} {p : Prop} [Decidable p] (x y : Option β) : br (decide p) x y = if p then x else y := by
  by_cases h : p
  · rw [decide_eq_true h, if_pos h]; rfl
  · rw [decide_eq_false h, if_neg h]; rfl
theorem okLib_len {a : TL} (hv : okLib a = true) : 1 <= a.fC.length /\ a.fC.length <= 8 := by
  unfold okLib at hv
  simp only [Bool.and_eq_true, decide_eq_true_eq] at hv
  exact ⟨hv.1, hv.2.1⟩
theorem okLib_cell {a : TL} (hv : okLib a = true) {k : Nat} (hk : k < a.fC.length) : (gd a.fC k).fS.length <= 24 /\ (gd a.fC k).fL.length <= 8 /\ (gd a.fC k).fI.length <= 8 := by
  unfold okLib at hv
  simp only [Bool.and_eq_true, List.all_eq_true] at hv
  have := (hv.2.2 k (List.mem_range.2 hk)).1
  unfold okCell at this
  simp only [Bool.and_eq_true, decide_eq_true_eq] at this
  exact ⟨this.2.1, this.2.2.1, this.2.2.2.1⟩
theorem add3 {x y z : Nat} (h : x <= 1000 /\ y <= 1000 /\ z <= 1000) : std.add .i64 (std.add .i64 (x : Int) (y : Int)) (z : Int) = ((x + y + z : Nat) : Int) := by
  rw [add_id (x := (x : Int)) (y := (y : Int)) (by omega) (by omega), add_id (by omega) (by omega)]
  omega
set_option maxHeartbeats 4000000 in
theorem spec_l13Code_ok (a : TL) (e : TE) (h : SmallL a) (g : SmallE e) : Fq140 a e = some (eCode a e) := by
  have hm := maxLen_eq
  unfold Fq140
  rw [show TL.mk a.fC = a from rfl, spec_IsValidLibrary_ok a h, spec_IsValidEdit_ok e (by have := g.name; omega) (by have := g.lname; omega), obs, obs]
  cases hv : okLib a with
  | false => unfold eCode; rw [hv]; rfl
  | true =>
    cases he : okEdit e with
    | false => unfold eCode; rw [hv, he]; rfl
    | true =>
      obtain ⟨hk, hc, hi⟩ := okEdit_kind he
      have hl := okLib_len hv
      unfold eCode
      rw [hv, he]
      obtain ⟨kind, cell, index, name, shape, label, inst⟩ := e
      simp only at hk hc hi ⊢
      simp only [Bool.not_true, br_f, obs, lq, Bool.and_self, s_le, s_eq, s_lt, br_dec, s_ofN, eL_, s_not]
      by_cases hn : (a.fC.length : Int) <= cell
      · unfold Fq144
        rw [spec_l13Named_ok a _ _ (by have := h.cells; omega)]
        simp only [Bool.not_true, br_f, obs, lq, s_le, s_eq, s_lt, br_dec, s_ofN, eL_, s_not]
        rcases hk with rfl | rfl | rfl | rfl | rfl | rfl | rfl | rfl | rfl <;> simp [hn, br_bool]
        all_goals (repeat' split) <;> simp_all
      · obtain ⟨m, rfl⟩ := Int.eq_ofNat_of_zero_le hc
        have hm2 : m < a.fC.length := by omega
        have hcl := okLib_cell hv hm2
        have hin : std.inR (m : Int) a.fC.length := ⟨by omega, by omega⟩
        unfold Fq144 Fq156
        rw [spec_l13Named_ok a _ _ (by have := h.cells; omega), spec_l13Placed_ok a _ h, spec_l13Named_ok a _ _ (by have := h.cells; omega)]
        simp only [Bool.not_true, br_f, obs, lq, s_le, s_eq, s_lt, br_dec, s_ofN, eL_, s_not, s_toNn, ro_ (inRl hm2), add3 (show (gd a.fC m).fS.length <= 1000 /\ (gd a.fC m).fL.length <= 1000 /\ (gd a.fC m).fI.length <= 1000 by omega)]
        cases hpb : placedB a (m : Int) <;> rcases hk with rfl | rfl | rfl | rfl | rfl | rfl | rfl | rfl | rfl <;> simp [hn, br_bool, insC, delC, Int.toNat_natCast]
        all_goals (try simp only [ro_ hin])
        all_goals (repeat' split)
        all_goals (first | rfl | (simp_all; done) | omega | (simp_all; omega))
set_option maxHeartbeats 4000000 in
theorem impl_editCode_ok (a : TL) (e : TE) (h : SmallL a) (g : SmallE e) : Fq143 a e = some (eCode a e) := by
  have hm := maxLen_eq
  unfold Fq143
  rw [show TL.mk a.fC = a from rfl, impl_IsValidLibrary_ok a h, impl_IsValidEdit_ok e (by have := g.name; omega) (by have := g.lname; omega), obs, obs]
  cases hv : okLib a with
  | false => unfold eCode; rw [hv]; rfl
  | true =>
    cases he : okEdit e with
    | false => unfold eCode; rw [hv, he]; rfl
    | true =>
      obtain ⟨hk, hc, hi⟩ := okEdit_kind he
      have hl := okLib_len hv
      unfold eCode
      rw [hv, he]
      obtain ⟨kind, cell, index, name, shape, label, inst⟩ := e
      simp only at hk hc hi ⊢
      rw [impl_named_ok a name (by have := h.cells; omega)]
      simp only [Bool.not_true, br_f, obs, lq, Bool.and_self]
      by_cases hn : (a.fC.length : Int) <= cell
      · simp only [named_any]
        simp only [s_le, s_eq, s_lt, br_dec, s_ofN, eL_, s_not]
        rcases hk with rfl | rfl | rfl | rfl | rfl | rfl | rfl | rfl | rfl <;> simp [hn, br_bool]
        all_goals (repeat' split) <;> simp_all
      · obtain ⟨m, rfl⟩ := Int.eq_ofNat_of_zero_le hc
        have hm2 : m < a.fC.length := by omega
        have hcl := okLib_cell hv hm2
        have hin : std.inR (m : Int) a.fC.length := ⟨by omega, by omega⟩
        have hno := named_other hv m hm2 name
        have hw : wB (m : Int) 0 ((a.fC.length : Int) - 1) = true := by
          unfold wB
          rw [le_true (show (0 : Int) <= (m : Int) by omega), le_true (show (m : Int) <= (a.fC.length : Int) - 1 by omega)]
          rfl
        have hpl : decide ((0 : Int) < ((usersL a (m : Int) a.fC.length).length : Int)) = placedB a (m : Int) := by
          rw [<- usersL_any a (m : Int)]
          exact decide_eq_decide.2 (by omega)
        unfold Fq103 Fq104
        rw [impl_UsersOf_ok a _ h, hv, hw, Bool.and_self, if_pos rfl, obs]
        rw [show (((br (std.le 0 (namedI a.fC name)) (some (std.not (std.eq (namedI a.fC name) (m : Int)))) (some false)) : Option Bool)) = some (othN a.fC (m : Int) name) from by rw [<- hno]; cases std.le 0 (namedI a.fC name) <;> rfl]
        simp only [named_any]
        simp only [Bool.not_true, br_f, obs, lq, s_le, s_eq, s_lt, br_dec, s_ofN, eL_, s_not, s_toNn, ro_ (inRl hm2), add3 (show (gd a.fC m).fS.length <= 1000 /\ (gd a.fC m).fL.length <= 1000 /\ (gd a.fC m).fI.length <= 1000 by omega)]
        rw [hpl]
        cases hpb : placedB a (m : Int) <;> rcases hk with rfl | rfl | rfl | rfl | rfl | rfl | rfl | rfl | rfl <;> simp [hn, br_bool, insC, delC, Int.toNat_natCast]
        all_goals (try simp only [ro_ hin])
        all_goals (repeat' split)
        all_goals (first | rfl | (simp_all; done) | omega | (simp_all; omega))
/- the inverse: both sides -/
theorem eCode_zero {a : TL} {e : TE} (hc : eCode a e = 0) : okLib a = true /\ okEdit e = true /\ (e.fk_ ≠ 8 -> ∃ m : Nat, e.fc = (m : Int) /\ m < a.fC.length) := by
  have hb : (okLib a && okEdit e) = true := by
    cases h : (okLib a && okEdit e) with
    | true => rfl
    | false => exfalso; unfold eCode at hc; rw [if_pos h] at hc; exact absurd hc (by decide)
  rw [Bool.and_eq_true] at hb
  obtain ⟨hv, he⟩ := hb
  refine ⟨hv, he, fun h8 => ?_⟩
  obtain ⟨_, h1, _⟩ := okEdit_kind he
  obtain ⟨m, hm⟩ := Int.eq_ofNat_of_zero_le h1
  refine ⟨m, hm, ?_⟩
  unfold eCode at hc
  rw [if_neg (by rw [hv, he]; decide), if_neg h8] at hc
  by_cases hn : (a.fC.length : Int) <= e.fc
  · rw [if_pos hn] at hc; exact absurd hc (by decide)
  · omega
theorem eCode_index {a : TL} {e : TE} {m : Nat} (hc : eCode a e = 0) (hm : e.fc = (m : Int)) (hlt : m < a.fC.length) : (e.fk_ = 2 -> ∃ q : Nat, e.fx = (q : Int) /\ q < (gd a.fC m).fS.length) /\ (e.fk_ = 4 -> ∃ q : Nat, e.fx = (q : Int) /\ q < (gd a.fC m).fL.length) /\ (e.fk_ = 6 -> ∃ q : Nat, e.fx = (q : Int) /\ q < (gd a.fC m).fI.length) := by
  obtain ⟨hv, he, _⟩ := eCode_zero hc
  obtain ⟨_, _, h2⟩ := okEdit_kind he
  obtain ⟨q, hq⟩ := Int.eq_ofNat_of_zero_le h2
  unfold eCode at hc
  rw [if_neg (by rw [hv, he]; decide)] at hc
  have key : ∀ n : Nat, delC e.fx n = 0 -> q < n := fun n h => by
    unfold delC at h
    by_cases hh : (n : Int) <= e.fx
    · rw [if_pos hh] at h; exact absurd h (by decide)
    · omega
  have hn : ¬ (a.fC.length : Int) <= e.fc := by omega
  have ht : e.fc.toNat = m := by omega
  rw [ht] at hc
  refine ⟨fun hk => ⟨q, hq, ?_⟩, fun hk => ⟨q, hq, ?_⟩, fun hk => ⟨q, hq, ?_⟩⟩
  · rw [if_neg (by omega), if_neg hn, if_neg (by omega), if_pos hk] at hc; exact key _ hc
  · rw [if_neg (by omega), if_neg hn, if_neg (by omega), if_neg (by omega), if_neg (by omega), if_pos hk] at hc; exact key _ hc
  · rw [if_neg (by omega), if_neg hn, if_neg (by omega), if_neg (by omega), if_neg (by omega), if_neg (by omega), if_neg (by omega), if_pos hk] at hc; exact key _ hc
def zSh : TS := ⟨0, ⟨0, 0, 0, 0⟩⟩
def zLa : TB := ⟨0, ⟨0, 0⟩, ByteArray.mk #[]⟩
def zIn : TI := ⟨0, ⟨0, 0, 0⟩, 0, 0, 0, 0⟩
theorem eqd (x y : Int) : std.eq x y = decide (x = y) := s_eq x y
set_option maxHeartbeats 4000000 in
theorem inverse_same (a : TL) (e : TE) (hc : eCode a e = 0) : ∃ x, Fq35 a e = some x /\ Fq40 a e = some x := by
  obtain ⟨hv, he, hcell⟩ := eCode_zero hc
  obtain ⟨hk, h1, hi⟩ := okEdit_kind he
  by_cases h8 : e.fk_ = 8
  · obtain ⟨kind, cell, index, name, shape, label, inst⟩ := e
    simp only at h8
    subst h8
    exact ⟨_, rfl, rfl⟩
  · obtain ⟨m, hm, hlt⟩ := hcell h8
    obtain ⟨i2, i4, i6⟩ := eCode_index hc hm hlt
    clear hc he
    obtain ⟨kind, cell, index, name, shape, label, inst⟩ := e
    simp only at hk h1 hi h8 hm i2 i4 i6
    subst hm
    rcases hk with rfl | rfl | rfl | rfl | rfl | rfl | rfl | rfl | rfl
    · exact ⟨_, rfl, rfl⟩
    · obtain ⟨q, rfl, hq⟩ := i2 rfl
      refine ⟨TE.mk 1 m q (ByteArray.mk #[]) (gd (gd a.fC m).fS q) zLa zIn, ?_, ?_⟩
      · unfold Fq35
        simp only [s_toNn, ro_ (inRl hlt), ro_ (inRl hq)]
        rfl
      · unfold Fq40
        simp only [s_toNn, ro_ (inRl hlt), ro_ (inRl hq)]
        rfl
    · exact ⟨_, rfl, rfl⟩
    · obtain ⟨q, rfl, hq⟩ := i4 rfl
      refine ⟨TE.mk 3 m q (ByteArray.mk #[]) zSh (gd (gd a.fC m).fL q) zIn, ?_, ?_⟩
      · unfold Fq35
        simp only [s_toNn, ro_ (inRl hlt), ro_ (inRl hq)]
        rfl
      · unfold Fq40
        simp only [s_toNn, ro_ (inRl hlt), ro_ (inRl hq)]
        rfl
    · exact ⟨_, rfl, rfl⟩
    · obtain ⟨q, rfl, hq⟩ := i6 rfl
      refine ⟨TE.mk 5 m q (ByteArray.mk #[]) zSh zLa (gd (gd a.fC m).fI q), ?_, ?_⟩
      · unfold Fq35
        simp only [s_toNn, ro_ (inRl hlt), ro_ (inRl hq)]
        rfl
      · unfold Fq40
        simp only [s_toNn, ro_ (inRl hlt), ro_ (inRl hq)]
        rfl
    · refine ⟨TE.mk 7 m index (gd a.fC m).fN zSh zLa zIn, ?_, ?_⟩
      · unfold Fq35
        simp only [s_toNn, ro_ (inRl hlt)]
        rfl
      · unfold Fq40
        simp only [s_toNn, ro_ (inRl hlt)]
        rfl
    · exact absurd rfl h8
    · refine ⟨TE.mk 8 m index (gd a.fC m).fN zSh zLa zIn, ?_, ?_⟩
      · unfold Fq35
        simp only [s_toNn, ro_ (inRl hlt)]
        rfl
      · unfold Fq40
        simp only [s_toNn, ro_ (inRl hlt)]
        rfl
/- copies of libraries -/
theorem roomC {n b : Nat} (hn : n <= 10000000) (hb : b <= 1000) : std.room n b := by
  rw [s_room]
  exact Nat.le_trans (Nat.mul_le_mul hn hb) (by omega)
theorem cloneShape_ok (l : List TS) (h : l.length <= 10000000) : Fq120 l = some l := by
  unfold Fq120 nilB
  have e : (letO ([] : List TS) fun l1 => req (std.room (std.nadd (len l1) (len l)) 40) <| letO (l1 ++ l) fun l3 => some l3) = some l := by
    simp only [lq]
    rw [ro_ (roomC (by rw [s_nadd, eL_, eL_]; simp; omega) (by omega)), List.nil_append]
  rw [e]
  by_cases h0 : l.length = 0
  · rw [List.length_eq_zero_iff.1 h0]; simp
  · rw [if_neg (by rw [eL_]; omega)]
theorem cloneLabel_ok (l : List TB) (h : l.length <= 10000000) : Fq121 l = some l := by
  unfold Fq121 nilB
  have e : (letO ([] : List TB) fun l1 => req (std.room (std.nadd (len l1) (len l)) 40) <| letO (l1 ++ l) fun l3 => some l3) = some l := by
    simp only [lq]
    rw [ro_ (roomC (by rw [s_nadd, eL_, eL_]; simp; omega) (by omega)), List.nil_append]
  rw [e]
  by_cases h0 : l.length = 0
  · rw [List.length_eq_zero_iff.1 h0]; simp
  · rw [if_neg (by rw [eL_]; omega)]
theorem cloneInstance_ok (l : List TI) (h : l.length <= 10000000) : Fq126 l = some l := by
  unfold Fq126 nilB
  have e : (letO ([] : List TI) fun l1 => req (std.room (std.nadd (len l1) (len l)) 64) <| letO (l1 ++ l) fun l3 => some l3) = some l := by
    simp only [lq]
    rw [ro_ (roomC (by rw [s_nadd, eL_, eL_]; simp; omega) (by omega)), List.nil_append]
  rw [e]
  by_cases h0 : l.length = 0
  · rw [List.length_eq_zero_iff.1 h0]; simp
  · rw [if_neg (by rw [eL_]; omega)]
theorem impl_copyCell_ok (c : TC) (h : SmallC c) : Fq132 c = some c := by
  have h1 := h.shapes
  have h2 := h.labels
  have h3 := h.insts
  unfold Fq132
  rw [cloneShape_ok _ (by omega), obs, cloneLabel_ok _ (by omega), obs, cloneInstance_ok _ (by omega), obs]
theorem spec_CopyCell_ok (c : TC) (h : SmallC c) : Fq130 c = some c := by
  have h1 := h.shapes
  have h2 := h.labels
  have h3 := h.insts
  unfold Fq130
  simp only [lq]
  rw [ro_ (roomC (by rw [s_nadd, eL_, eL_, List.length_nil]; omega) (by omega)), ro_ (roomC (by rw [s_nadd, eL_, eL_, List.length_nil]; omega) (by omega)), ro_ (roomC (by rw [s_nadd, eL_, eL_, List.length_nil]; omega) (by omega))]
  rfl
theorem impl_copyLibrary_ok (a : TL) (h : SmallL a) : Fq43 a = some a := by
  have hl := h.cells
  unfold Fq43
  rw [show whileP (Lq43_x3 a) (0, ([] : List TC)) = some a.fC from ?_]
  · rfl
  refine while_from (fun i => ((i : Int), a.fC.take i)) a.fC.length rfl (fun i hi => ?_) ?_
  · simp only [Lq43_x3, lq]
    rw [ltl_t hi, br_t, ro_ (inRl hi), s_toNn, impl_copyCell_ok _ (h.cell _ (gd_mem hi)), obs, ro_ (roomC (by rw [s_nadd, eL_, eL_, List.length_take, List.length_singleton]; omega) (by omega)), obs, inc_nat (by omega), List.take_succ_eq_append_getElem hi, gd_lt hi]
  · simp only [Lq43_x3, lq]
    rw [ltl_f, br_f, List.take_length]
theorem spec_Copy_ok (a : TL) (h : SmallL a) : Fq23 a = some a := by
  have hl := h.cells
  unfold Fq23
  rw [show whileP (Lq23_x3 a) (0, ([] : List TC)) = some a.fC from ?_]
  · rfl
  refine while_from (fun i => ((i : Int), a.fC.take i)) a.fC.length rfl (fun i hi => ?_) ?_
  · simp only [Lq23_x3, lq]
    rw [ltl_t hi, br_t, ro_ (inRl hi), s_toNn, spec_CopyCell_ok _ (h.cell _ (gd_mem hi)), obs, ro_ (roomC (by rw [s_nadd, eL_, eL_, List.length_take, List.length_singleton]; omega) (by omega)), obs, inc_nat (by omega), List.take_succ_eq_append_getElem hi, gd_lt hi]
  · simp only [Lq23_x3, lq]
    rw [ltl_f, br_f, List.take_length]
/- what the marks write -/
theorem gd_set_selfM {α : Type} [Inhabited α] (l : List α) (i : Nat) (x : α) (h : i < l.length) : gd (l.set i x) i = x := by
  rw [gd_lt (by simpa using h)]; simp
theorem req_reflM {α β : Type} (x : α) (k : Option β) : req (x = x) k = k := ro_ rfl
theorem markText_ex (n : Nat) (h : n <= 1000000000000000) : ∃ s, Fq5 (n : Int) = some s /\ s.size <= 20 := by
  unfold Fq5
  by_cases h0 : n = 0
  · subst h0
    exact ⟨_, rfl, by decide⟩
  · rw [le_false (by omega), br_f]
    obtain ⟨r, h1, h2⟩ := while_ex (step := Lq5_x3) (x0 := ((n : Int), ByteArray.mk #[])) (fun x => ∃ v : Nat, x.1 = (v : Int) /\ v * 10 ^ x.2.size <= n /\ x.2.size <= 17) (fun r => r.size <= 17) (fun x => x.1.toNat) ⟨n, rfl, by simp [ByteArray.size], by simp [ByteArray.size]⟩ (by
      rintro ⟨x, s⟩ ⟨v, hv, hle, hs⟩
      simp only at hv hle hs
      subst hv
      simp only [Lq5_x3, lq]
      by_cases hp : 0 < v
      · have hs15 : s.size <= 15 := by
          rcases Nat.lt_or_ge s.size 16 with h | h
          · omega
          · have h3 : 10 ^ 16 <= 10 ^ s.size := Nat.pow_le_pow_right (by omega) h
            have h4 : 1 * 10 ^ s.size <= v * 10 ^ s.size := Nat.mul_le_mul_right _ hp
            have h5 : 10 ^ 16 = 10000000000000000 := by decide
            omega
        have nz : std.nz 10 := by rw [s_nz]; decide
        have hq : std.quo .i64 (v : Int) 10 = ((v / 10 : Nat) : Int) := by
          show IntKind.i64.wrap ((v : Int).tdiv 10) = _
          have e : (v : Int).tdiv 10 = ((v / 10 : Nat) : Int) := rfl
          have hv15 : v <= n := by
            have h4 : v * 1 <= v * 10 ^ s.size := Nat.mul_le_mul_left _ (Nat.pos_of_ne_zero (by simp))
            omega
          rw [e, wrap_id (by omega) (by omega)]
        have hsz : (std.scat (std.ofBytes (len [std.conv .u8 (std.add .i64 48 (std.rem (v : Int) 10))]) fun i => gd [std.conv .u8 (std.add .i64 48 (std.rem (v : Int) 10))] (0 + i)) s).size = s.size + 1 := by
          rw [scat_size]
          have := ofL_size [std.conv .u8 (std.add .i64 48 (std.rem (v : Int) 10))]
          unfold ofL at this
          rw [this]; simp; omega
        have hl1 : std.slen (std.ofBytes (len [std.conv .u8 (std.add .i64 48 (std.rem (v : Int) 10))]) fun i => gd [std.conv .u8 (std.add .i64 48 (std.rem (v : Int) 10))] (0 + i)) = 1 := by
          have := ofL_len [std.conv .u8 (std.add .i64 48 (std.rem (v : Int) 10))]
          unfold ofL at this
          rw [this]; rfl
        rw [lt_true (by omega), br_t, ro_ nz, hl1, ro_ (room1 (by rw [s_slen]; omega)), ro_ nz, hq]
        refine .inl ⟨_, rfl, ⟨v / 10, rfl, ?_, by simp only; rw [hsz]; omega⟩, by simp only [Int.toNat_natCast]; omega⟩
        simp only
        rw [hsz, Nat.pow_succ]
        have h6 : v / 10 * 10 <= v := by omega
        have h7 : v / 10 * (10 ^ s.size * 10) = (v / 10 * 10) * 10 ^ s.size := by rw [Nat.mul_comm (10 ^ s.size) 10, Nat.mul_assoc]
        rw [h7]
        exact Nat.le_trans (Nat.mul_le_mul_right _ h6) hle
      · rw [lt_false (by omega), br_f]
        exact .inr ⟨_, rfl, hs⟩)
    rw [h1]
    simp only [obs, lq]
    have h1' : (ByteArray.mk #[109]).size = 1 := rfl
    rw [ro_ (room1 (by rw [s_slen, s_slen, h1']; omega))]
    exact ⟨_, rfl, by rw [scat_size, h1']; omega⟩
def mkT (n : Nat) : ByteArray := (Fq5 (n : Int)).getD (ByteArray.mk #[])
theorem markText_ok (n : Nat) (h : n <= 1000000000000000) : Fq5 (n : Int) = some (mkT n) := by
  obtain ⟨s, hs, _⟩ := markText_ex n h
  unfold mkT
  rw [hs]; rfl
def mShape (k i : Nat) : TS := ⟨((k + 5 * i : Nat) : Int), ⟨((k + 5 * i + 1 : Nat) : Int), ((k + 5 * i + 1 + 1 : Nat) : Int), ((k + 5 * i + 1 + 1 + 1 : Nat) : Int), ((k + 5 * i + 1 + 1 + 1 + 1 : Nat) : Int)⟩⟩
set_option maxHeartbeats 4000000 in
theorem markShapeS_ok (l : List TS) (k : Nat) (h : k + 5 * l.length <= 1000000000000000) : Fq78 l k = some (((k + 5 * l.length : Nat) : Int), (List.range l.length).map (mShape k)) := by
  unfold Fq78
  refine Eq.trans (bind_of (while_from (r := (((k + 5 * l.length : Nat) : Int), (List.range l.length).map (mShape k))) (fun i => (((k + 5 * i : Nat) : Int), (i : Int), markd (mShape k) l i)) l.length (by simp [markd_zero]) (fun i hi => ?_) ?_)) ?_
  · have hml : (markd (mShape k) l i).length = l.length := markd_len _ _ _ (by omega)
    have hmi : i < (markd (mShape k) l i).length := by rw [hml]; exact hi
    have hin : std.inR (i : Int) l.length := inRl hi
    have hlt : std.lt (i : Int) (std.ofN l.length) = true := ltl_t hi
    have a1 : std.add .i64 ((k + 5 * i : Nat) : Int) 1 = ((k + 5 * i + 1 : Nat) : Int) := inc_nat (by omega)
    have a2 : std.add .i64 ((k + 5 * i + 1 : Nat) : Int) 1 = ((k + 5 * i + 1 + 1 : Nat) : Int) := inc_nat (by omega)
    have a3 : std.add .i64 ((k + 5 * i + 1 + 1 : Nat) : Int) 1 = ((k + 5 * i + 1 + 1 + 1 : Nat) : Int) := inc_nat (by omega)
    have a4 : std.add .i64 ((k + 5 * i + 1 + 1 + 1 : Nat) : Int) 1 = ((k + 5 * i + 1 + 1 + 1 + 1 : Nat) : Int) := inc_nat (by omega)
    have a5 : std.add .i64 ((k + 5 * i + 1 + 1 + 1 + 1 : Nat) : Int) 1 = ((k + 5 * i + 1 + 1 + 1 + 1 + 1 : Nat) : Int) := inc_nat (by omega)
    have b1 : std.add .i64 (i : Int) 1 = ((i + 1 : Nat) : Int) := inc_nat (by omega)
    simp only [Lq78_x4, lq, s_toNn, s_nadd, Nat.zero_add, eL_, List.length_set, hml, hlt, br_t, ro_ hin, req_reflM, List.set_set, gd_set_selfM _ _ _ hmi, a1, a2, a3, a4, a5, b1]
    try simp only [req_true]
    rw [<- markd_set (mShape k) l i hi]
    rfl
  · simp only [Lq78_x4, lq]
    rw [ltl_f, br_f, markd_full]
  · simp only [lq]
    rw [ro_ (by simp [eL_])]
def mLabel (k i : Nat) : TB := ⟨((k + 4 * i : Nat) : Int), ⟨((k + 4 * i + 1 : Nat) : Int), ((k + 4 * i + 1 + 1 : Nat) : Int)⟩, mkT (k + 4 * i + 1 + 1 + 1)⟩
set_option maxHeartbeats 4000000 in
theorem markLabelS_ok (l : List TB) (k : Nat) (h : k + 4 * l.length <= 1000000000000000) : Fq67 l k = some (((k + 4 * l.length : Nat) : Int), (List.range l.length).map (mLabel k)) := by
  unfold Fq67
  refine Eq.trans (bind_of (while_from (r := (((k + 4 * l.length : Nat) : Int), (List.range l.length).map (mLabel k))) (fun i => (((k + 4 * i : Nat) : Int), (i : Int), markd (mLabel k) l i)) l.length (by simp [markd_zero]) (fun i hi => ?_) ?_)) ?_
  · have hml : (markd (mLabel k) l i).length = l.length := markd_len _ _ _ (by omega)
    have hmi : i < (markd (mLabel k) l i).length := by rw [hml]; exact hi
    have hin : std.inR (i : Int) l.length := inRl hi
    have hlt : std.lt (i : Int) (std.ofN l.length) = true := ltl_t hi
    have a1 : std.add .i64 ((k + 4 * i : Nat) : Int) 1 = ((k + 4 * i + 1 : Nat) : Int) := inc_nat (by omega)
    have a2 : std.add .i64 ((k + 4 * i + 1 : Nat) : Int) 1 = ((k + 4 * i + 1 + 1 : Nat) : Int) := inc_nat (by omega)
    have a3 : std.add .i64 ((k + 4 * i + 1 + 1 : Nat) : Int) 1 = ((k + 4 * i + 1 + 1 + 1 : Nat) : Int) := inc_nat (by omega)
    have a4 : std.add .i64 ((k + 4 * i + 1 + 1 + 1 : Nat) : Int) 1 = ((k + 4 * i + 1 + 1 + 1 + 1 : Nat) : Int) := inc_nat (by omega)
    have b1 : std.add .i64 (i : Int) 1 = ((i + 1 : Nat) : Int) := inc_nat (by omega)
    have hT : Fq5 ((k + 4 * i + 1 + 1 + 1 : Nat) : Int) = some (mkT (k + 4 * i + 1 + 1 + 1)) := markText_ok _ (by omega)
    simp only [Lq67_x4, lq, s_toNn, s_nadd, Nat.zero_add, eL_, List.length_set, hml, hlt, br_t, ro_ hin, req_reflM, List.set_set, gd_set_selfM _ _ _ hmi, a1, a2, a3, a4, b1, hT, obs]
    try simp only [req_true]
    rw [<- markd_set (mLabel k) l i hi]
    rfl
  · simp only [Lq67_x4, lq]
    rw [ltl_f, br_f, markd_full]
  · simp only [lq]
    rw [ro_ (by simp [eL_])]
def mInstance (k i : Nat) : TI := ⟨((k + 8 * i : Nat) : Int), ⟨((k + 8 * i + 1 : Nat) : Int), ((k + 8 * i + 1 + 1 : Nat) : Int), ((k + 8 * i + 1 + 1 + 1 : Nat) : Int)⟩, ((k + 8 * i + 1 + 1 + 1 + 1 : Nat) : Int), ((k + 8 * i + 1 + 1 + 1 + 1 + 1 : Nat) : Int), ((k + 8 * i + 1 + 1 + 1 + 1 + 1 + 1 : Nat) : Int), ((k + 8 * i + 1 + 1 + 1 + 1 + 1 + 1 + 1 : Nat) : Int)⟩
set_option maxHeartbeats 4000000 in
theorem markInstanceS_ok (l : List TI) (k : Nat) (h : k + 8 * l.length <= 1000000000000000) : Fq70 l k = some (((k + 8 * l.length : Nat) : Int), (List.range l.length).map (mInstance k)) := by
  unfold Fq70
  refine Eq.trans (bind_of (while_from (r := (((k + 8 * l.length : Nat) : Int), (List.range l.length).map (mInstance k))) (fun i => (((k + 8 * i : Nat) : Int), (i : Int), markd (mInstance k) l i)) l.length (by simp [markd_zero]) (fun i hi => ?_) ?_)) ?_
  · have hml : (markd (mInstance k) l i).length = l.length := markd_len _ _ _ (by omega)
    have hmi : i < (markd (mInstance k) l i).length := by rw [hml]; exact hi
    have hin : std.inR (i : Int) l.length := inRl hi
    have hlt : std.lt (i : Int) (std.ofN l.length) = true := ltl_t hi
    have a1 : std.add .i64 ((k + 8 * i : Nat) : Int) 1 = ((k + 8 * i + 1 : Nat) : Int) := inc_nat (by omega)
    have a2 : std.add .i64 ((k + 8 * i + 1 : Nat) : Int) 1 = ((k + 8 * i + 1 + 1 : Nat) : Int) := inc_nat (by omega)
    have a3 : std.add .i64 ((k + 8 * i + 1 + 1 : Nat) : Int) 1 = ((k + 8 * i + 1 + 1 + 1 : Nat) : Int) := inc_nat (by omega)
    have a4 : std.add .i64 ((k + 8 * i + 1 + 1 + 1 : Nat) : Int) 1 = ((k + 8 * i + 1 + 1 + 1 + 1 : Nat) : Int) := inc_nat (by omega)
    have a5 : std.add .i64 ((k + 8 * i + 1 + 1 + 1 + 1 : Nat) : Int) 1 = ((k + 8 * i + 1 + 1 + 1 + 1 + 1 : Nat) : Int) := inc_nat (by omega)
    have a6 : std.add .i64 ((k + 8 * i + 1 + 1 + 1 + 1 + 1 : Nat) : Int) 1 = ((k + 8 * i + 1 + 1 + 1 + 1 + 1 + 1 : Nat) : Int) := inc_nat (by omega)
    have a7 : std.add .i64 ((k + 8 * i + 1 + 1 + 1 + 1 + 1 + 1 : Nat) : Int) 1 = ((k + 8 * i + 1 + 1 + 1 + 1 + 1 + 1 + 1 : Nat) : Int) := inc_nat (by omega)
    have a8 : std.add .i64 ((k + 8 * i + 1 + 1 + 1 + 1 + 1 + 1 + 1 : Nat) : Int) 1 = ((k + 8 * i + 1 + 1 + 1 + 1 + 1 + 1 + 1 + 1 : Nat) : Int) := inc_nat (by omega)
    have b1 : std.add .i64 (i : Int) 1 = ((i + 1 : Nat) : Int) := inc_nat (by omega)
    simp only [Lq70_x4, lq, s_toNn, s_nadd, Nat.zero_add, eL_, List.length_set, hml, hlt, br_t, ro_ hin, req_reflM, List.set_set, gd_set_selfM _ _ _ hmi, a1, a2, a3, a4, a5, a6, a7, a8, b1]
    try simp only [req_true]
    rw [<- markd_set (mInstance k) l i hi]
    rfl
  · simp only [Lq70_x4, lq]
    rw [ltl_f, br_f, markd_full]
  · simp only [lq]
    rw [ro_ (by simp [eL_])]
/-- how many numbers the marks of a cell take -/
def wtC (c : TC) : Nat := 1 + 5 * c.fS.length + 4 * c.fL.length + 8 * c.fI.length
def mCell (c : TC) (K : Nat) : TC := ⟨mkT K, (List.range c.fS.length).map (mShape (K + 1)), (List.range c.fL.length).map (mLabel (K + 1 + 5 * c.fS.length)), (List.range c.fI.length).map (mInstance (K + 1 + 5 * c.fS.length + 4 * c.fL.length))⟩
def offC (l : List TC) : Nat -> Nat
  | 0 => 0
  | i + 1 => offC l i + wtC (gd l i)
theorem wtC_le {c : TC} (h : SmallC c) : wtC c <= 20000000 := by
  have h1 := h.shapes
  have h2 := h.labels
  have h3 := h.insts
  unfold wtC; omega
theorem offC_le {l : List TC} (hc : ∀ c ∈ l, SmallC c) : ∀ i, i <= l.length -> offC l i <= i * 20000000
  | 0, _ => by simp [offC]
  | i + 1, h => by
    have h1 := offC_le hc i (by omega)
    have h2 := wtC_le (hc _ (gd_mem (show i < l.length by omega)))
    show offC l i + wtC (gd l i) <= _
    omega
def mC (l : List TC) (k i : Nat) : TC := mCell (gd l i) (k + offC l i)
theorem markd_gdM {α : Type} [Inhabited α] (f : Nat -> α) (a : List α) (i : Nat) (h : i < a.length) : gd (markd f a i) i = gd a i := by
  unfold gd markd
  rw [List.getD_eq_getElem?_getD, List.getD_eq_getElem?_getD, List.getElem?_append_right (by simp)]
  simp
theorem markCellS_ok (l : List TC) (k : Nat) (hl : l.length <= 1048576) (hc : ∀ c ∈ l, SmallC c) (hk : k <= 100000000000000) : Fq80 l k = some (((k + offC l l.length : Nat) : Int), (List.range l.length).map (mC l k)) := by
  unfold Fq80
  refine Eq.trans (bind_of (while_from (r := (((k + offC l l.length : Nat) : Int), (List.range l.length).map (mC l k))) (fun i => (((k + offC l i : Nat) : Int), (i : Int), markd (mC l k) l i)) l.length (by simp [markd_zero, offC]) (fun i hi => ?_) ?_)) ?_
  · have ho := offC_le hc i (by omega)
    have h2 := wtC_le (hc _ (gd_mem hi))
    obtain ⟨c, hcd⟩ : ∃ c, c = gd l i := ⟨_, rfl⟩
    obtain ⟨K, hK⟩ : ∃ K, K = k + offC l i := ⟨_, rfl⟩
    rw [<- hcd] at h2
    unfold wtC at h2
    have hml : (markd (mC l k) l i).length = l.length := markd_len _ _ _ (by omega)
    have hmi : i < (markd (mC l k) l i).length := by rw [hml]; exact hi
    have hin : std.inR (i : Int) l.length := inRl hi
    have hlt : std.lt (i : Int) (std.ofN l.length) = true := ltl_t hi
    have hg : gd (markd (mC l k) l i) i = c := by rw [markd_gdM _ _ _ hi, hcd]
    have e1 : offC l (i + 1) = offC l i + wtC c := by rw [hcd]; rfl
    have hS := markShapeS_ok c.fS (K + 1) (by omega)
    have hL := markLabelS_ok c.fL (K + 1 + 5 * c.fS.length) (by omega)
    have hI := markInstanceS_ok c.fI (K + 1 + 5 * c.fS.length + 4 * c.fL.length) (by omega)
    have a1 : std.add .i64 ((K : Nat) : Int) 1 = ((K + 1 : Nat) : Int) := inc_nat (by omega)
    have b1 : std.add .i64 (i : Int) 1 = ((i + 1 : Nat) : Int) := inc_nat (by omega)
    have hT := markText_ok K (by omega)
    rw [<- hK]
    simp only [Lq80_x4, lq, s_toNn, s_nadd, Nat.zero_add, eL_, List.length_set, hml, hlt, br_t, hT, obs, ro_ hin, req_reflM, req_true, List.set_set, gd_set_selfM _ _ _ hmi, hg, a1, hS, hL, hI, List.length_map, List.length_range, b1]
    rw [e1, <- markd_set (mC l k) l i hi]
    have e2 : mC l k i = mCell c K := by unfold mC; rw [<- hcd, <- hK]
    have e3 : K + 1 + 5 * c.fS.length + 4 * c.fL.length + 8 * c.fI.length = k + (offC l i + wtC c) := by unfold wtC; omega
    rw [e2, e3]
    rfl
  · simp only [Lq80_x4, lq]
    rw [ltl_f, br_f, markd_full]
  · simp only [lq]
    rw [ro_ (by simp [eL_])]
theorem markLibrary_ok (a : TL) (k : Nat) (h : SmallL a) (hk : k <= 100000000000000) : Fq95 a k = some (((k + offC a.fC a.fC.length : Nat) : Int), (List.range a.fC.length).map (mC a.fC k)) := by
  unfold Fq95
  rw [markCellS_ok _ _ h.cells h.cell hk, obs, ro_ (by simp [eL_]), ro_ (by simp [eL_])]
/- what was marked is held -/
theorem heldLabelS_ok (n k : Nat) (h : k + 4 * n <= 1000000000000000) : Fq66 ((List.range n).map (mLabel k)) k = some ((k + 4 * n : Nat) : Int) := by
  unfold Fq66
  have hL : ((List.range n).map (mLabel k)).length = n := by simp
  refine Eq.trans (bind_of (while_from (r := .inr ((k + 4 * n : Nat) : Int)) (fun i => (((k + 4 * i : Nat) : Int), (i : Int))) n rfl (fun i hi => ?_) ?_)) rfl
  · have hin : std.inR (i : Int) n := inRn hi
    have hlt : std.lt (i : Int) (std.ofN n) = true := lt_true (by rw [s_ofN]; omega)
    have a1 : std.add .i64 ((k + 4 * i : Nat) : Int) 1 = ((k + 4 * i + 1 : Nat) : Int) := inc_nat (by omega)
    have a2 : std.add .i64 ((k + 4 * i + 1 : Nat) : Int) 1 = ((k + 4 * i + 1 + 1 : Nat) : Int) := inc_nat (by omega)
    have a3 : std.add .i64 ((k + 4 * i + 1 + 1 : Nat) : Int) 1 = ((k + 4 * i + 1 + 1 + 1 : Nat) : Int) := inc_nat (by omega)
    have a4 : std.add .i64 ((k + 4 * i + 1 + 1 + 1 : Nat) : Int) 1 = ((k + 4 * i + 1 + 1 + 1 + 1 : Nat) : Int) := inc_nat (by omega)
    have b1 : std.add .i64 (i : Int) 1 = ((i + 1 : Nat) : Int) := inc_nat (by omega)
    have hT : Fq5 ((k + 4 * i + 1 + 1 + 1 : Nat) : Int) = some (mkT (k + 4 * i + 1 + 1 + 1)) := markText_ok _ (by omega)
    simp only [Lq66_x3, lq, s_toNn, eL_, hL, hlt, br_t, ro_ hin, range_gd (mLabel k) n i hi, a1, a2, a3, a4, b1]
    simp only [mLabel, notEq (eq_true' rfl), br_f, hT, obs, seq_self, s_not, Bool.not_true]
    rfl
  · simp only [Lq66_x3, lq, eL_, hL]
    rw [lt_false (by rw [s_ofN]; omega), br_f]
/- what was marked is held -/
theorem heldShapeS_ok (n k : Nat) (h : k + 5 * n <= 1000000000000000) : Fq75 ((List.range n).map (mShape k)) k = some ((k + 5 * n : Nat) : Int) := by
  unfold Fq75
  have hL : ((List.range n).map (mShape k)).length = n := by simp
  refine Eq.trans (bind_of (while_from (r := .inr ((k + 5 * n : Nat) : Int)) (fun i => (((k + 5 * i : Nat) : Int), (i : Int))) n rfl (fun i hi => ?_) ?_)) rfl
  · have hin : std.inR (i : Int) n := inRn hi
    have hlt : std.lt (i : Int) (std.ofN n) = true := lt_true (by rw [s_ofN]; omega)
    have a1 : std.add .i64 ((k + 5 * i : Nat) : Int) 1 = ((k + 5 * i + 1 : Nat) : Int) := inc_nat (by omega)
    have a2 : std.add .i64 ((k + 5 * i + 1 : Nat) : Int) 1 = ((k + 5 * i + 1 + 1 : Nat) : Int) := inc_nat (by omega)
    have a3 : std.add .i64 ((k + 5 * i + 1 + 1 : Nat) : Int) 1 = ((k + 5 * i + 1 + 1 + 1 : Nat) : Int) := inc_nat (by omega)
    have a4 : std.add .i64 ((k + 5 * i + 1 + 1 + 1 : Nat) : Int) 1 = ((k + 5 * i + 1 + 1 + 1 + 1 : Nat) : Int) := inc_nat (by omega)
    have a5 : std.add .i64 ((k + 5 * i + 1 + 1 + 1 + 1 : Nat) : Int) 1 = ((k + 5 * i + 1 + 1 + 1 + 1 + 1 : Nat) : Int) := inc_nat (by omega)
    have b1 : std.add .i64 (i : Int) 1 = ((i + 1 : Nat) : Int) := inc_nat (by omega)
    simp only [Lq75_x3, lq, s_toNn, eL_, hL, hlt, br_t, ro_ hin, range_gd (mShape k) n i hi, a1, a2, a3, a4, a5, b1]
    simp only [mShape, notEq (eq_true' rfl), br_f]
    rfl
  · simp only [Lq75_x3, lq, eL_, hL]
    rw [lt_false (by rw [s_ofN]; omega), br_f]
theorem heldInstanceS_ok (n k : Nat) (h : k + 8 * n <= 1000000000000000) : Fq69 ((List.range n).map (mInstance k)) k = some ((k + 8 * n : Nat) : Int) := by
  unfold Fq69
  have hL : ((List.range n).map (mInstance k)).length = n := by simp
  refine Eq.trans (bind_of (while_from (r := .inr ((k + 8 * n : Nat) : Int)) (fun i => (((k + 8 * i : Nat) : Int), (i : Int))) n rfl (fun i hi => ?_) ?_)) rfl
  · have hin : std.inR (i : Int) n := inRn hi
    have hlt : std.lt (i : Int) (std.ofN n) = true := lt_true (by rw [s_ofN]; omega)
    have a1 : std.add .i64 ((k + 8 * i : Nat) : Int) 1 = ((k + 8 * i + 1 : Nat) : Int) := inc_nat (by omega)
    have a2 : std.add .i64 ((k + 8 * i + 1 : Nat) : Int) 1 = ((k + 8 * i + 1 + 1 : Nat) : Int) := inc_nat (by omega)
    have a3 : std.add .i64 ((k + 8 * i + 1 + 1 : Nat) : Int) 1 = ((k + 8 * i + 1 + 1 + 1 : Nat) : Int) := inc_nat (by omega)
    have a4 : std.add .i64 ((k + 8 * i + 1 + 1 + 1 : Nat) : Int) 1 = ((k + 8 * i + 1 + 1 + 1 + 1 : Nat) : Int) := inc_nat (by omega)
    have a5 : std.add .i64 ((k + 8 * i + 1 + 1 + 1 + 1 : Nat) : Int) 1 = ((k + 8 * i + 1 + 1 + 1 + 1 + 1 : Nat) : Int) := inc_nat (by omega)
    have a6 : std.add .i64 ((k + 8 * i + 1 + 1 + 1 + 1 + 1 : Nat) : Int) 1 = ((k + 8 * i + 1 + 1 + 1 + 1 + 1 + 1 : Nat) : Int) := inc_nat (by omega)
    have a7 : std.add .i64 ((k + 8 * i + 1 + 1 + 1 + 1 + 1 + 1 : Nat) : Int) 1 = ((k + 8 * i + 1 + 1 + 1 + 1 + 1 + 1 + 1 : Nat) : Int) := inc_nat (by omega)
    have a8 : std.add .i64 ((k + 8 * i + 1 + 1 + 1 + 1 + 1 + 1 + 1 : Nat) : Int) 1 = ((k + 8 * i + 1 + 1 + 1 + 1 + 1 + 1 + 1 + 1 : Nat) : Int) := inc_nat (by omega)
    have b1 : std.add .i64 (i : Int) 1 = ((i + 1 : Nat) : Int) := inc_nat (by omega)
    simp only [Lq69_x3, lq, s_toNn, eL_, hL, hlt, br_t, ro_ hin, range_gd (mInstance k) n i hi, a1, a2, a3, a4, a5, a6, a7, a8, b1]
    simp only [mInstance, notEq (eq_true' rfl), br_f]
    rfl
  · simp only [Lq69_x3, lq, eL_, hL]
    rw [lt_false (by rw [s_ofN]; omega), br_f]
theorem heldCellS_ok (l : List TC) (k : Nat) (hl : l.length <= 1048576) (hc : ∀ c ∈ l, SmallC c) (hk : k <= 100000000000000) : Fq65 ((List.range l.length).map (mC l k)) k = some ((k + offC l l.length : Nat) : Int) := by
  unfold Fq65
  have hL : ((List.range l.length).map (mC l k)).length = l.length := by simp
  refine Eq.trans (bind_of (while_from (r := .inr ((k + offC l l.length : Nat) : Int)) (fun i => (((k + offC l i : Nat) : Int), (i : Int))) l.length rfl (fun i hi => ?_) ?_)) rfl
  · have ho := offC_le hc i (by omega)
    have h2 := wtC_le (hc _ (gd_mem hi))
    obtain ⟨c, hcd⟩ : ∃ c, c = gd l i := ⟨_, rfl⟩
    obtain ⟨K, hK⟩ : ∃ K, K = k + offC l i := ⟨_, rfl⟩
    rw [<- hcd] at h2
    unfold wtC at h2
    have hin : std.inR (i : Int) l.length := inRl hi
    have hlt : std.lt (i : Int) (std.ofN l.length) = true := ltl_t hi
    have e1 : offC l (i + 1) = offC l i + wtC c := by rw [hcd]; rfl
    have e2 : mC l k i = mCell c K := by unfold mC; rw [<- hcd, <- hK]
    have e3 : K + 1 + 5 * c.fS.length + 4 * c.fL.length + 8 * c.fI.length = k + (offC l i + wtC c) := by unfold wtC; omega
    have hS := heldShapeS_ok c.fS.length (K + 1) (by omega)
    have hLb := heldLabelS_ok c.fL.length (K + 1 + 5 * c.fS.length) (by omega)
    have hI := heldInstanceS_ok c.fI.length (K + 1 + 5 * c.fS.length + 4 * c.fL.length) (by omega)
    have a1 : std.add .i64 ((K : Nat) : Int) 1 = ((K + 1 : Nat) : Int) := inc_nat (by omega)
    have b1 : std.add .i64 (i : Int) 1 = ((i + 1 : Nat) : Int) := inc_nat (by omega)
    have hT := markText_ok K (by omega)
    rw [<- hK]
    simp only [Lq65_x3, lq, s_toNn, eL_, hL, hlt, br_t, ro_ hin, range_gd (mC l k) l.length i hi, a1, b1, e2, hT, obs]
    simp only [mCell, seq_self, s_not, Bool.not_true, br_f, hS, hLb, hI, obs]
    rw [lt_false (by omega), br_f]
    try simp only [hLb, hI, obs]
    rw [lt_false (by omega), br_f]
    try simp only [hI, obs]
    rw [lt_false (by omega), br_f, e1, e3]
  · simp only [Lq65_x3, lq, eL_, hL]
    rw [lt_false (by rw [s_ofN]; omega), br_f]
theorem heldLibrary_ok (a : TL) (k : Nat) (h : SmallL a) (hk : k <= 100000000000000) : Fq151 ⟨(List.range a.fC.length).map (mC a.fC k)⟩ k = some ((k + offC a.fC a.fC.length : Nat) : Int) := by
  unfold Fq151
  rw [heldCellS_ok _ _ h.cells h.cell hk, obs, lt_false (by omega), br_f]
end
end Go.Proofs.YtohgghncmkiicaaGreat.AM
