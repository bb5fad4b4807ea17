/-
  What the functions that the law reaches compute, and that they do. No condition.
-/
import Derived.Test.YtohgghncmkiicaaGreatAmSU
import Derived.Test.YtohgghncmkiicaaGreatAmP
namespace Go.Proofs.YtohgghncmkiicaaGreat.AM
noncomputable section
open Go Go.Proofs Go.RowKit
set_option linter.unusedVariables false
set_option linter.unusedSimpArgs false
set_option maxRecDepth 100000

def wB (a b c : Int) : Bool := std.le b a && std.le a c
theorem spec_l09In_ok (a b c : Int) : Fq1 a b c = some (wB a b c) := by
  unfold Fq1 wB
  cases std.le b a <;> rfl
theorem impl_within_ok (a b c : Int) : Fq2 a b c = some (wB a b c) := by
  unfold Fq2 wB
  cases std.le b a <;> rfl
def okRect (a : TRect) : Bool := std.le (-40) a.fX0 && (std.lt a.fX0 a.fX1 && (std.le a.fX1 40 && (std.le (-40) a.fY0 && (std.lt a.fY0 a.fY1 && std.le a.fY1 40))))
theorem spec_l09Rect_ok (a : TRect) : Fq78 a = some (okRect a) := by
  unfold Fq78 okRect
  cases std.le (-40) a.fX0 <;> cases std.lt a.fX0 a.fX1 <;> cases std.le a.fX1 40 <;> cases std.le (-40) a.fY0 <;> cases std.lt a.fY0 a.fY1 <;> rfl
theorem impl_IsValidRect_ok (a : TRect) : Fq76 a = some (okRect a) := by
  unfold Fq76 okRect
  cases std.le (-40) a.fX0 <;> cases std.lt a.fX0 a.fX1 <;> cases std.le a.fX1 40 <;> cases std.le (-40) a.fY0 <;> cases std.lt a.fY0 a.fY1 <;> rfl
theorem spec_l09Layer_ok (a : Int) : Fq27 a = some (wB a 0 7) := by
  unfold Fq27
  rw [spec_l09In_ok]; rfl
def okShape (a : TS) : Bool := wB a.fy 0 7 && okRect a.fb
theorem spec_l09Shape_ok (a : TS) : Fq31 a = some (okShape a) := by
  unfold Fq31 okShape
  rw [spec_l09Layer_ok, spec_l09Rect_ok]
  cases wB a.fy 0 7 <;> rfl
theorem impl_validShape_ok (a : TS) : Fq39 a = some (okShape a) := by
  unfold Fq39 okShape
  rw [impl_within_ok, impl_IsValidRect_ok]
  cases wB a.fy 0 7 <;> rfl
def okPoint (a : TPoint) : Bool := wB a.fX (-40) 39 && wB a.fY (-40) 39
theorem spec_l09Unit_ok (a : TPoint) : Fq79 a = some (okPoint a) := by
  unfold Fq79 okPoint
  rw [spec_l09In_ok, spec_l09In_ok]
  cases wB a.fX (-40) 39 <;> rfl
theorem impl_isUnitCell_ok (a : TPoint) : Fq69 a = some (okPoint a) := by
  unfold Fq69 okPoint
  rw [impl_within_ok, impl_within_ok]
  cases wB a.fX (-40) 39 <;> rfl
def okName (s : ByteArray) (i : Nat) : Bool :=
  (std.le 97 (std.sat s i) && std.le (std.sat s i) 122) || (std.le 48 (std.sat s i) && std.le (std.sat s i) 57)
def isName (s : ByteArray) : Bool := (List.range s.size).all (okName s) && (decide (1 <= s.size) && decide (s.size <= 8))
theorem lt_le (a b : Int) : std.lt a b = !std.le b a := by
  rw [s_lt, s_le]
  by_cases h : a < b
  · have : ¬ b <= a := by omega
    simp [h]
  · have : b <= a := by omega
    simp [h, this]
theorem nameEnd (s : ByteArray) (b : Bool) : ((match (if b then .inr () else .inl () : Unit ⊕ Unit) with
    | .inl _ => some false
    | .inr _ => ((br (std.le 1 (std.ofN (std.slen s))) (some (std.le (std.ofN (std.slen s)) 8)) (some false)) : Option Bool).bind fun y33 => letO y33 fun w39 => some w39) : Option Bool) = some (b && (decide (1 <= s.size) && decide (s.size <= 8))) := by
  cases b with
  | false => rfl
  | true =>
    have e1 : std.le 1 (std.ofN (std.slen s)) = decide (1 <= s.size) := by rw [s_le, s_ofN, s_slen]; congr 1; simp; omega
    have e2 : std.le (std.ofN (std.slen s)) 8 = decide (s.size <= 8) := by rw [s_le, s_ofN, s_slen]; congr 1; simp; omega
    simp only [if_true, e1, e2, br_bool, letO_eq, Bool.true_and]
    cases decide (1 <= s.size) <;> rfl
theorem spec_IsName_ok (s : ByteArray) (hs : s.size <= maxLen) : Fq10 s = some (isName s) := by
  have hb := maxLen_eq
  unfold Fq10
  refine Eq.trans (bind_of (scan (ok := okName s) (n := s.size) (yes := .inr ()) (no := .inl ()) (fun i hi => ?_) ?_)) (nameEnd s _)
  · simp only [Lq10_x2, letO_eq, s_toNn, req_of (show std.inR (i : Int) (std.slen s) from inRn hi), okName]
    rw [lt_true (by rw [s_ofN, s_slen]; omega), br_t, inc_nat (by omega)]
    generalize std.sat s i = c
    cases std.le 97 c <;> cases std.le c 122 <;> cases std.le 48 c <;> cases std.le c 57 <;> rfl
  · simp only [Lq10_x2, letO_eq]
    rw [lt_false (by rw [s_ofN, s_slen]; omega)]; rfl
theorem impl_IsName_ok (s : ByteArray) (hs : s.size <= maxLen) : Fq12 s = some (isName s) := by
  have hb := maxLen_eq
  unfold Fq12
  refine Eq.trans (bind_of (scan (ok := okName s) (n := s.size) (yes := .inr ()) (no := .inl ()) (fun i hi => ?_) ?_)) (nameEnd s _)
  · simp only [Lq12_x2, letO_eq, s_toNn, req_of (show std.inR (i : Int) (std.slen s) from inRn hi), okName]
    rw [lt_true (by rw [s_ofN, s_slen]; omega), br_t, inc_nat (by omega)]
    generalize std.sat s i = c
    rw [lt_le c 97, lt_le c 48, lt_le 122 c, lt_le 57 c]
    cases std.le 97 c <;> cases std.le c 122 <;> cases std.le 48 c <;> cases std.le c 57 <;> rfl
  · simp only [Lq12_x2, letO_eq]
    rw [lt_false (by rw [s_ofN, s_slen]; omega)]; rfl
def okLabel (a : TB) : Bool := wB a.fy 0 7 && (okPoint a.fa && isName a.fN)
theorem spec_l09Label_ok (a : TB) (h : a.fN.size <= maxLen) : Fq28 a = some (okLabel a) := by
  unfold Fq28 okLabel
  rw [spec_l09Layer_ok, spec_l09Unit_ok, spec_IsName_ok _ h]
  cases wB a.fy 0 7 <;> cases okPoint a.fa <;> rfl
theorem impl_validLabel_ok (a : TB) (h : a.fN.size <= maxLen) : Fq34 a = some (okLabel a) := by
  unfold Fq34 okLabel
  rw [impl_within_ok, impl_isUnitCell_ok, impl_IsName_ok _ h]
  cases wB a.fy 0 7 <;> cases okPoint a.fa <;> rfl
def okTr (a : TM) : Bool := wB a.fo 0 7 && (wB a.fX (-80) 80 && wB a.fY (-80) 80)
theorem spec_l09Transform_ok (a : TM) : Fq62 a = some (okTr a) := by
  unfold Fq62 okTr
  simp only [spec_l09In_ok]
  cases wB a.fo 0 7 <;> cases wB a.fX (-80) 80 <;> rfl
theorem impl_IsValidTransform_ok (a : TM) : Fq66 a = some (okTr a) := by
  unfold Fq66 okTr
  simp only [impl_within_ok]
  cases wB a.fo 0 7 <;> cases wB a.fX (-80) 80 <;> rfl
def okInst (a : TI) (m : Int) : Bool := wB a.fc 0 (std.sub .i64 m 1) && (okTr a.fp && (wB a.fK 1 4 && (wB a.fR 1 4 && (wB a.fu (-80) 80 && (wB a.fv (-80) 80 && ((std.lt 1 a.fK || std.eq a.fu 0) && (std.lt 1 a.fR || std.eq a.fv 0)))))))
theorem spec_l09Instance_ok (a : TI) (m : Int) : Fq36 a m = some (okInst a m) := by
  unfold Fq36 okInst
  simp only [spec_l09In_ok, spec_l09Transform_ok]
  cases wB a.fc 0 (std.sub .i64 m 1) <;> cases okTr a.fp <;> cases wB a.fK 1 4 <;> cases wB a.fR 1 4 <;> try rfl
  cases wB a.fu (-80) 80 <;> cases wB a.fv (-80) 80 <;> try rfl
  cases std.lt 1 a.fK <;> cases std.eq a.fu 0 <;> cases std.lt 1 a.fR <;> cases std.eq a.fv 0 <;> rfl
theorem impl_validInstance_ok (a : TI) (m : Int) : Fq33 a m = some (okInst a m) := by
  unfold Fq33 okInst
  simp only [impl_within_ok, impl_IsValidTransform_ok]
  cases wB a.fc 0 (std.sub .i64 m 1) <;> cases okTr a.fp <;> cases wB a.fK 1 4 <;> cases wB a.fR 1 4 <;> try rfl
  cases wB a.fu (-80) 80 <;> cases wB a.fv (-80) 80 <;> try rfl
  cases std.lt 1 a.fK <;> cases std.eq a.fu 0 <;> cases std.lt 1 a.fR <;> cases std.eq a.fv 0 <;> rfl
/-- nothing is great -/
structure SmallC (c : TC) : Prop where
  name : c.fN.size <= 1048576
  shapes : c.fS.length <= 1048576
  labels : c.fL.length <= 1048576
  insts : c.fI.length <= 1048576
  lnames : ∀ l ∈ c.fL, l.fN.size <= 1048576
structure SmallL (a : TL) : Prop where
  cells : a.fC.length <= 1048576
  cell : ∀ c ∈ a.fC, SmallC c
theorem subl_ok {n : Nat} {x : Int} (h : n <= maxLen) (hx : 0 <= x /\ x <= 1048576) : std.sub .i64 x (std.ofN n) = x - n := by
  have := maxLen_eq
  rw [s_ofN, sub_id (by omega) (by omega)]
/-- a loop that takes from what is left -/
theorem while_sz {α : Type} [Inhabited α] {st : Int × Int -> Option ((Int × Int) ⊕ (Int ⊕ Int))} (l : List α) (ok : α -> Prop) (x : Int) (hx : 0 <= x /\ x <= 1048576)
    (h : ∀ i, i < l.length -> ∀ y : Int, 0 <= y /\ y <= 1048576 -> ∃ z : Int, (z < 0 /\ st (y, (i : Int)) = some (.inr (.inl (-1)))) \/ (0 <= z /\ z <= y /\ ok (gd l i) /\ st (y, (i : Int)) = some (.inl (z, ((i + 1 : Nat) : Int)))))
    (he : ∀ y, st (y, (l.length : Int)) = some (.inr (.inr y))) : ∃ r, whileP st (x, 0) = some r /\ (r = .inl (-1) \/ ∃ z, r = .inr z /\ 0 <= z /\ z <= x /\ ∀ e ∈ l, ok e) := by
  refine while_ex (fun s => ∃ (i : Nat) (y : Int), s = (y, (i : Int)) /\ i <= l.length /\ 0 <= y /\ y <= x /\ ∀ j, j < i -> ok (gd l j)) _ (fun s => l.length + 1 - s.2.toNat) ⟨0, x, rfl, by omega, by omega, by omega, fun j hj => by omega⟩ ?_
  rintro _ ⟨i, y, rfl, h1, h2, h3, h4⟩
  by_cases hi : i < l.length
  · obtain ⟨z, ⟨_, hz⟩ | ⟨g1, g2, g3, hz⟩⟩ := h i hi y ⟨h2, by omega⟩
    · exact .inr ⟨_, hz, .inl rfl⟩
    · exact .inl ⟨_, hz, ⟨i + 1, z, rfl, by omega, g1, by omega, fun j hj => by
        rcases Nat.lt_or_ge j i with hj' | hj'
        · exact h4 j hj'
        · rw [show j = i by omega]; exact g3⟩, by simp only [Int.toNat_natCast]; omega⟩
  · have hil : i = l.length := by omega
    subst hil
    refine .inr ⟨_, he y, .inr ⟨y, rfl, h2, h3, fun e hm => ?_⟩⟩
    obtain ⟨j, hj, rfl⟩ := List.getElem_of_mem hm
    rw [<- gd_lt hj]; exact h4 j hj
def wfC (c : TC) : Prop := c.fN.size <= maxLen /\ c.fS.length <= maxLen /\ c.fL.length <= maxLen /\ c.fI.length <= maxLen /\ ∀ l ∈ c.fL, l.fN.size <= maxLen
def wfLb (a : TL) : Prop := a.fC.length <= maxLen /\ ∀ c ∈ a.fC, wfC c
def okCell (c : TC) (k : Int) : Bool := isName c.fN && (decide (c.fS.length <= 24) && (decide (c.fL.length <= 8) && (decide (c.fI.length <= 8) && (c.fS.all okShape && (c.fL.all okLabel && c.fI.all fun x => okInst x k)))))
theorem lt_lit (n : Nat) (k : Nat) : std.lt (k : Int) (std.ofN n) = !decide (n <= k) := by
  rw [s_lt, s_ofN]
  by_cases h : n <= k
  · have : ¬ ((k : Int) < (n : Int)) := by omega
    simp [h, this]
  · have : ((k : Int) < (n : Int)) := by omega
    simp [h, this]
theorem spec_l09Cell_ok (c : TC) (k : Int) (h : SmallC c) : Fq8 c k = some (okCell c k) := by
  have hb := maxLen_eq
  have e24 := lt_lit c.fS.length 24
  have e8 := lt_lit c.fL.length 8
  have e8' := lt_lit c.fI.length 8
  have s1 := h.shapes; have s2 := h.labels; have s3 := h.insts
  unfold Fq8 okCell
  rw [spec_IsName_ok _ (by have := h.name; omega)]
  simp only [obs, letO_eq, len_eq, show (24 : Int) = ((24 : Nat) : Int) from rfl, show (8 : Int) = ((8 : Nat) : Int) from rfl, e24, e8, e8']
  cases isName c.fN with
  | false => rfl
  | true =>
    cases decide (c.fS.length <= 24) with
    | false => rfl
    | true =>
      cases decide (c.fL.length <= 8) with
      | false => rfl
      | true =>
        cases decide (c.fI.length <= 8) with
        | false => rfl
        | true =>
          simp only [Bool.not_true, br_f, obs, Bool.true_and]
          rw [bind_of (scan (ok := fun i => okShape (gd c.fS i)) (n := c.fS.length) (yes := .inr ()) (no := .inl false) (fun i hi => ?_) ?_), range_all]
          · cases c.fS.all okShape with
            | false => rfl
            | true =>
              simp only [if_true, Bool.true_and]
              rw [bind_of (scan (ok := fun i => okLabel (gd c.fL i)) (n := c.fL.length) (yes := .inr ()) (no := .inl false) (fun i hi => ?_) ?_), range_all]
              · cases c.fL.all okLabel with
                | false => rfl
                | true =>
                  simp only [if_true, Bool.true_and]
                  rw [bind_of (scan (ok := fun i => okInst (gd c.fI i) k) (n := c.fI.length) (yes := .inr ()) (no := .inl false) (fun i hi => ?_) ?_), range_all (fun x => okInst x k)]
                  · cases c.fI.all fun x => okInst x k <;> rfl
                  · simp only [Lq8_x52, letO_eq]
                    rw [ltl_f, br_f]
                  · simp only [Lq8_x52, letO_eq, s_toNn]
                    rw [ltl_t hi, br_t, req_of (inRl hi), spec_l09Instance_ok, obs, inc_nat (by omega)]
                    cases okInst (gd c.fI i) k <;> rfl
              · simp only [Lq8_x33, letO_eq]
                rw [ltl_f, br_f]
              · simp only [Lq8_x33, letO_eq, s_toNn]
                rw [ltl_t hi, br_t, req_of (inRl hi), spec_l09Label_ok _ (by have := h.lnames _ (gd_mem hi); omega), obs, inc_nat (by omega)]
                cases okLabel (gd c.fL i) <;> rfl
          · simp only [Lq8_x14, letO_eq]
            rw [ltl_f, br_f]
          · simp only [Lq8_x14, letO_eq, s_toNn]
            rw [ltl_t hi, br_t, req_of (inRl hi), spec_l09Shape_ok, obs, inc_nat (by omega)]
            cases okShape (gd c.fS i) <;> rfl
/-- a loop that stops at the first element that is met -/
theorem scan_first {step : Int -> Option (Int ⊕ (Int ⊕ Unit))} {p : Nat -> Bool} {n : Nat} (h : ∀ i : Nat, i < n -> step i = some (cond (p i) (.inr (.inl (i : Int))) (.inl ((i + 1 : Nat) : Int)))) (hn : step n = some (.inr (.inr ()))) :
    whileP step 0 = some (match (List.range n).find? p with | some i => .inl (i : Int) | none => .inr ()) := by
  have key : ∀ m i : Nat, i + m = n -> whileP step i = some (match (List.range' i m).find? p with | some i => .inl (i : Int) | none => .inr ()) := by
    intro m
    induction m with
    | zero =>
      intro i hi
      have : i = n := by omega
      subst this
      rw [whileP_unfold, hn]; rfl
    | succ m ih =>
      intro i hi
      rw [whileP_unfold, h i (by omega)]
      cases hb : p i with
      | true => simp [List.range', hb]
      | false =>
        simp only [cond]
        rw [ih (i + 1) (by omega)]
        simp [List.range', hb]
  have := key n 0 (by omega)
  rw [List.range_eq_range']
  exact this
def firstI (p : Nat -> Bool) (n : Nat) : Int := match (List.range n).find? p with | some i => (i : Int) | none => -1
theorem firstI_any (p : Nat -> Bool) (n : Nat) : std.le 0 (firstI p n) = (List.range n).any p := by
  unfold firstI
  cases h : (List.range n).find? p with
  | none =>
    rw [List.find?_eq_none] at h
    have : (List.range n).any p = false := by rw [List.any_eq_false]; exact h
    rw [this]; show std.le 0 (-1) = false; exact le_false (by omega)
  | some i =>
    have h1 := List.find?_some h
    have h2 := List.mem_of_find?_eq_some h
    have : (List.range n).any p = true := by rw [List.any_eq_true]; exact ⟨i, h2, h1⟩
    rw [this]; show std.le 0 (i : Int) = true; exact le_true (by omega)
theorem range_any {α : Type} [Inhabited α] (p : α -> Bool) (l : List α) : (List.range l.length).any (fun i => !p (gd l i)) = !l.all p := by
  rw [<- range_all p l, List.all_eq_not_any_not, Bool.not_not]
theorem containsShape (l : List TS) (h : l.length <= 10000000) : Fq58 l = some (!l.all okShape) := by
  unfold Fq58 Fq43
  rw [bind_of (scan_first (p := fun i => !okShape (gd l i)) (n := l.length) (fun i hi => ?_) ?_)]
  · rw [<- range_any okShape l, <- firstI_any]
    unfold firstI
    cases (List.range l.length).find? (fun i => !okShape (gd l i)) <;> rfl
  · simp only [Lq43_x2, letO_eq]
    rw [ltl_f, br_f]
  · simp only [Lq43_x2, letO_eq, s_toNn, Fq88]
    rw [ltl_t hi, br_t, req_of (inRl hi), impl_validShape_ok, obs, obs, inc_nat (by omega)]
    cases okShape (gd l i) <;> rfl
theorem containsLabel (l : List TB) (h : l.length <= 10000000) (hn : ∀ x ∈ l, x.fN.size <= maxLen) : Fq56 l = some (!l.all okLabel) := by
  unfold Fq56 Fq40
  rw [bind_of (scan_first (p := fun i => !okLabel (gd l i)) (n := l.length) (fun i hi => ?_) ?_)]
  · rw [<- range_any okLabel l, <- firstI_any]
    unfold firstI
    cases (List.range l.length).find? (fun i => !okLabel (gd l i)) <;> rfl
  · simp only [Lq40_x2, letO_eq]
    rw [ltl_f, br_f]
  · simp only [Lq40_x2, letO_eq, s_toNn, Fq86]
    rw [ltl_t hi, br_t, req_of (inRl hi), impl_validLabel_ok _ (hn _ (gd_mem hi)), obs, obs, inc_nat (by omega)]
    cases okLabel (gd l i) <;> rfl
theorem containsInst (l : List TI) (k : Int) (h : l.length <= 10000000) : Fq70 l k = some (!l.all fun x => okInst x k) := by
  unfold Fq70 Fq32
  rw [bind_of (scan_first (p := fun i => !okInst (gd l i) k) (n := l.length) (fun i hi => ?_) ?_)]
  · rw [<- range_any (fun x => okInst x k) l, <- firstI_any]
    unfold firstI
    cases (List.range l.length).find? (fun i => !okInst (gd l i) k) <;> rfl
  · simp only [Lq32_x2, letO_eq]
    rw [ltl_f, br_f]
  · simp only [Lq32_x2, letO_eq, s_toNn, Fq89]
    rw [ltl_t hi, br_t, req_of (inRl hi), impl_validInstance_ok, obs, obs, inc_nat (by omega)]
    cases okInst (gd l i) k <;> rfl
theorem impl_validCell_ok (c : TC) (k : Int) (h : SmallC c) : Fq3 c k = some (okCell c k) := by
  have hb := maxLen_eq
  have e24 := lt_lit c.fS.length 24
  have e8 := lt_lit c.fL.length 8
  have e8' := lt_lit c.fI.length 8
  unfold Fq3 okCell
  rw [impl_IsName_ok _ (by have := h.name; omega), containsShape _ (by have := h.shapes; omega), containsLabel _ (by have := h.labels; omega) (fun x hx => by have := h.lnames x hx; omega), containsInst _ _ (by have := h.insts; omega)]
  simp only [obs, letO_eq, len_eq, show (24 : Int) = ((24 : Nat) : Int) from rfl, show (8 : Int) = ((8 : Nat) : Int) from rfl, e24, e8, e8']
  cases isName c.fN <;> cases decide (c.fS.length <= 24) <;> cases decide (c.fL.length <= 8) <;> cases decide (c.fI.length <= 8) <;> cases c.fS.all okShape <;> cases c.fL.all okLabel <;> cases (c.fI.all fun x => okInst x k) <;> rfl
/-- the first cell with this name -/
def namedI (l : List TC) (s : ByteArray) : Int := firstI (fun i => std.seq (gd l i).fN s) l.length
theorem impl_named_ok (a : TL) (s : ByteArray) (h : a.fC.length <= 10000000) : Fq7 a s = some (namedI a.fC s) := by
  unfold Fq7 Fq38
  rw [bind_of (scan_first (p := fun i => std.seq (gd a.fC i).fN s) (n := a.fC.length) (fun i hi => ?_) ?_)]
  · unfold namedI firstI
    cases (List.range a.fC.length).find? (fun i => std.seq (gd a.fC i).fN s) <;> rfl
  · simp only [Lq38_x2, letO_eq]
    rw [ltl_f, br_f]
  · simp only [Lq38_x2, letO_eq, s_toNn, Fq91]
    rw [ltl_t hi, br_t, req_of (inRl hi), obs, inc_nat (by omega)]
    cases std.seq (gd a.fC i).fN s <;> rfl
/-- no cell ahead of k has its name -/
def fresh (l : List TC) (k : Nat) : Bool := (List.range k).all fun j => !std.seq (gd l j).fN (gd l k).fN
theorem find_first (p : Nat -> Bool) (n k : Nat) (hk : k < n) (hp : p k = true) : (List.range n).find? p = some k ↔ (List.range k).all (fun j => !p j) = true := by
  rw [List.all_eq_true, List.find?_eq_some_iff_append]
  constructor
  · rintro ⟨h1, l1, l2, h2, h3⟩ j hj
    apply h3
    have hlen : l1.length = k := by
      have h4 : (List.range n)[l1.length]? = some k := by rw [h2]; simp
      have hlt : l1.length < n := by
        have := (List.getElem?_eq_some_iff.1 h4).1
        simpa using this
      rw [List.getElem?_range hlt] at h4
      injection h4
    have h5 : l1 = List.range k := by
      have := congrArg (List.take l1.length) h2
      rw [List.take_left', List.take_range] at this
      · rw [<- this, hlen]; congr 1; omega
      · rfl
    rw [h5]; exact hj
  · intro h
    refine ⟨hp, List.range k, List.range' (k + 1) (n - (k + 1)), ?_, fun j hj => h j hj⟩
    rw [List.range_eq_range', List.range_eq_range', show n = k + (1 + (n - (k + 1))) by omega, <- List.range'_append_1, Nat.add_comm 1, List.range'_succ]
    simp
    omega
theorem named_first (l : List TC) (k : Nat) (hk : k < l.length) : std.eq (namedI l (gd l k).fN) (k : Int) = fresh l k := by
  rw [s_eq, Bool.eq_iff_iff]
  unfold fresh
  rw [<- find_first (fun i => std.seq (gd l i).fN (gd l k).fN) l.length k hk (seq_self _)]
  unfold namedI firstI
  cases h : (List.range l.length).find? (fun i => std.seq (gd l i).fN (gd l k).fN) with
  | none => simp
  | some i => simp; omega
def okLib (a : TL) : Bool := decide (1 <= a.fC.length) && (decide (a.fC.length <= 8) && (List.range a.fC.length).all fun k => okCell (gd a.fC k) k && fresh a.fC k)
theorem lt_one (n : Nat) : std.lt (std.ofN n) 1 = !decide (1 <= n) := by
  rw [s_lt, s_ofN]
  by_cases h : 1 <= n
  · have : ¬ ((n : Int) < 1) := by omega
    simp [h, this]
  · have : ((n : Int) < 1) := by omega
    simp [h, this]
theorem spec_IsValidLibrary_ok (a : TL) (h : SmallL a) : Fq17 a = some (okLib a) := by
  have hl := h.cells
  have e8 := lt_lit a.fC.length 8
  unfold Fq17 okLib
  simp only [letO_eq, len_eq, show (8 : Int) = ((8 : Nat) : Int) from rfl, e8, lt_one]
  cases decide (1 <= a.fC.length) with
  | false => rfl
  | true =>
    cases decide (a.fC.length <= 8) with
    | false => rfl
    | true =>
      simp only [Bool.not_true, br_f, obs, Bool.true_and]
      rw [bind_of (scan (ok := fun k => okCell (gd a.fC k) k && fresh a.fC k) (n := a.fC.length) (yes := .inr ()) (no := .inl false) (fun i hi => ?_) ?_)]
      · cases (List.range a.fC.length).all fun k => okCell (gd a.fC k) k && fresh a.fC k <;> rfl
      · simp only [Lq17_x10, letO_eq]
        rw [ltl_f, br_f]
      · simp only [Lq17_x10, letO_eq, s_toNn]
        rw [ltl_t hi, br_t, req_of (inRl hi), spec_l09Cell_ok _ _ (h.cell _ (gd_mem hi)), obs, inc_nat (by omega)]
        cases okCell (gd a.fC i) (i : Int) with
        | false => rfl
        | true =>
          simp only [Bool.not_true, br_f, Bool.true_and]
          rw [bind_of (scan (ok := fun j => !std.seq (gd a.fC j).fN (gd a.fC i).fN) (n := i) (yes := .inr ()) (no := .inl false) (fun j hj => ?_) ?_)]
          · unfold fresh
            cases (List.range i).all fun j => !std.seq (gd a.fC j).fN (gd a.fC i).fN <;> rfl
          · simp only [Lq17_x26, letO_eq]
            rw [lt_false (by omega), br_f]
          · simp only [Lq17_x26, letO_eq, s_toNn]
            rw [lt_true (by omega), br_t, req_of (inRl (by omega)), req_of (inRl hi), inc_nat (by omega)]
            cases std.seq (gd a.fC j).fN (gd a.fC i).fN <;> rfl
theorem impl_IsValidLibrary_ok (a : TL) (h : SmallL a) : Fq5 a = some (okLib a) := by
  have hl := h.cells
  have e8 := lt_lit a.fC.length 8
  unfold Fq5 okLib
  simp only [letO_eq, len_eq, show (8 : Int) = ((8 : Nat) : Int) from rfl, e8, lt_one]
  cases decide (1 <= a.fC.length) with
  | false => rfl
  | true =>
    cases decide (a.fC.length <= 8) with
    | false => rfl
    | true =>
      simp only [Bool.not_true, br_f, obs, Bool.true_and]
      rw [bind_of (scan (ok := fun k => okCell (gd a.fC k) k && fresh a.fC k) (n := a.fC.length) (yes := .inr ()) (no := .inl false) (fun i hi => ?_) ?_)]
      · cases (List.range a.fC.length).all fun k => okCell (gd a.fC k) k && fresh a.fC k <;> rfl
      · simp only [Lq5_x10, letO_eq]
        rw [ltl_f, br_f]
      · simp only [Lq5_x10, letO_eq, s_toNn]
        rw [ltl_t hi, br_t, req_of (inRl hi), impl_validCell_ok _ _ (h.cell _ (gd_mem hi)), obs, inc_nat (by omega)]
        cases okCell (gd a.fC i) (i : Int) with
        | false => rfl
        | true =>
          simp only [Bool.not_true, br_f, Bool.true_and]
          rw [impl_named_ok _ _ (show a.fC.length <= 10000000 by omega), obs, named_first _ _ hi]
          cases fresh a.fC i <;> rfl
theorem impl_hasCell_ok (a : TL) (k : Int) (h : SmallL a) : Fq51 a k = some (okLib a && wB k 0 ((a.fC.length : Int) - 1)) := by
  have hl := h.cells
  unfold Fq51
  rw [impl_IsValidLibrary_ok _ h]
  simp only [obs, letO_eq, s_ofN, len_eq]
  rw [sub_id (by omega) (by omega), impl_within_ok]
  cases okLib a <;> rfl
/- sz, to, eq of an edit -/
structure SmallE (a : TE) : Prop where
  name : a.fN.size <= 1048576
  lname : a.fl_.fN.size <= 1048576
/- is it an edit -/
theorem eq_self' (x : Int) : std.eq x x = true := by simp [std]
theorem eq_zero (x : Int) : std.eq 0 x = std.eq x 0 := by simp only [std]; exact Bool.beq_comm
theorem seq_zero (x : ByteArray) : std.seq (ByteArray.mk #[]) x = std.seq x (ByteArray.mk #[]) := by simp only [std]; exact Bool.beq_comm
theorem band_and (a b : Bool) : std.band a b = (a && b) := rfl
theorem not_not' (a : Bool) : std.not a = !a := rfl
def zS (a : TS) : Bool := std.eq a.fy 0 && (std.eq a.fb.fX0 0 && (std.eq a.fb.fY0 0 && (std.eq a.fb.fX1 0 && std.eq a.fb.fY1 0)))
def zL (a : TB) : Bool := std.eq a.fy 0 && ((std.eq a.fa.fX 0 && std.eq a.fa.fY 0) && std.seq a.fN (ByteArray.mk #[]))
def zI (a : TI) : Bool := std.eq a.fc 0 && ((std.eq a.fp.fo 0 && (std.eq a.fp.fX 0 && std.eq a.fp.fY 0)) && (std.eq a.fK 0 && (std.eq a.fR 0 && (std.eq a.fu 0 && std.eq a.fv 0))))
theorem spec_l13NoShape_ok (a : TS) : Fq50 a = some (zS a) := by
  unfold Fq50 zS
  simp only [band_and, Bool.and_true]
theorem spec_l13NoLabel_ok (a : TB) : Fq49 a = some (zL a) := by
  unfold Fq49 zL
  simp only [band_and, Bool.and_true]
theorem spec_l13NoInstance_ok (a : TI) : Fq60 a = some (zI a) := by
  unfold Fq60 zI
  simp only [band_and, Bool.and_true]
/-- is it an edit -/
def okEdit (a : TE) : Bool :=
  (wB a.fc 0 8 && wB a.fx 0 24) &&
  (if a.fk = 1 then std.seq a.fN (ByteArray.mk #[]) && okShape a.fs_ && zL a.fl_ && zI a.fi_
   else if a.fk = 3 then std.seq a.fN (ByteArray.mk #[]) && zS a.fs_ && okLabel a.fl_ && zI a.fi_
   else if a.fk = 5 then std.seq a.fN (ByteArray.mk #[]) && zS a.fs_ && zL a.fl_ && okInst a.fi_ 8
   else if a.fk = 2 \/ a.fk = 4 \/ a.fk = 6 then std.seq a.fN (ByteArray.mk #[]) && zS a.fs_ && zL a.fl_ && zI a.fi_
   else if a.fk = 7 \/ a.fk = 8 then std.eq a.fx 0 && isName a.fN && zS a.fs_ && zL a.fl_ && zI a.fi_
   else if a.fk = 9 then std.eq a.fx 0 && std.seq a.fN (ByteArray.mk #[]) && zS a.fs_ && zL a.fl_ && zI a.fi_
   else false)
theorem eq_dec (x y : Int) : std.eq x y = decide (x = y) := by
  simp only [std]
  by_cases h : x = y <;> simp [h]
theorem spec_IsValidEdit_ok (a : TE) (h1 : a.fN.size <= maxLen) (h2 : a.fl_.fN.size <= maxLen) : Fq67 a = some (okEdit a) := by
  unfold Fq67 okEdit
  simp only [spec_l09In_ok, spec_IsName_ok _ h1, spec_l09Shape_ok, spec_l13NoShape_ok, spec_l09Label_ok _ h2, spec_l13NoLabel_ok, spec_l09Instance_ok, spec_l13NoInstance_ok, not_not']
  generalize okShape a.fs_ = s1
  generalize zS a.fs_ = s2
  generalize okLabel a.fl_ = l1
  generalize zL a.fl_ = l2
  generalize okInst a.fi_ 8 = i1
  generalize zI a.fi_ = i2
  generalize isName a.fN = n1
  generalize std.seq a.fN _ = n2
  generalize wB a.fc 0 8 = c1
  generalize wB a.fx 0 24 = c2
  generalize std.eq a.fx 0 = c3
  generalize a.fk = k
  by_cases hk : 1 <= k /\ k <= 9
  · have : k = 1 \/ k = 2 \/ k = 3 \/ k = 4 \/ k = 5 \/ k = 6 \/ k = 7 \/ k = 8 \/ k = 9 := by omega
    rcases this with rfl | rfl | rfl | rfl | rfl | rfl | rfl | rfl | rfl <;> cases c1 <;> cases c2 <;> try rfl
    all_goals (cases c3 <;> try rfl)
    all_goals (cases n2 <;> try rfl)
    all_goals (cases n1 <;> try rfl)
    all_goals (cases s2 <;> try rfl)
    all_goals (cases s1 <;> try rfl)
    all_goals (cases l2 <;> try rfl)
    all_goals (cases l1 <;> try rfl)
    all_goals (cases i2 <;> try rfl)
    all_goals (cases i1 <;> rfl)
  · have hw : wB k 1 9 = false := by
      simp [wB, std]; omega
    rw [hw]
    have e1 : ¬ k = 1 := by omega
    have e2 : ¬ k = 2 := by omega
    have e3 : ¬ k = 3 := by omega
    have e4 : ¬ k = 4 := by omega
    have e5 : ¬ k = 5 := by omega
    have e6 : ¬ k = 6 := by omega
    have e7 : ¬ k = 7 := by omega
    have e8 : ¬ k = 8 := by omega
    have e9 : ¬ k = 9 := by omega
    simp only [e1, e2, e3, e4, e5, e6, e7, e8, e9, or_self, if_false, Bool.and_false]
    rfl
theorem zS_fold (a : TS) : (std.eq a.fy 0 && (std.eq a.fb.fX0 0 && (std.eq a.fb.fY0 0 && (std.eq a.fb.fX1 0 && std.eq a.fb.fY1 0)))) = zS a := rfl
theorem zL_fold (a : TB) : (std.eq a.fy 0 && ((std.eq a.fa.fX 0 && std.eq a.fa.fY 0) && std.seq a.fN (ByteArray.mk #[]))) = zL a := rfl
theorem zI_fold (a : TI) : (std.eq a.fc 0 && ((std.eq a.fp.fo 0 && (std.eq a.fp.fX 0 && std.eq a.fp.fY 0)) && (std.eq a.fK 0 && (std.eq a.fR 0 && (std.eq a.fu 0 && std.eq a.fv 0))))) = zI a := rfl
theorem impl_IsValidEdit_ok (a : TE) (h1 : a.fN.size <= maxLen) (h2 : a.fl_.fN.size <= maxLen) : Fq82 a = some (okEdit a) := by
  unfold Fq82 okEdit
  simp only [impl_within_ok, impl_IsName_ok _ h1, impl_validShape_ok, impl_validLabel_ok _ h2, impl_validInstance_ok, band_and, Bool.and_true, Bool.true_and, eq_self', seq_self, eq_zero, seq_zero, zS_fold, zL_fold, zI_fold]
  generalize okShape a.fs_ = s1
  generalize zS a.fs_ = s2
  generalize okLabel a.fl_ = l1
  generalize zL a.fl_ = l2
  generalize okInst a.fi_ 8 = i1
  generalize zI a.fi_ = i2
  generalize isName a.fN = n1
  generalize std.seq a.fN _ = n2
  generalize wB a.fc 0 8 = c1
  generalize wB a.fx 0 24 = c2
  generalize std.eq a.fx 0 = c3
  generalize a.fk = k
  by_cases hk : 1 <= k /\ k <= 9
  · have : k = 1 \/ k = 2 \/ k = 3 \/ k = 4 \/ k = 5 \/ k = 6 \/ k = 7 \/ k = 8 \/ k = 9 := by omega
    rcases this with rfl | rfl | rfl | rfl | rfl | rfl | rfl | rfl | rfl <;> cases c1 <;> cases c2 <;> try rfl
    all_goals (cases c3 <;> try rfl)
    all_goals (cases n2 <;> try rfl)
    all_goals (cases n1 <;> try rfl)
    all_goals (cases s2 <;> try rfl)
    all_goals (cases s1 <;> try rfl)
    all_goals (cases l2 <;> try rfl)
    all_goals (cases l1 <;> try rfl)
    all_goals (cases i2 <;> try rfl)
    all_goals (cases i1 <;> rfl)
  · have e1 : ¬ k = 1 := by omega
    have e2 : ¬ k = 2 := by omega
    have e3 : ¬ k = 3 := by omega
    have e4 : ¬ k = 4 := by omega
    have e5 : ¬ k = 5 := by omega
    have e6 : ¬ k = 6 := by omega
    have e7 : ¬ k = 7 := by omega
    have e8 : ¬ k = 8 := by omega
    have e9 : ¬ k = 9 := by omega
    simp only [eq_dec, e1, e2, e3, e4, e5, e6, e7, e8, e9, or_self, if_false, Bool.and_false, decide_false]
    cases c1 <;> cases c2 <;> rfl
/- the code of an edit: both sides -/
/-- a loop that says yes at the first element that is met -/
theorem scan_any {step : Int -> Option (Int ⊕ (Bool ⊕ Unit))} {p : Nat -> Bool} {n : Nat} (h : ∀ i : Nat, i < n -> step i = some (cond (p i) (.inr (.inl true)) (.inl ((i + 1 : Nat) : Int)))) (hn : step n = some (.inr (.inr ()))) :
    whileP step 0 = some (cond ((List.range n).any p) (.inl true) (.inr ())) := by
  have key : ∀ m i : Nat, i + m = n -> whileP step i = some (cond ((List.range' i m).any p) (.inl true) (.inr ())) := by
    intro m
    induction m with
    | zero =>
      intro i hi
      have : i = n := by omega
      subst this
      rw [whileP_unfold, hn]; rfl
    | succ m ih =>
      intro i hi
      rw [whileP_unfold, h i (by omega)]
      cases hb : p i with
      | true => simp [List.range', hb]
      | false =>
        show whileP step ((i + 1 : Nat) : Int) = _
        rw [ih (i + 1) (by omega)]
        simp [List.range', hb]
  have := key n 0 (by omega)
  rw [List.range_eq_range']
  exact this
theorem any_res {b : Bool} : ((some (cond b (.inl true) (.inr ())) : Option (Bool ⊕ Unit)).bind fun y3 => (match y3 with
    | .inl y3k0 => (letO y3k0 fun w25 => some w25)
    | .inr y3m0 => some false)) = some b := by cases b <;> rfl
def othN (l : List TC) (k : Int) (s : ByteArray) : Bool := (List.range l.length).any fun i => std.not (std.eq (i : Int) k) && std.seq (gd l i).fN s
theorem spec_l13Named_ok (a : TL) (k : Int) (s : ByteArray) (h : a.fC.length <= 10000000) : Fq20 a k s = some (othN a.fC k s) := by
  unfold Fq20
  rw [scan_any (p := fun i => std.not (std.eq (i : Int) k) && std.seq (gd a.fC i).fN s) (n := a.fC.length) (fun i hi => ?_) ?_]
  · exact any_res
  · simp only [Lq20_x2, letO_eq]
    rw [ltl_f, br_f]
  · simp only [Lq20_x2, letO_eq, s_toNn]
    rw [ltl_t hi, br_t, req_of (inRl hi), inc_nat (by omega)]
    cases std.not (std.eq (i : Int) k) <;> cases std.seq (gd a.fC i).fN s <;> rfl
def usesB (c : TC) (k : Int) : Bool := (List.range c.fI.length).any fun i => std.eq (gd c.fI i).fc k
theorem spec_l09Uses_ok (c : TC) (k : Int) (h : c.fI.length <= 10000000) : Fq22 c k = some (usesB c k) := by
  unfold Fq22
  rw [scan_any (p := fun i => std.eq (gd c.fI i).fc k) (n := c.fI.length) (fun i hi => ?_) ?_]
  · exact any_res
  · simp only [Lq22_x2, letO_eq]
    rw [ltl_f, br_f]
  · simp only [Lq22_x2, letO_eq, s_toNn]
    rw [ltl_t hi, br_t, req_of (inRl hi), inc_nat (by omega)]
    cases std.eq (gd c.fI i).fc k <;> rfl
def placedB (a : TL) (k : Int) : Bool := (List.range a.fC.length).any fun j => usesB (gd a.fC j) k
theorem spec_l13Placed_ok (a : TL) (k : Int) (h : SmallL a) : Fq23 a k = some (placedB a k) := by
  have hc := h.cells
  unfold Fq23
  rw [scan_any (p := fun j => usesB (gd a.fC j) k) (n := a.fC.length) (fun i hi => ?_) ?_]
  · exact any_res
  · simp only [Lq23_x2, letO_eq]
    rw [ltl_f, br_f]
  · have hi2 := (h.cell _ (gd_mem hi)).insts
    simp only [Lq23_x2, letO_eq, s_toNn]
    rw [ltl_t hi, br_t, req_of (inRl hi), inc_nat (by omega), spec_l09Uses_ok _ _ (by omega), obs]
    cases usesB (gd a.fC i) k <;> rfl
theorem impl_uses_ok (c : TC) (k : Int) (h : c.fI.length <= 10000000) : Fq64 c.fI k = some (usesB c k) := by
  unfold Fq64 Fq41
  rw [bind_of (scan_first (p := fun i => std.eq (gd c.fI i).fc k) (n := c.fI.length) (fun i hi => ?_) ?_)]
  · unfold usesB
    rw [<- firstI_any]
    unfold firstI
    cases (List.range c.fI.length).find? (fun i => std.eq (gd c.fI i).fc k) <;> rfl
  · simp only [Lq41_x2, letO_eq]
    rw [ltl_f, br_f]
  · simp only [Lq41_x2, letO_eq, s_toNn, Fq85]
    rw [ltl_t hi, br_t, req_of (inRl hi), obs, inc_nat (by omega)]
    cases std.eq (gd c.fI i).fc k <;> rfl
/-- the cells that place the cell k -/
def usersL (a : TL) (k : Int) (n : Nat) : List Int := ((List.range n).filter fun j => usesB (gd a.fC j) k).map fun j : Nat => (j : Int)
theorem usersL_len (a : TL) (k : Int) (n : Nat) : (usersL a k n).length <= n := by
  unfold usersL
  rw [List.length_map]
  exact Nat.le_trans (List.length_filter_le _ _) (by simp)
theorem usersL_succ (a : TL) (k : Int) (n : Nat) : usersL a k (n + 1) = usersL a k n ++ (if usesB (gd a.fC n) k = true then [(n : Int)] else []) := by
  unfold usersL
  rw [List.range_succ, List.filter_append, List.map_append]
  cases h : usesB (gd a.fC n) k <;> simp [h]
theorem usersL_any (a : TL) (k : Int) : decide (0 < (usersL a k a.fC.length).length) = placedB a k := by
  unfold usersL placedB
  rw [Bool.eq_iff_iff, decide_eq_true_eq, List.length_map, List.length_pos_iff_exists_mem, List.any_eq_true]
  simp [List.mem_filter]
theorem hasCell_ok (a : TL) (k : Int) (h : SmallL a) : Fq51 a k = some (okLib a && wB k 0 ((a.fC.length : Int) - 1)) := by
  have hl := h.cells
  unfold Fq51
  rw [impl_IsValidLibrary_ok _ h]
  simp only [obs, letO_eq, s_ofN, len_eq]
  rw [sub_id (by omega) (by omega), impl_within_ok]
  cases okLib a <;> rfl
theorem impl_UsersOf_ok (a : TL) (k : Int) (h : SmallL a) : Fq9 a k = some (if okLib a && wB k 0 ((a.fC.length : Int) - 1) then usersL a k a.fC.length else []) := by
  have hc := h.cells
  unfold Fq9
  rw [show TL.mk a.fC = a from rfl, hasCell_ok a k h, obs]
  cases okLib a && wB k 0 ((a.fC.length : Int) - 1) with
  | false => rfl
  | true =>
    simp only [letO_eq, Bool.not_true, br_f, if_true]
    refine Eq.trans (bind_of (while_from (r := usersL a k a.fC.length) (fun i => ((i : Int), usersL a k i)) a.fC.length rfl (fun i hi => ?_) ?_)) rfl
    · have hi2 := (h.cell _ (gd_mem hi)).insts
      have hu := usersL_len a k i
      simp only [Lq9_x7, letO_eq, s_toNn]
      rw [ltl_t hi, br_t, req_of (inRl hi), impl_uses_ok _ _ (by omega), obs, inc_nat (by omega), usersL_succ]
      cases usesB (gd a.fC i) k with
      | false => simp [br]
      | true =>
        rw [br_t, req_of (show std.room (std.nadd (len (usersL a k i)) (len [(i : Int)])) 8 from ?_)]
        · rfl
        · rw [s_nadd, len_eq, len_eq, List.length_singleton]
          show _ * 8 <= 35184372088832
          omega
    · simp only [Lq9_x7, letO_eq]
      rw [ltl_f, br_f]
/-- names -/
theorem seq_eq {x y s : ByteArray} (h : std.seq x s = true) (g : std.seq y s = true) : std.seq x y = true := by
  have h1 : (x.toList == s.toList) = true := h
  have h2 : (y.toList == s.toList) = true := g
  show (x.toList == y.toList) = true
  rw [eq_of_beq h1, eq_of_beq h2]
  exact beq_self_eq_true _
theorem okLib_fresh {a : TL} (hv : okLib a = true) {j k : Nat} (hk : k < a.fC.length) (hj : j < k) : std.seq (gd a.fC j).fN (gd a.fC k).fN = false := by
  unfold okLib at hv
  simp only [Bool.and_eq_true, List.all_eq_true] at hv
  have := (hv.2.2 k (List.mem_range.2 hk)).2
  unfold fresh at this
  rw [List.all_eq_true] at this
  simpa using this j (List.mem_range.2 hj)
theorem seq_comm {x y : ByteArray} (h : std.seq x y = true) : std.seq y x = true := seq_eq (seq_self y) h
theorem name_once {a : TL} (hv : okLib a = true) {s : ByteArray} {j k : Nat} (hj : j < a.fC.length) (hk : k < a.fC.length) (h : std.seq (gd a.fC j).fN s = true) (g : std.seq (gd a.fC k).fN s = true) : j = k := by
  rcases Nat.lt_trichotomy j k with h1 | h1 | h1
  · have := okLib_fresh hv hk h1
    rw [seq_eq h g] at this; cases this
  · exact h1
  · have := okLib_fresh hv hj h1
    rw [seq_eq g h] at this; cases this
theorem named_other {a : TL} (hv : okLib a = true) (k : Nat) (hk : k < a.fC.length) (s : ByteArray) : (std.le 0 (namedI a.fC s) && std.not (std.eq (namedI a.fC s) (k : Int))) = othN a.fC (k : Int) s := by
  unfold namedI firstI
  cases h : (List.range a.fC.length).find? (fun i => std.seq (gd a.fC i).fN s) with
  | none =>
    rw [List.find?_eq_none] at h
    have : othN a.fC (k : Int) s = false := by
      unfold othN
      rw [List.any_eq_false]
      intro i hi
      have := h i hi
      simp [this]
    rw [this]; rfl
  | some i =>
    have h1 := List.find?_some h
    have h2 := List.mem_range.1 (List.mem_of_find?_eq_some h)
    simp only at h1 ⊢
    rw [show std.le 0 (i : Int) = true from le_true (by omega), Bool.true_and]
    unfold othN
    by_cases hik : i = k
    · subst hik
      rw [eq_true' rfl]
      symm
      show _ = false
      rw [List.any_eq_false]
      intro j hj
      by_cases hji : j = i
      · subst hji; rw [eq_true' rfl]; simp [s_not]
      · intro hc
        rw [Bool.and_eq_true] at hc
        exact hji (name_once hv (List.mem_range.1 hj) h2 hc.2 h1)
    · rw [eq_false' (by omega)]
      symm
      show _ = true
      rw [List.any_eq_true]
      exact ⟨i, List.mem_range.2 h2, by rw [eq_false' (by omega), h1]; rfl⟩
theorem named_any (a : TL) (s : ByteArray) : std.le 0 (namedI a.fC s) = othN a.fC (-1) s := by
  unfold namedI othN
  rw [firstI_any]
  refine congrArg (fun f => (List.range a.fC.length).any f) ?_
  funext i
  rw [eq_false' (by omega)]
  rfl
/- the code of an edit, and its inverse -/
def insC (i n m : Int) : Int := if n < i then 2 else if n = m then 3 else 0
def delC (i n : Int) : Int := if n <= i then 5 else 0
def eCode (a : TL) (e : TE) : Int :=
  if (okLib a && okEdit e) = false then 1
  else if e.fk = 8 then (if (a.fC.length : Int) < e.fc then 5 else if (a.fC.length : Int) = 8 then 3 else if othN a.fC (-1) e.fN = true then 6 else 0)
  else if (a.fC.length : Int) <= e.fc then 5
  else if e.fk = 1 then insC e.fx (gd a.fC e.fc.toNat).fS.length 24
  else if e.fk = 2 then delC e.fx (gd a.fC e.fc.toNat).fS.length
  else if e.fk = 3 then insC e.fx (gd a.fC e.fc.toNat).fL.length 8
  else if e.fk = 4 then delC e.fx (gd a.fC e.fc.toNat).fL.length
  else if e.fk = 5 then (if insC e.fx (gd a.fC e.fc.toNat).fI.length 8 = 0 /\ e.fc <= e.fi_.fc then 6 else insC e.fx (gd a.fC e.fc.toNat).fI.length 8)
  else if e.fk = 6 then delC e.fx (gd a.fC e.fc.toNat).fI.length
  else if e.fk = 7 then (if othN a.fC e.fc e.fN = true then 6 else 0)
  else (if (a.fC.length : Int) = 1 \/ 0 < (gd a.fC e.fc.toNat).fS.length + (gd a.fC e.fc.toNat).fL.length + (gd a.fC e.fc.toNat).fI.length \/ placedB a e.fc = true then 6 else 0)
theorem okEdit_kind {e : TE} (h : okEdit e = true) : (e.fk = 1 \/ e.fk = 2 \/ e.fk = 3 \/ e.fk = 4 \/ e.fk = 5 \/ e.fk = 6 \/ e.fk = 7 \/ e.fk = 8 \/ e.fk = 9) /\ 0 <= e.fc /\ 0 <= e.fx := by
  unfold okEdit at h
  rw [Bool.and_eq_true, Bool.and_eq_true] at h
  obtain ⟨⟨h1, h2⟩, h3⟩ := h
  have e1 : 0 <= e.fc := by unfold wB at h1; simp [std] at h1; exact h1.1
  have e2 : 0 <= e.fx := by unfold wB at h2; simp [std] at h2; exact h2.1
  refine ⟨?_, e1, e2⟩
  by_cases hk : 1 <= e.fk /\ e.fk <= 9
  · omega
  · exfalso
    have n1 : ¬ e.fk = 1 := by omega
    have n2 : ¬ e.fk = 2 := by omega
    have n3 : ¬ e.fk = 3 := by omega
    have n4 : ¬ e.fk = 4 := by omega
    have n5 : ¬ e.fk = 5 := by omega
    have n6 : ¬ e.fk = 6 := by omega
    have n7 : ¬ e.fk = 7 := by omega
    have n8 : ¬ e.fk = 8 := by omega
    have n9 : ¬ e.fk = 9 := by omega
    simp only [n1, n2, n3, n4, n5, n6, n7, n8, n9, or_self, if_false] at h3
    cases h3
theorem br_dec {β : Type} {p : Prop} [Decidable p] (x y : Option β) : br (decide p) x y = if p then x else y := by
  by_cases h : p
  · rw [decide_eq_true h, if_pos h]; rfl
  · rw [decide_eq_false h, if_neg h]; rfl
theorem okLib_len {a : TL} (hv : okLib a = true) : 1 <= a.fC.length /\ a.fC.length <= 8 := by
  unfold okLib at hv
  simp only [Bool.and_eq_true, decide_eq_true_eq] at hv
  exact ⟨hv.1, hv.2.1⟩
theorem okLib_cell {a : TL} (hv : okLib a = true) {k : Nat} (hk : k < a.fC.length) : (gd a.fC k).fS.length <= 24 /\ (gd a.fC k).fL.length <= 8 /\ (gd a.fC k).fI.length <= 8 := by
  unfold okLib at hv
  simp only [Bool.and_eq_true, List.all_eq_true] at hv
  have := (hv.2.2 k (List.mem_range.2 hk)).1
  unfold okCell at this
  simp only [Bool.and_eq_true, decide_eq_true_eq] at this
  exact ⟨this.2.1, this.2.2.1, this.2.2.2.1⟩
theorem add3 {x y z : Nat} (h : x <= 1000 /\ y <= 1000 /\ z <= 1000) : std.add .i64 (std.add .i64 (x : Int) (y : Int)) (z : Int) = ((x + y + z : Nat) : Int) := by
  rw [add_id (x := (x : Int)) (y := (y : Int)) (by omega) (by omega), add_id (by omega) (by omega)]
  omega
set_option maxHeartbeats 4000000 in
theorem spec_l13Code_ok (a : TL) (e : TE) (h : SmallL a) (g : SmallE e) : Fq73 a e = some (eCode a e) := by
  have hm := maxLen_eq
  unfold Fq73
  rw [show TL.mk a.fC = a from rfl, spec_IsValidLibrary_ok a h, spec_IsValidEdit_ok e (by have := g.name; omega) (by have := g.lname; omega), obs, obs]
  cases hv : okLib a with
  | false => unfold eCode; rw [hv]; rfl
  | true =>
    cases he : okEdit e with
    | false => unfold eCode; rw [hv, he]; rfl
    | true =>
      obtain ⟨hk, hc, hi⟩ := okEdit_kind he
      have hl := okLib_len hv
      unfold eCode
      rw [hv, he]
      obtain ⟨kind, cell, index, name, shape, label, inst⟩ := e
      simp only at hk hc hi ⊢
      simp only [Bool.not_true, br_f, obs, letO_eq, Bool.and_self, s_le, s_eq, s_lt, br_dec, s_ofN, len_eq, s_not]
      by_cases hn : (a.fC.length : Int) <= cell
      · unfold Fq57
        rw [spec_l13Named_ok a _ _ (by have := h.cells; omega)]
        simp only [Bool.not_true, br_f, obs, letO_eq, s_le, s_eq, s_lt, br_dec, s_ofN, len_eq, s_not]
        rcases hk with rfl | rfl | rfl | rfl | rfl | rfl | rfl | rfl | rfl <;> simp [hn, br_bool]
        all_goals (repeat' split) <;> simp_all
      · obtain ⟨m, rfl⟩ := Int.eq_ofNat_of_zero_le hc
        have hm2 : m < a.fC.length := by omega
        have hcl := okLib_cell hv hm2
        have hin : std.inR (m : Int) a.fC.length := ⟨by omega, by omega⟩
        unfold Fq57 Fq84
        rw [spec_l13Named_ok a _ _ (by have := h.cells; omega), spec_l13Placed_ok a _ h, spec_l13Named_ok a _ _ (by have := h.cells; omega)]
        simp only [Bool.not_true, br_f, obs, letO_eq, s_le, s_eq, s_lt, br_dec, s_ofN, len_eq, s_not, s_toNn, req_of (inRl hm2), add3 (show (gd a.fC m).fS.length <= 1000 /\ (gd a.fC m).fL.length <= 1000 /\ (gd a.fC m).fI.length <= 1000 by omega)]
        cases hpb : placedB a (m : Int) <;> rcases hk with rfl | rfl | rfl | rfl | rfl | rfl | rfl | rfl | rfl <;> simp [hn, br_bool, insC, delC, Int.toNat_natCast]
        all_goals (try simp only [req_of hin])
        all_goals (repeat' split)
        all_goals (first | rfl | (simp_all; done) | omega | (simp_all; omega))
set_option maxHeartbeats 4000000 in
theorem impl_editCode_ok (a : TL) (e : TE) (h : SmallL a) (g : SmallE e) : Fq35 a e = some (eCode a e) := by
  have hm := maxLen_eq
  unfold Fq35
  rw [show TL.mk a.fC = a from rfl, impl_IsValidLibrary_ok a h, impl_IsValidEdit_ok e (by have := g.name; omega) (by have := g.lname; omega), obs, obs]
  cases hv : okLib a with
  | false => unfold eCode; rw [hv]; rfl
  | true =>
    cases he : okEdit e with
    | false => unfold eCode; rw [hv, he]; rfl
    | true =>
      obtain ⟨hk, hc, hi⟩ := okEdit_kind he
      have hl := okLib_len hv
      unfold eCode
      rw [hv, he]
      obtain ⟨kind, cell, index, name, shape, label, inst⟩ := e
      simp only at hk hc hi ⊢
      rw [impl_named_ok a name (by have := h.cells; omega)]
      simp only [Bool.not_true, br_f, obs, letO_eq, Bool.and_self]
      by_cases hn : (a.fC.length : Int) <= cell
      · simp only [named_any]
        simp only [s_le, s_eq, s_lt, br_dec, s_ofN, len_eq, s_not]
        rcases hk with rfl | rfl | rfl | rfl | rfl | rfl | rfl | rfl | rfl <;> simp [hn, br_bool]
        all_goals (repeat' split) <;> simp_all
      · obtain ⟨m, rfl⟩ := Int.eq_ofNat_of_zero_le hc
        have hm2 : m < a.fC.length := by omega
        have hcl := okLib_cell hv hm2
        have hin : std.inR (m : Int) a.fC.length := ⟨by omega, by omega⟩
        have hno := named_other hv m hm2 name
        have hw : wB (m : Int) 0 ((a.fC.length : Int) - 1) = true := by
          unfold wB
          rw [le_true (show (0 : Int) <= (m : Int) by omega), le_true (show (m : Int) <= (a.fC.length : Int) - 1 by omega)]
          rfl
        have hpl : decide ((0 : Int) < ((usersL a (m : Int) a.fC.length).length : Int)) = placedB a (m : Int) := by
          rw [<- usersL_any a (m : Int)]
          exact decide_eq_decide.2 (by omega)
        unfold Fq46 Fq45
        rw [impl_UsersOf_ok a _ h, hv, hw, Bool.and_self, if_pos rfl, obs]
        rw [show (((br (std.le 0 (namedI a.fC name)) (some (std.not (std.eq (namedI a.fC name) (m : Int)))) (some false)) : Option Bool)) = some (othN a.fC (m : Int) name) from by rw [<- hno]; cases std.le 0 (namedI a.fC name) <;> rfl]
        simp only [named_any]
        simp only [Bool.not_true, br_f, obs, letO_eq, s_le, s_eq, s_lt, br_dec, s_ofN, len_eq, s_not, s_toNn, req_of (inRl hm2), add3 (show (gd a.fC m).fS.length <= 1000 /\ (gd a.fC m).fL.length <= 1000 /\ (gd a.fC m).fI.length <= 1000 by omega)]
        rw [hpl]
        cases hpb : placedB a (m : Int) <;> rcases hk with rfl | rfl | rfl | rfl | rfl | rfl | rfl | rfl | rfl <;> simp [hn, br_bool, insC, delC, Int.toNat_natCast]
        all_goals (try simp only [req_of hin])
        all_goals (repeat' split)
        all_goals (first | rfl | (simp_all; done) | omega | (simp_all; omega))
/- the inverse: both sides -/
theorem eCode_zero {a : TL} {e : TE} (hc : eCode a e = 0) : okLib a = true /\ okEdit e = true /\ (e.fk ≠ 8 -> ∃ m : Nat, e.fc = (m : Int) /\ m < a.fC.length) := by
  have hb : (okLib a && okEdit e) = true := by
    cases h : (okLib a && okEdit e) with
    | true => rfl
    | false => exfalso; unfold eCode at hc; rw [if_pos h] at hc; exact absurd hc (by decide)
  rw [Bool.and_eq_true] at hb
  obtain ⟨hv, he⟩ := hb
  refine ⟨hv, he, fun h8 => ?_⟩
  obtain ⟨_, h1, _⟩ := okEdit_kind he
  obtain ⟨m, hm⟩ := Int.eq_ofNat_of_zero_le h1
  refine ⟨m, hm, ?_⟩
  unfold eCode at hc
  rw [if_neg (by rw [hv, he]; decide), if_neg h8] at hc
  by_cases hn : (a.fC.length : Int) <= e.fc
  · rw [if_pos hn] at hc; exact absurd hc (by decide)
  · omega
theorem eCode_index {a : TL} {e : TE} {m : Nat} (hc : eCode a e = 0) (hm : e.fc = (m : Int)) (hlt : m < a.fC.length) : (e.fk = 2 -> ∃ q : Nat, e.fx = (q : Int) /\ q < (gd a.fC m).fS.length) /\ (e.fk = 4 -> ∃ q : Nat, e.fx = (q : Int) /\ q < (gd a.fC m).fL.length) /\ (e.fk = 6 -> ∃ q : Nat, e.fx = (q : Int) /\ q < (gd a.fC m).fI.length) := by
  obtain ⟨hv, he, _⟩ := eCode_zero hc
  obtain ⟨_, _, h2⟩ := okEdit_kind he
  obtain ⟨q, hq⟩ := Int.eq_ofNat_of_zero_le h2
  unfold eCode at hc
  rw [if_neg (by rw [hv, he]; decide)] at hc
  have key : ∀ n : Nat, delC e.fx n = 0 -> q < n := fun n h => by
    unfold delC at h
    by_cases hh : (n : Int) <= e.fx
    · rw [if_pos hh] at h; exact absurd h (by decide)
    · omega
  have hn : ¬ (a.fC.length : Int) <= e.fc := by omega
  have ht : e.fc.toNat = m := by omega
  rw [ht] at hc
  refine ⟨fun hk => ⟨q, hq, ?_⟩, fun hk => ⟨q, hq, ?_⟩, fun hk => ⟨q, hq, ?_⟩⟩
  · rw [if_neg (by omega), if_neg hn, if_neg (by omega), if_pos hk] at hc; exact key _ hc
  · rw [if_neg (by omega), if_neg hn, if_neg (by omega), if_neg (by omega), if_neg (by omega), if_pos hk] at hc; exact key _ hc
  · rw [if_neg (by omega), if_neg hn, if_neg (by omega), if_neg (by omega), if_neg (by omega), if_neg (by omega), if_neg (by omega), if_pos hk] at hc; exact key _ hc
def zSh : TS := ⟨0, ⟨0, 0, 0, 0⟩⟩
def zLa : TB := ⟨0, ⟨0, 0⟩, ByteArray.mk #[]⟩
def zIn : TI := ⟨0, ⟨0, 0, 0⟩, 0, 0, 0, 0⟩
theorem eqd (x y : Int) : std.eq x y = decide (x = y) := s_eq x y
/- copies of libraries -/
theorem roomC {n b : Nat} (hn : n <= 10000000) (hb : b <= 1000) : std.room n b := by
  rw [s_room]
  exact Nat.le_trans (Nat.mul_le_mul hn hb) (by omega)
theorem cloneShape_ok (l : List TS) (h : l.length <= 10000000) : Fq71 l = some l := by
  unfold Fq71 nilB
  have e : (letO ([] : List TS) fun l1 => req (std.room (std.nadd (len l1) (len l)) 40) <| letO (l1 ++ l) fun l3 => some l3) = some l := by
    simp only [letO_eq]
    rw [req_of (roomC (by rw [s_nadd, len_eq, len_eq]; simp; omega) (by omega)), List.nil_append]
  rw [e]
  by_cases h0 : l.length = 0
  · rw [List.length_eq_zero_iff.1 h0]; simp
  · rw [if_neg (by rw [len_eq]; omega)]
theorem cloneLabel_ok (l : List TB) (h : l.length <= 10000000) : Fq68 l = some l := by
  unfold Fq68 nilB
  have e : (letO ([] : List TB) fun l1 => req (std.room (std.nadd (len l1) (len l)) 40) <| letO (l1 ++ l) fun l3 => some l3) = some l := by
    simp only [letO_eq]
    rw [req_of (roomC (by rw [s_nadd, len_eq, len_eq]; simp; omega) (by omega)), List.nil_append]
  rw [e]
  by_cases h0 : l.length = 0
  · rw [List.length_eq_zero_iff.1 h0]; simp
  · rw [if_neg (by rw [len_eq]; omega)]
theorem cloneInstance_ok (l : List TI) (h : l.length <= 10000000) : Fq83 l = some l := by
  unfold Fq83 nilB
  have e : (letO ([] : List TI) fun l1 => req (std.room (std.nadd (len l1) (len l)) 64) <| letO (l1 ++ l) fun l3 => some l3) = some l := by
    simp only [letO_eq]
    rw [req_of (roomC (by rw [s_nadd, len_eq, len_eq]; simp; omega) (by omega)), List.nil_append]
  rw [e]
  by_cases h0 : l.length = 0
  · rw [List.length_eq_zero_iff.1 h0]; simp
  · rw [if_neg (by rw [len_eq]; omega)]
theorem impl_copyCell_ok (c : TC) (h : SmallC c) : Fq59 c = some c := by
  have h1 := h.shapes
  have h2 := h.labels
  have h3 := h.insts
  unfold Fq59
  rw [cloneShape_ok _ (by omega), obs, cloneLabel_ok _ (by omega), obs, cloneInstance_ok _ (by omega), obs]
theorem impl_copyLibrary_ok (a : TL) (h : SmallL a) : Fq21 a = some a := by
  have hl := h.cells
  unfold Fq21
  rw [show whileP (Lq21_x3 a) (0, ([] : List TC)) = some a.fC from ?_]
  · rfl
  refine while_from (fun i => ((i : Int), a.fC.take i)) a.fC.length rfl (fun i hi => ?_) ?_
  · simp only [Lq21_x3, letO_eq]
    rw [ltl_t hi, br_t, req_of (inRl hi), s_toNn, impl_copyCell_ok _ (h.cell _ (gd_mem hi)), obs, req_of (roomC (by rw [s_nadd, len_eq, len_eq, List.length_take, List.length_singleton]; omega) (by omega)), obs, inc_nat (by omega), List.take_succ_eq_append_getElem hi, gd_lt hi]
  · simp only [Lq21_x3, letO_eq]
    rw [ltl_f, br_f, List.take_length]
/- the inverse of an edit that is possible -/
def invE (a : TL) (e : TE) : TE :=
  if e.fk = 1 then ⟨2, e.fc, e.fx, ByteArray.mk #[], zSh, zLa, zIn⟩
  else if e.fk = 2 then ⟨1, e.fc, e.fx, ByteArray.mk #[], gd (gd a.fC e.fc.toNat).fS e.fx.toNat, zLa, zIn⟩
  else if e.fk = 3 then ⟨4, e.fc, e.fx, ByteArray.mk #[], zSh, zLa, zIn⟩
  else if e.fk = 4 then ⟨3, e.fc, e.fx, ByteArray.mk #[], zSh, gd (gd a.fC e.fc.toNat).fL e.fx.toNat, zIn⟩
  else if e.fk = 5 then ⟨6, e.fc, e.fx, ByteArray.mk #[], zSh, zLa, zIn⟩
  else if e.fk = 6 then ⟨5, e.fc, e.fx, ByteArray.mk #[], zSh, zLa, gd (gd a.fC e.fc.toNat).fI e.fx.toNat⟩
  else if e.fk = 7 then ⟨7, e.fc, e.fx, (gd a.fC e.fc.toNat).fN, zSh, zLa, zIn⟩
  else if e.fk = 8 then ⟨9, e.fc, e.fx, ByteArray.mk #[], zSh, zLa, zIn⟩
  else ⟨8, e.fc, e.fx, (gd a.fC e.fc.toNat).fN, zSh, zLa, zIn⟩
set_option maxHeartbeats 4000000 in
theorem impl_inverse_ok (a : TL) (e : TE) (hc : eCode a e = 0) : Fq42 a e = some (invE a e) := by
  obtain ⟨hv, he, hcell⟩ := eCode_zero hc
  obtain ⟨hk, h1, hi⟩ := okEdit_kind he
  by_cases h8 : e.fk = 8
  · obtain ⟨kind, cell, index, name, shape, label, inst⟩ := e
    simp only at h8
    subst h8
    rfl
  · obtain ⟨m, hm, hlt⟩ := hcell h8
    obtain ⟨i2, i4, i6⟩ := eCode_index hc hm hlt
    clear hc he hcell
    obtain ⟨kind, cell, index, name, shape, label, inst⟩ := e
    simp only at hk h1 hi h8 hm i2 i4 i6
    subst hm
    rcases hk with rfl | rfl | rfl | rfl | rfl | rfl | rfl | rfl | rfl
    · rfl
    · obtain ⟨q, rfl, hq⟩ := i2 rfl
      unfold Fq42
      simp only [s_toNn, req_of (inRl hlt), req_of (inRl hq)]
      rfl
    · rfl
    · obtain ⟨q, rfl, hq⟩ := i4 rfl
      unfold Fq42
      simp only [s_toNn, req_of (inRl hlt), req_of (inRl hq)]
      rfl
    · rfl
    · obtain ⟨q, rfl, hq⟩ := i6 rfl
      unfold Fq42
      simp only [s_toNn, req_of (inRl hlt), req_of (inRl hq)]
      rfl
    · unfold Fq42
      simp only [s_toNn, req_of (inRl hlt)]
      rfl
    · exact absurd rfl h8
    · unfold Fq42
      simp only [s_toNn, req_of (inRl hlt)]
      rfl
/- references to cells are shifted: both sides -/
def mid {α : Type} (g : α -> α) (l : List α) (i : Nat) : List α := (l.take i).map g ++ l.drop i
theorem mid_len {α : Type} (g : α -> α) (l : List α) (i : Nat) : (mid g l i).length = l.length := by
  simp [mid]; omega
theorem mid_all {α : Type} (g : α -> α) (l : List α) : mid g l l.length = l.map g := by simp [mid]
theorem mid_gd {α : Type} [Inhabited α] {g : α -> α} {l : List α} {i : Nat} (h : i < l.length) : gd (mid g l i) i = gd l i := by
  rw [gd_lt (show i < (mid g l i).length by rw [mid_len]; exact h), gd_lt h]
  unfold mid
  rw [List.getElem_append_right (by simp; omega)]
  simp [Nat.min_eq_left (Nat.le_of_lt h)]
theorem mid_set {α : Type} [Inhabited α] {g : α -> α} {l : List α} {i : Nat} (h : i < l.length) {x : α} (hx : x = g (gd l i)) : List.set (mid g l i) i x = mid g l (i + 1) := by
  subst hx
  unfold mid
  have hm : ((l.take i).map g).length = i := by simp; omega
  rw [List.set_append, if_neg (by omega), hm, Nat.sub_self, List.drop_eq_getElem_cons h, List.take_succ_eq_append_getElem h, gd_lt h, List.set_cons_zero, List.map_append, List.append_assoc]
  rfl
theorem mid_same {α : Type} [Inhabited α] {g : α -> α} {l : List α} {i : Nat} (h : i < l.length) (e : g (gd l i) = gd l i) : mid g l i = mid g l (i + 1) := by
  unfold mid
  rw [List.drop_eq_getElem_cons h, List.take_succ_eq_append_getElem h, <- gd_lt h]
  simp [e]
def shI (f b : Int) (i : TI) : TI := cond (std.le f i.fc) ⟨std.add .i64 i.fc b, i.fp, i.fK, i.fR, i.fu, i.fv⟩ i
def shC (f b : Int) (c : TC) : TC := ⟨c.fN, c.fS, c.fL, c.fI.map (shI f b)⟩
theorem impl_shiftIn (a : TL) (f b : Int) (k : Nat) (v2 : List TC) (hk : a.fC.length = v2.length) (hn : (gd v2 k).fI.length <= 10000000) :
    whileP (Lq11_x34 a f b (k : Int) v2 (std.ofN (len (gd v2 k).fI))) (0, (gd v2 k).fI) = some (v2.set k (shC f b (gd v2 k))) := by
  obtain ⟨c, hc⟩ : ∃ c, c = gd v2 k := ⟨_, rfl⟩
  rw [<- hc] at hn ⊢
  refine while_from (fun i => ((i : Int), mid (shI f b) c.fI i)) c.fI.length rfl (fun i hi => ?_) ?_
  · simp only [Lq11_x34, letO_eq, obs, s_nadd, s_toNn, Nat.zero_add, <- hc, mid_gd hi]
    rw [ltl_t hi, br_t, req_of (inRl hi), obs, inc_nat (by omega)]
    cases hle : std.le f (gd c.fI i).fc with
    | false =>
      simp only [br_f, obs]
      rw [mid_same hi (by unfold shI; rw [hle]; rfl)]
    | true =>
      simp only [br_t, obs, req_of (inRl hi)]
      rw [req_of (show len c.fI = len (mid (shI f b) c.fI i) by rw [len_eq, len_eq, mid_len]), obs, obs, mid_set hi (by unfold shI; rw [hle]; rfl)]
  · simp only [Lq11_x34, letO_eq, obs, s_nadd, s_toNn, Nat.zero_add, <- hc]
    rw [ltl_f, br_f, mid_all, req_of (show len c.fI = len (c.fI.map (shI f b)) by rw [len_eq, len_eq, List.length_map]), req_of (show len a.fC = len v2 from hk)]
    rfl
theorem impl_renumber_ok (a : TL) (f b : Int) (h : SmallL a) : Fq11 a f b = some (a.fC.map (shC f b)) := by
  have hc := h.cells
  unfold Fq11
  refine Eq.trans (bind_of (while_from (r := a.fC.map (shC f b)) (fun i => ((i : Int), mid (shC f b) a.fC i)) a.fC.length rfl (fun i hi => ?_) ?_)) ?_
  · have hi2 := (h.cell _ (gd_mem hi)).insts
    simp only [Lq11_x3, letO_eq, obs, s_nadd, s_toNn, Nat.zero_add]
    rw [ltl_t hi, br_t, req_of (inRl hi), req_of (inRl hi), obs, impl_shiftIn a f b i _ (by rw [mid_len]) (by rw [mid_gd hi]; omega), obs, inc_nat (by omega), mid_gd hi, mid_set hi rfl]
  · simp only [Lq11_x3, letO_eq]
    rw [ltl_f, br_f, mid_all]
  · simp only [letO_eq]
    rw [req_of (by rw [len_eq, len_eq, List.length_map])]
/- an edit that is possible: both sides -/
def insA {α : Type} (l : List α) (i : Nat) (x : α) : List α := l.take i ++ [x] ++ l.drop i
def delA {α : Type} (l : List α) (i : Nat) : List α := l.take i ++ l.drop (i + 1)
def edC (e : TE) (c : TC) : TC :=
  if e.fk = 1 then ⟨c.fN, insA c.fS e.fx.toNat e.fs_, c.fL, c.fI⟩
  else if e.fk = 2 then ⟨c.fN, delA c.fS e.fx.toNat, c.fL, c.fI⟩
  else if e.fk = 3 then ⟨c.fN, c.fS, insA c.fL e.fx.toNat e.fl_, c.fI⟩
  else if e.fk = 4 then ⟨c.fN, c.fS, delA c.fL e.fx.toNat, c.fI⟩
  else if e.fk = 5 then ⟨c.fN, c.fS, c.fL, insA c.fI e.fx.toNat e.fi_⟩
  else if e.fk = 6 then ⟨c.fN, c.fS, c.fL, delA c.fI e.fx.toNat⟩
  else if e.fk = 7 then ⟨e.fN, c.fS, c.fL, c.fI⟩
  else c
def appE (a : TL) (e : TE) : TL :=
  if e.fk = 8 then ⟨insA (a.fC.map (shC e.fc 1)) e.fc.toNat ⟨e.fN, [], [], []⟩⟩
  else if e.fk = 9 then ⟨(delA a.fC e.fc.toNat).map (shC e.fc (-1))⟩
  else ⟨a.fC.set e.fc.toNat (edC e (gd a.fC e.fc.toNat))⟩
theorem insC_zero {i : Int} {n : Nat} {m : Int} (h : insC i n m = 0) : i <= n /\ (n : Int) ≠ m := by
  unfold insC at h
  by_cases h1 : (n : Int) < i
  · rw [if_pos h1] at h; exact absurd h (by decide)
  · rw [if_neg h1] at h
    by_cases h2 : (n : Int) = m
    · rw [if_pos h2] at h; exact absurd h (by decide)
    · exact ⟨by omega, h2⟩
/-- where an insertion may stand -/
theorem eCode_ins {a : TL} {e : TE} {m : Nat} (hc : eCode a e = 0) (hm : e.fc = (m : Int)) (hlt : m < a.fC.length) : (e.fk = 1 -> e.fx <= ((gd a.fC m).fS.length : Int) /\ ((gd a.fC m).fS.length : Int) ≠ 24) /\ (e.fk = 3 -> e.fx <= ((gd a.fC m).fL.length : Int) /\ ((gd a.fC m).fL.length : Int) ≠ 8) /\ (e.fk = 5 -> (e.fx <= ((gd a.fC m).fI.length : Int) /\ ((gd a.fC m).fI.length : Int) ≠ 8) /\ e.fi_.fc < e.fc) := by
  obtain ⟨hv, he, _⟩ := eCode_zero hc
  unfold eCode at hc
  rw [if_neg (by rw [hv, he]; decide)] at hc
  have hn : ¬ (a.fC.length : Int) <= e.fc := by omega
  have ht : e.fc.toNat = m := by omega
  rw [ht] at hc
  refine ⟨fun hk => ?_, fun hk => ?_, fun hk => ?_⟩
  · rw [if_neg (by omega), if_neg hn, if_pos hk] at hc; exact insC_zero hc
  · rw [if_neg (by omega), if_neg hn, if_neg (by omega), if_neg (by omega), if_pos hk] at hc; exact insC_zero hc
  · rw [if_neg (by omega), if_neg hn, if_neg (by omega), if_neg (by omega), if_neg (by omega), if_neg (by omega), if_pos hk] at hc
    by_cases h1 : insC e.fx (gd a.fC m).fI.length 8 = 0 /\ e.fc <= e.fi_.fc
    · rw [if_pos h1] at hc; exact absurd hc (by decide)
    · rw [if_neg h1] at hc
      exact ⟨insC_zero hc, by by_cases h2 : e.fc <= e.fi_.fc; exact absurd ⟨hc, h2⟩ h1; omega⟩
theorem eCode_cell {a : TL} {e : TE} (hc : eCode a e = 0) (hk : e.fk = 8) : e.fc <= (a.fC.length : Int) /\ (a.fC.length : Int) ≠ 8 /\ othN a.fC (-1) e.fN = false := by
  obtain ⟨hv, he, _⟩ := eCode_zero hc
  unfold eCode at hc
  rw [if_neg (by rw [hv, he]; decide), if_pos hk] at hc
  by_cases h1 : (a.fC.length : Int) < e.fc
  · rw [if_pos h1] at hc; exact absurd hc (by decide)
  · rw [if_neg h1] at hc
    by_cases h2 : (a.fC.length : Int) = 8
    · rw [if_pos h2] at hc; exact absurd hc (by decide)
    · rw [if_neg h2] at hc
      refine ⟨by omega, h2, ?_⟩
      cases h3 : othN a.fC (-1) e.fN with
      | false => rfl
      | true => rw [h3, if_pos rfl] at hc; exact absurd hc (by decide)
theorem room_of {n b : Nat} (hn : n <= 1000000) (hb : b <= 1000) : std.room n b := roomC (by omega) hb
theorem small_ins {a : TL} (h : SmallL a) (m : Nat) (s : ByteArray) (hs : s.size <= 1048576) (hn : a.fC.length <= 1000) : SmallL ⟨List.take m a.fC ++ [⟨s, [], [], []⟩] ++ List.drop m a.fC⟩ := by
  refine ⟨by simp only [List.length_append, List.length_take, List.length_drop, List.length_cons, List.length_nil]; omega, fun c hc => ?_⟩
  simp only [List.mem_append, List.mem_singleton] at hc
  rcases hc with (hc | rfl) | hc
  · exact h.cell c (List.mem_of_mem_take hc)
  · exact ⟨hs, by simp, by simp, by simp, by simp⟩
  · exact h.cell c (List.mem_of_mem_drop hc)
theorem small_del {a : TL} (h : SmallL a) (m : Nat) : SmallL ⟨delA a.fC m⟩ := by
  have hl := h.cells
  refine ⟨by simp only [delA, List.length_append, List.length_take, List.length_drop]; omega, fun c hc => ?_⟩
  simp only [delA, List.mem_append] at hc
  rcases hc with hc | hc
  · exact h.cell c (List.mem_of_mem_take hc)
  · exact h.cell c (List.mem_of_mem_drop hc)
theorem insA_map {f b : Int} (l : List TC) (m : Nat) (s : ByteArray) : List.map (shC f b) (List.take m l ++ [⟨s, [], [], []⟩] ++ List.drop m l) = insA (l.map (shC f b)) m ⟨s, [], [], []⟩ := by
  unfold insA
  rw [List.map_append, List.map_append, List.map_take, List.map_drop]
  rfl
set_option maxHeartbeats 4000000 in
theorem impl_edited_ok (a : TL) (e : TE) (h : SmallL a) (g : SmallE e) (hc : eCode a e = 0) : Fq80 a e = some (appE a e) := by
  have hcl := h.cells
  obtain ⟨hv, he, hcell⟩ := eCode_zero hc
  obtain ⟨hk, h1, hi⟩ := okEdit_kind he
  have hl := okLib_len hv
  obtain ⟨m, hm⟩ := Int.eq_ofNat_of_zero_le h1
  obtain ⟨q, hq⟩ := Int.eq_ofNat_of_zero_le hi
  unfold Fq80
  rw [impl_copyLibrary_ok a h, obs]
  by_cases h8 : e.fk = 8
  · obtain ⟨c1, c2, _⟩ := eCode_cell hc h8
    rw [hm] at c1
    unfold appE
    rw [if_pos h8, h8, hm, show std.eq (8 : Int) 8 = true from rfl, br_t]
    have c3 : m <= a.fC.length := by omega
    simp only [letO_eq]
    unfold Fq16
    rw [if_pos ⟨by omega, by omega, by simp, by simp; omega⟩, obs, Int.toNat_natCast]
    rw [impl_renumber_ok _ _ _ (small_ins h m e.fN (by have := g.name; omega) (by omega)), obs]
    rw [req_of (by simp [len_eq]), req_of (by simp [len_eq])]
    rw [insA_map]
  · obtain ⟨m2, hm2, hlt⟩ := hcell h8
    obtain rfl : m = m2 := by omega
    clear hm2
    by_cases h9 : e.fk = 9
    · unfold appE
      rw [if_neg h8, if_pos h9, h9, hm, show std.eq (9 : Int) 8 = false from rfl, show std.eq (9 : Int) 9 = true from rfl, br_f, br_t]
      have hm1 : std.add .i64 (m : Int) 1 = ((m + 1 : Nat) : Int) := inc_nat (by omega)
      unfold Fq90 Fq55
      rw [hm1, if_pos ⟨by omega, by omega, by omega⟩, obs, obs, Int.toNat_natCast, Int.toNat_natCast]
      rw [show List.take m a.fC ++ List.drop (m + 1) a.fC = delA a.fC m from rfl, impl_renumber_ok ⟨delA a.fC m⟩ _ _ (small_del h m), obs]
      rw [req_of (by simp [len_eq]), req_of (by simp [len_eq])]
    · have hk7 : e.fk = 1 \/ e.fk = 2 \/ e.fk = 3 \/ e.fk = 4 \/ e.fk = 5 \/ e.fk = 6 \/ e.fk = 7 := by omega
      unfold appE
      rw [if_neg h8, if_neg h9]
      obtain ⟨d2, d4, d6⟩ := eCode_index hc hm hlt
      obtain ⟨n1, n3, n5⟩ := eCode_ins hc hm hlt
      obtain ⟨b1, b2, b3⟩ := okLib_cell hv hlt
      have hq1 : q <= 1000 -> std.add .i64 (q : Int) 1 = ((q + 1 : Nat) : Int) := fun hh => inc_nat (by omega)
      have hin : std.inR (m : Int) a.fC.length := ⟨by omega, by omega⟩
      clear hcell h8 h9 hk hc
      obtain ⟨kind, cell, index, name, shape, label, inst⟩ := e
      simp only at hk7 hm hq d2 d4 d6 n1 n3 n5 ⊢
      subst hm hq
      obtain ⟨c, hcd⟩ : ∃ c, c = gd a.fC m := ⟨_, rfl⟩
      rw [<- hcd] at d2 d4 d6 n1 n3 n5 b1 b2 b3
      have hgd : gd a.fC (Int.toNat (m : Int)) = c := by rw [Int.toNat_natCast, hcd]
      have hset : ∀ x : TC, (a.fC.set m x).length = a.fC.length := fun x => List.length_set
      rcases hk7 with rfl | rfl | rfl | rfl | rfl | rfl | rfl
      · obtain ⟨j1, j2⟩ := n1 rfl
        simp only [edC, hgd, Int.toNat_natCast, Int.reduceEq, if_true, if_false, eq_self]
        have ei : Fq15 c.fS (q : Int) [shape] = some (insA c.fS q shape) := by
          unfold Fq15
          rw [if_pos ⟨by omega, by omega, by simp, by simp; omega⟩, Int.toNat_natCast]
          rfl
        simp only [show std.eq (1 : Int) 1 = true from rfl, show std.eq (1 : Int) 2 = false from rfl, show std.eq (1 : Int) 3 = false from rfl, show std.eq (1 : Int) 4 = false from rfl, show std.eq (1 : Int) 5 = false from rfl, show std.eq (1 : Int) 6 = false from rfl, show std.eq (1 : Int) 7 = false from rfl, show std.eq (1 : Int) 8 = false from rfl, show std.eq (1 : Int) 9 = false from rfl, ei, br_f, br_t, obs, letO_eq, s_ofN, s_toNn, s_nadd, s_nsub, Nat.zero_add, len_eq, List.nil_append, show std.toN 0 = 0 from rfl, Nat.sub_zero, List.drop_zero, List.length_append, List.length_take, List.length_drop, List.length_cons, List.length_nil, List.length_map, <- hcd, hset]
        repeat (rw [req_of]; rotate_left; focus (first | trivial | exact ⟨by omega, by omega⟩ | exact room_of (by omega) (by omega) | omega))
      · obtain ⟨q2, j1, j2⟩ := d2 rfl
        obtain rfl : q = q2 := by omega
        simp only [edC, hgd, Int.toNat_natCast, Int.reduceEq, if_true, if_false, eq_self]
        have ei : Fq77 c.fS (q : Int) = some (delA c.fS q) := by
          unfold Fq77 Fq52
          rw [hq1 (by omega), if_pos ⟨by omega, by omega, by omega⟩, Int.toNat_natCast, Int.toNat_natCast]
          rfl
        simp only [show std.eq (2 : Int) 1 = false from rfl, show std.eq (2 : Int) 2 = true from rfl, show std.eq (2 : Int) 3 = false from rfl, show std.eq (2 : Int) 4 = false from rfl, show std.eq (2 : Int) 5 = false from rfl, show std.eq (2 : Int) 6 = false from rfl, show std.eq (2 : Int) 7 = false from rfl, show std.eq (2 : Int) 8 = false from rfl, show std.eq (2 : Int) 9 = false from rfl, hq1 (show q <= 1000 by omega), ei, br_f, br_t, obs, letO_eq, s_ofN, s_toNn, s_nadd, s_nsub, Nat.zero_add, len_eq, List.nil_append, show std.toN 0 = 0 from rfl, Nat.sub_zero, List.drop_zero, List.length_append, List.length_take, List.length_drop, List.length_cons, List.length_nil, List.length_map, <- hcd, hset]
        repeat (rw [req_of]; rotate_left; focus (first | trivial | exact ⟨by omega, by omega⟩ | exact room_of (by omega) (by omega) | omega))
      · obtain ⟨j1, j2⟩ := n3 rfl
        simp only [edC, hgd, Int.toNat_natCast, Int.reduceEq, if_true, if_false, eq_self]
        have ei : Fq14 c.fL (q : Int) [label] = some (insA c.fL q label) := by
          unfold Fq14
          rw [if_pos ⟨by omega, by omega, by simp, by simp; omega⟩, Int.toNat_natCast]
          rfl
        simp only [show std.eq (3 : Int) 1 = false from rfl, show std.eq (3 : Int) 2 = false from rfl, show std.eq (3 : Int) 3 = true from rfl, show std.eq (3 : Int) 4 = false from rfl, show std.eq (3 : Int) 5 = false from rfl, show std.eq (3 : Int) 6 = false from rfl, show std.eq (3 : Int) 7 = false from rfl, show std.eq (3 : Int) 8 = false from rfl, show std.eq (3 : Int) 9 = false from rfl, ei, br_f, br_t, obs, letO_eq, s_ofN, s_toNn, s_nadd, s_nsub, Nat.zero_add, len_eq, List.nil_append, show std.toN 0 = 0 from rfl, Nat.sub_zero, List.drop_zero, List.length_append, List.length_take, List.length_drop, List.length_cons, List.length_nil, List.length_map, <- hcd, hset]
        repeat (rw [req_of]; rotate_left; focus (first | trivial | exact ⟨by omega, by omega⟩ | exact room_of (by omega) (by omega) | omega))
      · obtain ⟨q2, j1, j2⟩ := d4 rfl
        obtain rfl : q = q2 := by omega
        simp only [edC, hgd, Int.toNat_natCast, Int.reduceEq, if_true, if_false, eq_self]
        have ei : Fq61 c.fL (q : Int) = some (delA c.fL q) := by
          unfold Fq61 Fq54
          rw [hq1 (by omega), if_pos ⟨by omega, by omega, by omega⟩, Int.toNat_natCast, Int.toNat_natCast]
          rfl
        simp only [show std.eq (4 : Int) 1 = false from rfl, show std.eq (4 : Int) 2 = false from rfl, show std.eq (4 : Int) 3 = false from rfl, show std.eq (4 : Int) 4 = true from rfl, show std.eq (4 : Int) 5 = false from rfl, show std.eq (4 : Int) 6 = false from rfl, show std.eq (4 : Int) 7 = false from rfl, show std.eq (4 : Int) 8 = false from rfl, show std.eq (4 : Int) 9 = false from rfl, hq1 (show q <= 1000 by omega), ei, br_f, br_t, obs, letO_eq, s_ofN, s_toNn, s_nadd, s_nsub, Nat.zero_add, len_eq, List.nil_append, show std.toN 0 = 0 from rfl, Nat.sub_zero, List.drop_zero, List.length_append, List.length_take, List.length_drop, List.length_cons, List.length_nil, List.length_map, <- hcd, hset]
        repeat (rw [req_of]; rotate_left; focus (first | trivial | exact ⟨by omega, by omega⟩ | exact room_of (by omega) (by omega) | omega))
      · obtain ⟨⟨j1, j2⟩, _⟩ := n5 rfl
        simp only [edC, hgd, Int.toNat_natCast, Int.reduceEq, if_true, if_false, eq_self]
        have ei : Fq13 c.fI (q : Int) [inst] = some (insA c.fI q inst) := by
          unfold Fq13
          rw [if_pos ⟨by omega, by omega, by simp, by simp; omega⟩, Int.toNat_natCast]
          rfl
        simp only [show std.eq (5 : Int) 1 = false from rfl, show std.eq (5 : Int) 2 = false from rfl, show std.eq (5 : Int) 3 = false from rfl, show std.eq (5 : Int) 4 = false from rfl, show std.eq (5 : Int) 5 = true from rfl, show std.eq (5 : Int) 6 = false from rfl, show std.eq (5 : Int) 7 = false from rfl, show std.eq (5 : Int) 8 = false from rfl, show std.eq (5 : Int) 9 = false from rfl, ei, br_f, br_t, obs, letO_eq, s_ofN, s_toNn, s_nadd, s_nsub, Nat.zero_add, len_eq, List.nil_append, show std.toN 0 = 0 from rfl, Nat.sub_zero, List.drop_zero, List.length_append, List.length_take, List.length_drop, List.length_cons, List.length_nil, List.length_map, <- hcd, hset]
        repeat (rw [req_of]; rotate_left; focus (first | trivial | exact ⟨by omega, by omega⟩ | exact room_of (by omega) (by omega) | omega))
      · obtain ⟨q2, j1, j2⟩ := d6 rfl
        obtain rfl : q = q2 := by omega
        simp only [edC, hgd, Int.toNat_natCast, Int.reduceEq, if_true, if_false, eq_self]
        have ei : Fq63 c.fI (q : Int) = some (delA c.fI q) := by
          unfold Fq63 Fq53
          rw [hq1 (by omega), if_pos ⟨by omega, by omega, by omega⟩, Int.toNat_natCast, Int.toNat_natCast]
          rfl
        simp only [show std.eq (6 : Int) 1 = false from rfl, show std.eq (6 : Int) 2 = false from rfl, show std.eq (6 : Int) 3 = false from rfl, show std.eq (6 : Int) 4 = false from rfl, show std.eq (6 : Int) 5 = false from rfl, show std.eq (6 : Int) 6 = true from rfl, show std.eq (6 : Int) 7 = false from rfl, show std.eq (6 : Int) 8 = false from rfl, show std.eq (6 : Int) 9 = false from rfl, hq1 (show q <= 1000 by omega), ei, br_f, br_t, obs, letO_eq, s_ofN, s_toNn, s_nadd, s_nsub, Nat.zero_add, len_eq, List.nil_append, show std.toN 0 = 0 from rfl, Nat.sub_zero, List.drop_zero, List.length_append, List.length_take, List.length_drop, List.length_cons, List.length_nil, List.length_map, <- hcd, hset]
        repeat (rw [req_of]; rotate_left; focus (first | trivial | exact ⟨by omega, by omega⟩ | exact room_of (by omega) (by omega) | omega))
      · simp only [edC, hgd, Int.toNat_natCast, Int.reduceEq, if_true, if_false, eq_self]
        simp only [show std.eq (7 : Int) 1 = false from rfl, show std.eq (7 : Int) 2 = false from rfl, show std.eq (7 : Int) 3 = false from rfl, show std.eq (7 : Int) 4 = false from rfl, show std.eq (7 : Int) 5 = false from rfl, show std.eq (7 : Int) 6 = false from rfl, show std.eq (7 : Int) 7 = true from rfl, show std.eq (7 : Int) 8 = false from rfl, show std.eq (7 : Int) 9 = false from rfl, br_f, br_t, obs, letO_eq, s_ofN, s_toNn, s_nadd, s_nsub, Nat.zero_add, len_eq, List.nil_append, show std.toN 0 = 0 from rfl, Nat.sub_zero, List.drop_zero, List.length_append, List.length_take, List.length_drop, List.length_cons, List.length_nil, List.length_map, <- hcd, hset]
        repeat (rw [req_of]; rotate_left; focus (first | trivial | exact ⟨by omega, by omega⟩ | exact room_of (by omega) (by omega) | omega))
/- ApplyEdit: both sides -/
theorem wBi (x a b : Int) : wB x a b = true ↔ (a <= x /\ x <= b) := by
  unfold wB
  rw [Bool.and_eq_true]
  show (decide (a <= x) = true /\ decide (x <= b) = true) ↔ _
  rw [decide_eq_true_eq, decide_eq_true_eq]
theorem insA_len {α : Type} (l : List α) (i : Nat) (x : α) : (insA l i x).length = l.length + 1 := by
  unfold insA
  simp only [List.length_append, List.length_take, List.length_drop, List.length_cons, List.length_nil]
  omega
theorem delA_len {α : Type} (l : List α) (i : Nat) : (delA l i).length <= l.length := by
  unfold delA
  simp only [List.length_append, List.length_take, List.length_drop]
  omega
theorem insA_mem {α : Type} {l : List α} {i : Nat} {x y : α} (h : y ∈ insA l i x) : y ∈ l \/ y = x := by
  unfold insA at h
  simp only [List.mem_append, List.mem_singleton] at h
  rcases h with (h | h) | h
  · exact .inl (List.mem_of_mem_take h)
  · exact .inr h
  · exact .inl (List.mem_of_mem_drop h)
theorem delA_mem {α : Type} {l : List α} {i : Nat} {y : α} (h : y ∈ delA l i) : y ∈ l := by
  unfold delA at h
  rw [List.mem_append] at h
  rcases h with h | h
  · exact List.mem_of_mem_take h
  · exact List.mem_of_mem_drop h
theorem small_shC {c : TC} (h : SmallC c) (f b : Int) : SmallC (shC f b c) :=
  ⟨h.name, h.shapes, h.labels, by show (c.fI.map _).length <= _; rw [List.length_map]; exact h.insts, h.lnames⟩
theorem small_edC {c : TC} {e : TE} (h : SmallC c) (g : SmallE e) (h1 : c.fS.length <= 1000) (h2 : c.fL.length <= 1000) (h3 : c.fI.length <= 1000) : SmallC (edC e c) := by
  have i1 := insA_len c.fS e.fx.toNat e.fs_
  have i2 := insA_len c.fL e.fx.toNat e.fl_
  have i3 := insA_len c.fI e.fx.toNat e.fi_
  have d1 := delA_len c.fS e.fx.toNat
  have d2 := delA_len c.fL e.fx.toNat
  have d3 := delA_len c.fI e.fx.toNat
  unfold edC
  split
  · exact ⟨h.name, by simp only; omega, h.labels, h.insts, h.lnames⟩
  split
  · exact ⟨h.name, by simp only; omega, h.labels, h.insts, h.lnames⟩
  split
  · refine ⟨h.name, h.shapes, by simp only; omega, h.insts, fun l hl => ?_⟩
    rcases insA_mem hl with hl | rfl
    · exact h.lnames l hl
    · exact g.lname
  split
  · exact ⟨h.name, h.shapes, by simp only; omega, h.insts, fun l hl => h.lnames l (delA_mem hl)⟩
  split
  · exact ⟨h.name, h.shapes, h.labels, by simp only; omega, h.lnames⟩
  split
  · exact ⟨h.name, h.shapes, h.labels, by simp only; omega, h.lnames⟩
  split
  · exact ⟨g.name, h.shapes, h.labels, h.insts, h.lnames⟩
  · exact h
theorem small_appE (a : TL) (e : TE) (h : SmallL a) (g : SmallE e) (hc : eCode a e = 0) : SmallL (appE a e) := by
  have hcl := h.cells
  obtain ⟨hv, he, hcell⟩ := eCode_zero hc
  have hl := okLib_len hv
  unfold appE
  split
  · refine ⟨by rw [insA_len, List.length_map]; omega, fun c hm => ?_⟩
    rcases insA_mem hm with hm | rfl
    · obtain ⟨c0, h0, rfl⟩ := List.mem_map.1 hm
      exact small_shC (h.cell _ h0) _ _
    · exact ⟨g.name, by simp, by simp, by simp, by simp⟩
  split
  · refine ⟨by rw [List.length_map]; have := delA_len a.fC e.fc.toNat; omega, fun c hm => ?_⟩
    obtain ⟨c0, h0, rfl⟩ := List.mem_map.1 hm
    exact small_shC (h.cell _ (delA_mem h0)) _ _
  · rename_i h8 h9
    obtain ⟨m, hm, hlt⟩ := hcell h8
    obtain ⟨b1, b2, b3⟩ := okLib_cell hv hlt
    have ht : e.fc.toNat = m := by omega
    rw [ht]
    refine ⟨by rw [List.length_set]; exact hcl, fun c hm => ?_⟩
    rcases List.mem_or_eq_of_mem_set hm with hm | rfl
    · exact h.cell c hm
    · exact small_edC (h.cell _ (gd_mem hlt)) g (by omega) (by omega) (by omega)
def apR (a : TL) (e : TE) : TL × Int := if eCode a e = 0 then (appE a e, 0) else (⟨[]⟩, eCode a e)
theorem apR_small (a : TL) (e : TE) (h : SmallL a) (g : SmallE e) : SmallL (apR a e).1 := by
  unfold apR
  split
  · rename_i hc; exact small_appE a e h g hc
  · exact ⟨by simp, fun c hc => by cases hc⟩
theorem impl_ApplyEdit_ok (a : TL) (e : TE) (h : SmallL a) (g : SmallE e) : Fq47 a e = some (apR a e) := by
  unfold Fq47 apR
  rw [impl_editCode_ok a e h g, obs]
  by_cases hc : eCode a e = 0
  · rw [if_pos hc, hc, notEq (eq_true' rfl), br_f, impl_edited_ok a e h g hc]
    rfl
  · rw [if_neg hc, eq_false' hc, s_not, Bool.not_false, br_t]
end
end Go.Proofs.YtohgghncmkiicaaGreat.AM
