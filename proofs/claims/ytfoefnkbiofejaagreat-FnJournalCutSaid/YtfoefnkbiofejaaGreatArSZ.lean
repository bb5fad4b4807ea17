/-
  What the functions that the law reaches compute, and that they do. No condition.
-/
import Derived.Test.YtfoefnkbiofejaaGreatArSR
import Derived.Test.YtfoefnkbiofejaaGreatArP
namespace Go.Proofs.YtfoefnkbiofejaaGreat.AM
noncomputable section
open Go Go.Proofs Go.RowKit
set_option linter.unusedVariables false
set_option linter.unusedSimpArgs false
set_option maxRecDepth 100000

def wB (a b c : Int) : Bool := std.le b a && std.le a c
theorem spec_l09In_ok (a b c : Int) : Fq1 a b c = some (wB a b c) := by
  unfold Fq1 wB
  cases std.le b a <;> rfl
theorem impl_within_ok (a b c : Int) : Fq3 a b c = some (wB a b c) := by
  unfold Fq3 wB
  cases std.le b a <;> rfl
def okRect (a : TRect) : Bool := std.le (-40) a.fX0 && (std.lt a.fX0 a.fX1 && (std.le a.fX1 40 && (std.le (-40) a.fY0 && (std.lt a.fY0 a.fY1 && std.le a.fY1 40))))
theorem spec_l09Rect_ok (a : TRect) : Fq117 a = some (okRect a) := by
  unfold Fq117 okRect
  cases std.le (-40) a.fX0 <;> cases std.lt a.fX0 a.fX1 <;> cases std.le a.fX1 40 <;> cases std.le (-40) a.fY0 <;> cases std.lt a.fY0 a.fY1 <;> rfl
theorem impl_IsValidRect_ok (a : TRect) : Fq107 a = some (okRect a) := by
  unfold Fq107 okRect
  cases std.le (-40) a.fX0 <;> cases std.lt a.fX0 a.fX1 <;> cases std.le a.fX1 40 <;> cases std.le (-40) a.fY0 <;> cases std.lt a.fY0 a.fY1 <;> rfl
theorem spec_l09Layer_ok (a : Int) : Fq65 a = some (wB a 0 7) := by
  unfold Fq65
  rw [spec_l09In_ok]; rfl
def okShape (a : TS) : Bool := wB a.fy 0 7 && okRect a.fb
theorem spec_l09Shape_ok (a : TS) : Fq61 a = some (okShape a) := by
  unfold Fq61 okShape
  rw [spec_l09Layer_ok, spec_l09Rect_ok]
  cases wB a.fy 0 7 <;> rfl
theorem impl_validShape_ok (a : TS) : Fq58 a = some (okShape a) := by
  unfold Fq58 okShape
  rw [impl_within_ok, impl_IsValidRect_ok]
  cases wB a.fy 0 7 <;> rfl
def okPoint (a : TPoint) : Bool := wB a.fX (-40) 39 && wB a.fY (-40) 39
theorem spec_l09Unit_ok (a : TPoint) : Fq97 a = some (okPoint a) := by
  unfold Fq97 okPoint
  rw [spec_l09In_ok, spec_l09In_ok]
  cases wB a.fX (-40) 39 <;> rfl
theorem impl_isUnitCell_ok (a : TPoint) : Fq100 a = some (okPoint a) := by
  unfold Fq100 okPoint
  rw [impl_within_ok, impl_within_ok]
  cases wB a.fX (-40) 39 <;> rfl
def okName (s : ByteArray) (i : Nat) : Bool :=
  (std.le 97 (std.sat s i) && std.le (std.sat s i) 122) || (std.le 48 (std.sat s i) && std.le (std.sat s i) 57)
def isName (s : ByteArray) : Bool := (List.range s.size).all (okName s) && (decide (1 <= s.size) && decide (s.size <= 8))
theorem lt_le (a b : Int) : std.lt a b = !std.le b a := by
  rw [s_lt, s_le]
  by_cases h : a < b
  · have : ¬ b <= a := by omega
    simp [h]
  · have : b <= a := by omega
    simp [h, this]
theorem nameEnd (s : ByteArray) (b : Bool) : ((match (if b then .inr () else .inl () : Unit ⊕ Unit) with
    | .inl _ => some false
    | .inr _ => ((br (std.le 1 (std.ofN (std.slen s))) (some (std.le (std.ofN (std.slen s)) 8)) (some false)) : Option Bool).bind fun y33 => letO y33 fun w39 => some w39) : Option Bool) = some (b && (decide (1 <= s.size) && decide (s.size <= 8))) := by
  cases b with
  | false => rfl
  | true =>
    have e1 : std.le 1 (std.ofN (std.slen s)) = decide (1 <= s.size) := by rw [s_le, s_ofN, s_slen]; congr 1; simp; omega
    have e2 : std.le (std.ofN (std.slen s)) 8 = decide (s.size <= 8) := by rw [s_le, s_ofN, s_slen]; congr 1; simp; omega
    simp only [if_true, e1, e2, br_bool, lq, Bool.true_and]
    cases decide (1 <= s.size) <;> rfl
theorem spec_IsName_ok (s : ByteArray) (hs : s.size <= maxLen) : Fq19 s = some (isName s) := by
  have hb := maxLen_eq
  unfold Fq19
  refine Eq.trans (bind_of (scan (ok := okName s) (n := s.size) (yes := .inr ()) (no := .inl ()) (fun i hi => ?_) ?_)) (nameEnd s _)
  · simp only [Lq19_x2, lq, s_toNn, ro_ (show std.inR (i : Int) (std.slen s) from inRn hi), okName]
    rw [lt_true (by rw [s_ofN, s_slen]; omega), br_t, inc_nat (by omega)]
    generalize std.sat s i = c
    cases std.le 97 c <;> cases std.le c 122 <;> cases std.le 48 c <;> cases std.le c 57 <;> rfl
  · simp only [Lq19_x2, lq]
    rw [lt_false (by rw [s_ofN, s_slen]; omega)]; rfl
theorem impl_IsName_ok (s : ByteArray) (hs : s.size <= maxLen) : Fq17 s = some (isName s) := by
  have hb := maxLen_eq
  unfold Fq17
  refine Eq.trans (bind_of (scan (ok := okName s) (n := s.size) (yes := .inr ()) (no := .inl ()) (fun i hi => ?_) ?_)) (nameEnd s _)
  · simp only [Lq17_x2, lq, s_toNn, ro_ (show std.inR (i : Int) (std.slen s) from inRn hi), okName]
    rw [lt_true (by rw [s_ofN, s_slen]; omega), br_t, inc_nat (by omega)]
    generalize std.sat s i = c
    rw [lt_le c 97, lt_le c 48, lt_le 122 c, lt_le 57 c]
    cases std.le 97 c <;> cases std.le c 122 <;> cases std.le 48 c <;> cases std.le c 57 <;> rfl
  · simp only [Lq17_x2, lq]
    rw [lt_false (by rw [s_ofN, s_slen]; omega)]; rfl
def okLabel (a : TB) : Bool := wB a.fy 0 7 && (okPoint a.fa && isName a.fN)
theorem spec_l09Label_ok (a : TB) (h : a.fN.size <= maxLen) : Fq62 a = some (okLabel a) := by
  unfold Fq62 okLabel
  rw [spec_l09Layer_ok, spec_l09Unit_ok, spec_IsName_ok _ h]
  cases wB a.fy 0 7 <;> cases okPoint a.fa <;> rfl
theorem impl_validLabel_ok (a : TB) (h : a.fN.size <= maxLen) : Fq66 a = some (okLabel a) := by
  unfold Fq66 okLabel
  rw [impl_within_ok, impl_isUnitCell_ok, impl_IsName_ok _ h]
  cases wB a.fy 0 7 <;> cases okPoint a.fa <;> rfl
def okTr (a : TM) : Bool := wB a.fo 0 7 && (wB a.fX (-80) 80 && wB a.fY (-80) 80)
theorem spec_l09Transform_ok (a : TM) : Fq111 a = some (okTr a) := by
  unfold Fq111 okTr
  simp only [spec_l09In_ok]
  cases wB a.fo 0 7 <;> cases wB a.fX (-80) 80 <;> rfl
theorem impl_IsValidTransform_ok (a : TM) : Fq86 a = some (okTr a) := by
  unfold Fq86 okTr
  simp only [impl_within_ok]
  cases wB a.fo 0 7 <;> cases wB a.fX (-80) 80 <;> rfl
def okInst (a : TI) (m : Int) : Bool := wB a.fc 0 (std.sub .i64 m 1) && (okTr a.fp && (wB a.fK 1 4 && (wB a.fR 1 4 && (wB a.fu (-80) 80 && (wB a.fv (-80) 80 && ((std.lt 1 a.fK || std.eq a.fu 0) && (std.lt 1 a.fR || std.eq a.fv 0)))))))
theorem spec_l09Instance_ok (a : TI) (m : Int) : Fq49 a m = some (okInst a m) := by
  unfold Fq49 okInst
  simp only [spec_l09In_ok, spec_l09Transform_ok]
  cases wB a.fc 0 (std.sub .i64 m 1) <;> cases okTr a.fp <;> cases wB a.fK 1 4 <;> cases wB a.fR 1 4 <;> try rfl
  cases wB a.fu (-80) 80 <;> cases wB a.fv (-80) 80 <;> try rfl
  cases std.lt 1 a.fK <;> cases std.eq a.fu 0 <;> cases std.lt 1 a.fR <;> cases std.eq a.fv 0 <;> rfl
theorem impl_validInstance_ok (a : TI) (m : Int) : Fq54 a m = some (okInst a m) := by
  unfold Fq54 okInst
  simp only [impl_within_ok, impl_IsValidTransform_ok]
  cases wB a.fc 0 (std.sub .i64 m 1) <;> cases okTr a.fp <;> cases wB a.fK 1 4 <;> cases wB a.fR 1 4 <;> try rfl
  cases wB a.fu (-80) 80 <;> cases wB a.fv (-80) 80 <;> try rfl
  cases std.lt 1 a.fK <;> cases std.eq a.fu 0 <;> cases std.lt 1 a.fR <;> cases std.eq a.fv 0 <;> rfl
/-- nothing is great -/
structure SmallC (c : TC) : Prop where
  name : c.fN.size <= 1048576
  shapes : c.fS.length <= 1048576
  labels : c.fL.length <= 1048576
  insts : c.fI.length <= 1048576
  lnames : ∀ l ∈ c.fL, l.fN.size <= 1048576
structure SmallL (a : TL) : Prop where
  cells : a.fC.length <= 1048576
  cell : ∀ c ∈ a.fC, SmallC c
def wfC (c : TC) : Prop := c.fN.size <= maxLen /\ c.fS.length <= maxLen /\ c.fL.length <= maxLen /\ c.fI.length <= maxLen /\ ∀ l ∈ c.fL, l.fN.size <= maxLen
def wfLb (a : TL) : Prop := a.fC.length <= maxLen /\ ∀ c ∈ a.fC, wfC c
def okCell (c : TC) (k : Int) : Bool := isName c.fN && (decide (c.fS.length <= 24) && (decide (c.fL.length <= 8) && (decide (c.fI.length <= 8) && (c.fS.all okShape && (c.fL.all okLabel && c.fI.all fun x => okInst x k)))))
theorem lt_lit (n : Nat) (k : Nat) : std.lt (k : Int) (std.ofN n) = !decide (n <= k) := by
  rw [s_lt, s_ofN]
  by_cases h : n <= k
  · have : ¬ ((k : Int) < (n : Int)) := by omega
    simp [h, this]
  · have : ((k : Int) < (n : Int)) := by omega
    simp [h, this]
theorem spec_l09Cell_ok (c : TC) (k : Int) (h : SmallC c) : Fq13 c k = some (okCell c k) := by
  have hb := maxLen_eq
  have e24 := lt_lit c.fS.length 24
  have e8 := lt_lit c.fL.length 8
  have e8' := lt_lit c.fI.length 8
  have s1 := h.shapes; have s2 := h.labels; have s3 := h.insts
  unfold Fq13 okCell
  rw [spec_IsName_ok _ (by have := h.name; omega)]
  simp only [obs, lq, eL_, show (24 : Int) = ((24 : Nat) : Int) from rfl, show (8 : Int) = ((8 : Nat) : Int) from rfl, e24, e8, e8']
  cases isName c.fN with
  | false => rfl
  | true =>
    cases decide (c.fS.length <= 24) with
    | false => rfl
    | true =>
      cases decide (c.fL.length <= 8) with
      | false => rfl
      | true =>
        cases decide (c.fI.length <= 8) with
        | false => rfl
        | true =>
          simp only [Bool.not_true, br_f, obs, Bool.true_and]
          rw [bind_of (scan (ok := fun i => okShape (gd c.fS i)) (n := c.fS.length) (yes := .inr ()) (no := .inl false) (fun i hi => ?_) ?_), range_all]
          · cases c.fS.all okShape with
            | false => rfl
            | true =>
              simp only [if_true, Bool.true_and]
              rw [bind_of (scan (ok := fun i => okLabel (gd c.fL i)) (n := c.fL.length) (yes := .inr ()) (no := .inl false) (fun i hi => ?_) ?_), range_all]
              · cases c.fL.all okLabel with
                | false => rfl
                | true =>
                  simp only [if_true, Bool.true_and]
                  rw [bind_of (scan (ok := fun i => okInst (gd c.fI i) k) (n := c.fI.length) (yes := .inr ()) (no := .inl false) (fun i hi => ?_) ?_), range_all (fun x => okInst x k)]
                  · cases c.fI.all fun x => okInst x k <;> rfl
                  · simp only [Lq13_x52, lq]
                    rw [ltl_f, br_f]
                  · simp only [Lq13_x52, lq, s_toNn]
                    rw [ltl_t hi, br_t, ro_ (inRl hi), spec_l09Instance_ok, obs, inc_nat (by omega)]
                    cases okInst (gd c.fI i) k <;> rfl
              · simp only [Lq13_x33, lq]
                rw [ltl_f, br_f]
              · simp only [Lq13_x33, lq, s_toNn]
                rw [ltl_t hi, br_t, ro_ (inRl hi), spec_l09Label_ok _ (by have := h.lnames _ (gd_mem hi); omega), obs, inc_nat (by omega)]
                cases okLabel (gd c.fL i) <;> rfl
          · simp only [Lq13_x14, lq]
            rw [ltl_f, br_f]
          · simp only [Lq13_x14, lq, s_toNn]
            rw [ltl_t hi, br_t, ro_ (inRl hi), spec_l09Shape_ok, obs, inc_nat (by omega)]
            cases okShape (gd c.fS i) <;> rfl
/-- a loop that stops at the first element that is met -/
theorem scan_first {step : Int -> Option (Int ⊕ (Int ⊕ Unit))} {p : Nat -> Bool} {n : Nat} (h : ∀ i : Nat, i < n -> step i = some (cond (p i) (.inr (.inl (i : Int))) (.inl ((i + 1 : Nat) : Int)))) (hn : step n = some (.inr (.inr ()))) :
    whileP step 0 = some (match (List.range n).find? p with | some i => .inl (i : Int) | none => .inr ()) := by
  have key : ∀ m i : Nat, i + m = n -> whileP step i = some (match (List.range' i m).find? p with | some i => .inl (i : Int) | none => .inr ()) := by
    intro m
    induction m with
    | zero =>
      intro i hi
      have : i = n := by omega
      subst this
      rw [whileP_unfold, hn]; rfl
    | succ m ih =>
      intro i hi
      rw [whileP_unfold, h i (by omega)]
      cases hb : p i with
      | true => simp [List.range', hb]
      | false =>
        simp only [cond]
        rw [ih (i + 1) (by omega)]
        simp [List.range', hb]
  have := key n 0 (by omega)
  rw [List.range_eq_range']
  exact this
def firstI (p : Nat -> Bool) (n : Nat) : Int := match (List.range n).find? p with | some i => (i : Int) | none => -1
theorem firstI_any (p : Nat -> Bool) (n : Nat) : std.le 0 (firstI p n) = (List.range n).any p := by
  unfold firstI
  cases h : (List.range n).find? p with
  | none =>
    rw [List.find?_eq_none] at h
    have : (List.range n).any p = false := by rw [List.any_eq_false]; exact h
    rw [this]; show std.le 0 (-1) = false; exact le_false (by omega)
  | some i =>
    have h1 := List.find?_some h
    have h2 := List.mem_of_find?_eq_some h
    have : (List.range n).any p = true := by rw [List.any_eq_true]; exact ⟨i, h2, h1⟩
    rw [this]; show std.le 0 (i : Int) = true; exact le_true (by omega)
theorem range_any {α : Type} [Inhabited α] (p : α -> Bool) (l : List α) : (List.range l.length).any (fun i => !p (gd l i)) = !l.all p := by
  rw [<- range_all p l, List.all_eq_not_any_not, Bool.not_not]
theorem containsShape (l : List TS) (h : l.length <= 10000000) : Fq101 l = some (!l.all okShape) := by
  unfold Fq101 Fq67
  rw [bind_of (scan_first (p := fun i => !okShape (gd l i)) (n := l.length) (fun i hi => ?_) ?_)]
  · rw [<- range_any okShape l, <- firstI_any]
    unfold firstI
    cases (List.range l.length).find? (fun i => !okShape (gd l i)) <;> rfl
  · simp only [Lq67_x2, lq]
    rw [ltl_f, br_f]
  · simp only [Lq67_x2, lq, s_toNn, Fq118]
    rw [ltl_t hi, br_t, ro_ (inRl hi), impl_validShape_ok, obs, obs, inc_nat (by omega)]
    cases okShape (gd l i) <;> rfl
theorem containsLabel (l : List TB) (h : l.length <= 10000000) (hn : ∀ x ∈ l, x.fN.size <= maxLen) : Fq89 l = some (!l.all okLabel) := by
  unfold Fq89 Fq59
  rw [bind_of (scan_first (p := fun i => !okLabel (gd l i)) (n := l.length) (fun i hi => ?_) ?_)]
  · rw [<- range_any okLabel l, <- firstI_any]
    unfold firstI
    cases (List.range l.length).find? (fun i => !okLabel (gd l i)) <;> rfl
  · simp only [Lq59_x2, lq]
    rw [ltl_f, br_f]
  · simp only [Lq59_x2, lq, s_toNn, Fq124]
    rw [ltl_t hi, br_t, ro_ (inRl hi), impl_validLabel_ok _ (hn _ (gd_mem hi)), obs, obs, inc_nat (by omega)]
    cases okLabel (gd l i) <;> rfl
theorem containsInst (l : List TI) (k : Int) (h : l.length <= 10000000) : Fq115 l k = some (!l.all fun x => okInst x k) := by
  unfold Fq115 Fq56
  rw [bind_of (scan_first (p := fun i => !okInst (gd l i) k) (n := l.length) (fun i hi => ?_) ?_)]
  · rw [<- range_any (fun x => okInst x k) l, <- firstI_any]
    unfold firstI
    cases (List.range l.length).find? (fun i => !okInst (gd l i) k) <;> rfl
  · simp only [Lq56_x2, lq]
    rw [ltl_f, br_f]
  · simp only [Lq56_x2, lq, s_toNn, Fq126]
    rw [ltl_t hi, br_t, ro_ (inRl hi), impl_validInstance_ok, obs, obs, inc_nat (by omega)]
    cases okInst (gd l i) k <;> rfl
theorem impl_validCell_ok (c : TC) (k : Int) (h : SmallC c) : Fq4 c k = some (okCell c k) := by
  have hb := maxLen_eq
  have e24 := lt_lit c.fS.length 24
  have e8 := lt_lit c.fL.length 8
  have e8' := lt_lit c.fI.length 8
  unfold Fq4 okCell
  rw [impl_IsName_ok _ (by have := h.name; omega), containsShape _ (by have := h.shapes; omega), containsLabel _ (by have := h.labels; omega) (fun x hx => by have := h.lnames x hx; omega), containsInst _ _ (by have := h.insts; omega)]
  simp only [obs, lq, eL_, show (24 : Int) = ((24 : Nat) : Int) from rfl, show (8 : Int) = ((8 : Nat) : Int) from rfl, e24, e8, e8']
  cases isName c.fN <;> cases decide (c.fS.length <= 24) <;> cases decide (c.fL.length <= 8) <;> cases decide (c.fI.length <= 8) <;> cases c.fS.all okShape <;> cases c.fL.all okLabel <;> cases (c.fI.all fun x => okInst x k) <;> rfl
/-- the first cell with this name -/
def namedI (l : List TC) (s : ByteArray) : Int := firstI (fun i => std.seq (gd l i).fN s) l.length
theorem impl_named_ok (a : TL) (s : ByteArray) (h : a.fC.length <= 10000000) : Fq11 a s = some (namedI a.fC s) := by
  unfold Fq11 Fq55
  rw [bind_of (scan_first (p := fun i => std.seq (gd a.fC i).fN s) (n := a.fC.length) (fun i hi => ?_) ?_)]
  · unfold namedI firstI
    cases (List.range a.fC.length).find? (fun i => std.seq (gd a.fC i).fN s) <;> rfl
  · simp only [Lq55_x2, lq]
    rw [ltl_f, br_f]
  · simp only [Lq55_x2, lq, s_toNn, Fq121]
    rw [ltl_t hi, br_t, ro_ (inRl hi), obs, inc_nat (by omega)]
    cases std.seq (gd a.fC i).fN s <;> rfl
/-- no cell ahead of k has its name -/
def fresh (l : List TC) (k : Nat) : Bool := (List.range k).all fun j => !std.seq (gd l j).fN (gd l k).fN
theorem find_first (p : Nat -> Bool) (n k : Nat) (hk : k < n) (hp : p k = true) : (List.range n).find? p = some k ↔ (List.range k).all (fun j => !p j) = true := by
  rw [List.all_eq_true, List.find?_eq_some_iff_append]
  constructor
  · rintro ⟨h1, l1, l2, h2, h3⟩ j hj
    apply h3
    have hlen : l1.length = k := by
      have h4 : (List.range n)[l1.length]? = some k := by rw [h2]; simp
      have hlt : l1.length < n := by
        have := (List.getElem?_eq_some_iff.1 h4).1
        simpa using this
      rw [List.getElem?_range hlt] at h4
      injection h4
    have h5 : l1 = List.range k := by
      have := congrArg (List.take l1.length) h2
      rw [List.take_left', List.take_range] at this
      · rw [<- this, hlen]; congr 1; omega
      · rfl
    rw [h5]; exact hj
  · intro h
    refine ⟨hp, List.range k, List.range' (k + 1) (n - (k + 1)), ?_, fun j hj => h j hj⟩
    rw [List.range_eq_range', List.range_eq_range', show n = k + (1 + (n - (k + 1))) by omega, <- List.range'_append_1, Nat.add_comm 1, List.range'_succ]
    simp
    omega
theorem named_first (l : List TC) (k : Nat) (hk : k < l.length) : std.eq (namedI l (gd l k).fN) (k : Int) = fresh l k := by
  rw [s_eq, Bool.eq_iff_iff]
  unfold fresh
  rw [<- find_first (fun i => std.seq (gd l i).fN (gd l k).fN) l.length k hk (seq_self _)]
  unfold namedI firstI
  cases h : (List.range l.length).find? (fun i => std.seq (gd l i).fN (gd l k).fN) with
  | none => simp
  | some i => simp; omega
def okLib (a : TL) : Bool := decide (1 <= a.fC.length) && (decide (a.fC.length <= 8) && (List.range a.fC.length).all fun k => okCell (gd a.fC k) k && fresh a.fC k)
theorem lt_one (n : Nat) : std.lt (std.ofN n) 1 = !decide (1 <= n) := by
  rw [s_lt, s_ofN]
  by_cases h : 1 <= n
  · have : ¬ ((n : Int) < 1) := by omega
    simp [h, this]
  · have : ((n : Int) < 1) := by omega
    simp [h, this]
theorem spec_IsValidLibrary_ok (a : TL) (h : SmallL a) : Fq9 a = some (okLib a) := by
  have hl := h.cells
  have e8 := lt_lit a.fC.length 8
  unfold Fq9 okLib
  simp only [lq, eL_, show (8 : Int) = ((8 : Nat) : Int) from rfl, e8, lt_one]
  cases decide (1 <= a.fC.length) with
  | false => rfl
  | true =>
    cases decide (a.fC.length <= 8) with
    | false => rfl
    | true =>
      simp only [Bool.not_true, br_f, obs, Bool.true_and]
      rw [bind_of (scan (ok := fun k => okCell (gd a.fC k) k && fresh a.fC k) (n := a.fC.length) (yes := .inr ()) (no := .inl false) (fun i hi => ?_) ?_)]
      · cases (List.range a.fC.length).all fun k => okCell (gd a.fC k) k && fresh a.fC k <;> rfl
      · simp only [Lq9_x10, lq]
        rw [ltl_f, br_f]
      · simp only [Lq9_x10, lq, s_toNn]
        rw [ltl_t hi, br_t, ro_ (inRl hi), spec_l09Cell_ok _ _ (h.cell _ (gd_mem hi)), obs, inc_nat (by omega)]
        cases okCell (gd a.fC i) (i : Int) with
        | false => rfl
        | true =>
          simp only [Bool.not_true, br_f, Bool.true_and]
          rw [bind_of (scan (ok := fun j => !std.seq (gd a.fC j).fN (gd a.fC i).fN) (n := i) (yes := .inr ()) (no := .inl false) (fun j hj => ?_) ?_)]
          · unfold fresh
            cases (List.range i).all fun j => !std.seq (gd a.fC j).fN (gd a.fC i).fN <;> rfl
          · simp only [Lq9_x26, lq]
            rw [lt_false (by omega), br_f]
          · simp only [Lq9_x26, lq, s_toNn]
            rw [lt_true (by omega), br_t, ro_ (inRl (by omega)), ro_ (inRl hi), inc_nat (by omega)]
            cases std.seq (gd a.fC j).fN (gd a.fC i).fN <;> rfl
theorem impl_IsValidLibrary_ok (a : TL) (h : SmallL a) : Fq6 a = some (okLib a) := by
  have hl := h.cells
  have e8 := lt_lit a.fC.length 8
  unfold Fq6 okLib
  simp only [lq, eL_, show (8 : Int) = ((8 : Nat) : Int) from rfl, e8, lt_one]
  cases decide (1 <= a.fC.length) with
  | false => rfl
  | true =>
    cases decide (a.fC.length <= 8) with
    | false => rfl
    | true =>
      simp only [Bool.not_true, br_f, obs, Bool.true_and]
      rw [bind_of (scan (ok := fun k => okCell (gd a.fC k) k && fresh a.fC k) (n := a.fC.length) (yes := .inr ()) (no := .inl false) (fun i hi => ?_) ?_)]
      · cases (List.range a.fC.length).all fun k => okCell (gd a.fC k) k && fresh a.fC k <;> rfl
      · simp only [Lq6_x10, lq]
        rw [ltl_f, br_f]
      · simp only [Lq6_x10, lq, s_toNn]
        rw [ltl_t hi, br_t, ro_ (inRl hi), impl_validCell_ok _ _ (h.cell _ (gd_mem hi)), obs, inc_nat (by omega)]
        cases okCell (gd a.fC i) (i : Int) with
        | false => rfl
        | true =>
          simp only [Bool.not_true, br_f, Bool.true_and]
          rw [impl_named_ok _ _ (show a.fC.length <= 10000000 by omega), obs, named_first _ _ hi]
          cases fresh a.fC i <;> rfl

/- sz, to, eq of an edit -/
structure SmallE (a : TE) : Prop where
  name : a.fN.size <= 1048576
  lname : a.fl_.fN.size <= 1048576
/- is it an edit -/
theorem eq_self' (x : Int) : std.eq x x = true := by simp [std]
theorem eq_zero (x : Int) : std.eq 0 x = std.eq x 0 := by simp only [std]; exact Bool.beq_comm
theorem seq_zero (x : ByteArray) : std.seq (ByteArray.mk #[]) x = std.seq x (ByteArray.mk #[]) := by simp only [std]; exact Bool.beq_comm
theorem band_and (a b : Bool) : std.band a b = (a && b) := rfl
theorem not_not' (a : Bool) : std.not a = !a := rfl
def zS (a : TS) : Bool := std.eq a.fy 0 && (std.eq a.fb.fX0 0 && (std.eq a.fb.fY0 0 && (std.eq a.fb.fX1 0 && std.eq a.fb.fY1 0)))
def zL (a : TB) : Bool := std.eq a.fy 0 && ((std.eq a.fa.fX 0 && std.eq a.fa.fY 0) && std.seq a.fN (ByteArray.mk #[]))
def zI (a : TI) : Bool := std.eq a.fc 0 && ((std.eq a.fp.fo 0 && (std.eq a.fp.fX 0 && std.eq a.fp.fY 0)) && (std.eq a.fK 0 && (std.eq a.fR 0 && (std.eq a.fu 0 && std.eq a.fv 0))))
theorem spec_l13NoShape_ok (a : TS) : Fq75 a = some (zS a) := by
  unfold Fq75 zS
  simp only [band_and, Bool.and_true]
theorem spec_l13NoLabel_ok (a : TB) : Fq79 a = some (zL a) := by
  unfold Fq79 zL
  simp only [band_and, Bool.and_true]
theorem spec_l13NoInstance_ok (a : TI) : Fq106 a = some (zI a) := by
  unfold Fq106 zI
  simp only [band_and, Bool.and_true]
/-- is it an edit -/
def okEdit (a : TE) : Bool :=
  (wB a.fc 0 8 && wB a.fx 0 24) &&
  (if a.fk_ = 1 then std.seq a.fN (ByteArray.mk #[]) && okShape a.fs_ && zL a.fl_ && zI a.fi_
   else if a.fk_ = 3 then std.seq a.fN (ByteArray.mk #[]) && zS a.fs_ && okLabel a.fl_ && zI a.fi_
   else if a.fk_ = 5 then std.seq a.fN (ByteArray.mk #[]) && zS a.fs_ && zL a.fl_ && okInst a.fi_ 8
   else if a.fk_ = 2 \/ a.fk_ = 4 \/ a.fk_ = 6 then std.seq a.fN (ByteArray.mk #[]) && zS a.fs_ && zL a.fl_ && zI a.fi_
   else if a.fk_ = 7 \/ a.fk_ = 8 then std.eq a.fx 0 && isName a.fN && zS a.fs_ && zL a.fl_ && zI a.fi_
   else if a.fk_ = 9 then std.eq a.fx 0 && std.seq a.fN (ByteArray.mk #[]) && zS a.fs_ && zL a.fl_ && zI a.fi_
   else false)
theorem eq_dec (x y : Int) : std.eq x y = decide (x = y) := by
  simp only [std]
  by_cases h : x = y <;> simp [h]
theorem spec_IsValidEdit_ok (a : TE) (h1 : a.fN.size <= maxLen) (h2 : a.fl_.fN.size <= maxLen) : Fq102 a = some (okEdit a) := by
  unfold Fq102 okEdit
  simp only [spec_l09In_ok, spec_IsName_ok _ h1, spec_l09Shape_ok, spec_l13NoShape_ok, spec_l09Label_ok _ h2, spec_l13NoLabel_ok, spec_l09Instance_ok, spec_l13NoInstance_ok, not_not']
  generalize okShape a.fs_ = s1
  generalize zS a.fs_ = s2
  generalize okLabel a.fl_ = l1
  generalize zL a.fl_ = l2
  generalize okInst a.fi_ 8 = i1
  generalize zI a.fi_ = i2
  generalize isName a.fN = n1
  generalize std.seq a.fN _ = n2
  generalize wB a.fc 0 8 = c1
  generalize wB a.fx 0 24 = c2
  generalize std.eq a.fx 0 = c3
  generalize a.fk_ = k
  by_cases hk : 1 <= k /\ k <= 9
  · have : k = 1 \/ k = 2 \/ k = 3 \/ k = 4 \/ k = 5 \/ k = 6 \/ k = 7 \/ k = 8 \/ k = 9 := by omega
    rcases this with rfl | rfl | rfl | rfl | rfl | rfl | rfl | rfl | rfl <;> cases c1 <;> cases c2 <;> try rfl
    all_goals (cases c3 <;> try rfl)
    all_goals (cases n2 <;> try rfl)
    all_goals (cases n1 <;> try rfl)
    all_goals (cases s2 <;> try rfl)
    all_goals (cases s1 <;> try rfl)
    all_goals (cases l2 <;> try rfl)
    all_goals (cases l1 <;> try rfl)
    all_goals (cases i2 <;> try rfl)
    all_goals (cases i1 <;> rfl)
  · have hw : wB k 1 9 = false := by
      simp [wB, std]; omega
    rw [hw]
    have e1 : ¬ k = 1 := by omega
    have e2 : ¬ k = 2 := by omega
    have e3 : ¬ k = 3 := by omega
    have e4 : ¬ k = 4 := by omega
    have e5 : ¬ k = 5 := by omega
    have e6 : ¬ k = 6 := by omega
    have e7 : ¬ k = 7 := by omega
    have e8 : ¬ k = 8 := by omega
    have e9 : ¬ k = 9 := by omega
    simp only [e1, e2, e3, e4, e5, e6, e7, e8, e9, or_self, if_false, Bool.and_false]
    rfl
theorem zS_fold (a : TS) : (std.eq a.fy 0 && (std.eq a.fb.fX0 0 && (std.eq a.fb.fY0 0 && (std.eq a.fb.fX1 0 && std.eq a.fb.fY1 0)))) = zS a := rfl
theorem zL_fold (a : TB) : (std.eq a.fy 0 && ((std.eq a.fa.fX 0 && std.eq a.fa.fY 0) && std.seq a.fN (ByteArray.mk #[]))) = zL a := rfl
theorem zI_fold (a : TI) : (std.eq a.fc 0 && ((std.eq a.fp.fo 0 && (std.eq a.fp.fX 0 && std.eq a.fp.fY 0)) && (std.eq a.fK 0 && (std.eq a.fR 0 && (std.eq a.fu 0 && std.eq a.fv 0))))) = zI a := rfl
theorem impl_IsValidEdit_ok (a : TE) (h1 : a.fN.size <= maxLen) (h2 : a.fl_.fN.size <= maxLen) : Fq34 a = some (okEdit a) := by
  unfold Fq34 okEdit
  simp only [impl_within_ok, impl_IsName_ok _ h1, impl_validShape_ok, impl_validLabel_ok _ h2, impl_validInstance_ok, band_and, Bool.and_true, Bool.true_and, eq_self', seq_self, eq_zero, seq_zero, zS_fold, zL_fold, zI_fold]
  generalize okShape a.fs_ = s1
  generalize zS a.fs_ = s2
  generalize okLabel a.fl_ = l1
  generalize zL a.fl_ = l2
  generalize okInst a.fi_ 8 = i1
  generalize zI a.fi_ = i2
  generalize isName a.fN = n1
  generalize std.seq a.fN _ = n2
  generalize wB a.fc 0 8 = c1
  generalize wB a.fx 0 24 = c2
  generalize std.eq a.fx 0 = c3
  generalize a.fk_ = k
  by_cases hk : 1 <= k /\ k <= 9
  · have : k = 1 \/ k = 2 \/ k = 3 \/ k = 4 \/ k = 5 \/ k = 6 \/ k = 7 \/ k = 8 \/ k = 9 := by omega
    rcases this with rfl | rfl | rfl | rfl | rfl | rfl | rfl | rfl | rfl <;> cases c1 <;> cases c2 <;> try rfl
    all_goals (cases c3 <;> try rfl)
    all_goals (cases n2 <;> try rfl)
    all_goals (cases n1 <;> try rfl)
    all_goals (cases s2 <;> try rfl)
    all_goals (cases s1 <;> try rfl)
    all_goals (cases l2 <;> try rfl)
    all_goals (cases l1 <;> try rfl)
    all_goals (cases i2 <;> try rfl)
    all_goals (cases i1 <;> rfl)
  · have e1 : ¬ k = 1 := by omega
    have e2 : ¬ k = 2 := by omega
    have e3 : ¬ k = 3 := by omega
    have e4 : ¬ k = 4 := by omega
    have e5 : ¬ k = 5 := by omega
    have e6 : ¬ k = 6 := by omega
    have e7 : ¬ k = 7 := by omega
    have e8 : ¬ k = 8 := by omega
    have e9 : ¬ k = 9 := by omega
    simp only [eq_dec, e1, e2, e3, e4, e5, e6, e7, e8, e9, or_self, if_false, Bool.and_false, decide_false]
    cases c1 <;> cases c2 <;> rfl
def shapeB (a : TS) : List Int := oneB a.fy ++ [a.fb.fX0, a.fb.fY0, a.fb.fX1, a.fb.fY1].flatMap twoB
def nameB (s : ByteArray) : List Int := oneB (std.ofN (std.slen s)) ++ strL s
def labelB (a : TB) : List Int := (oneB a.fy ++ [a.fa.fX, a.fa.fY].flatMap twoB) ++ nameB a.fN
def placeB (a : TI) : List Int := (oneB a.fp.fo ++ [a.fp.fX, a.fp.fY].flatMap twoB) ++ (oneB a.fK ++ oneB a.fR) ++ [a.fu, a.fv].flatMap twoB
def instB (a : TI) : List Int := oneB a.fc ++ placeB a
theorem impl_two_ok (l : List Int) (x : Int) (h : l.length <= 10000000) : Fq40 l x = some (l ++ twoR x) := by
  unfold Fq40
  rw [ro_ (by rw [s_nneg]; omega)]
  simp only [lq]
  rw [ro_ (room1 (by simp [eL_]; omega))]; rfl
theorem impl_coordinates_ok (l vs : List Int) (hv : vs.length <= 1000) (hl : l.length <= 10000) : Fq12 l vs = some (l ++ vs.flatMap twoB) := by
  unfold Fq12
  refine Eq.trans (bind_of (while_from (r := l ++ vs.flatMap twoB) (fun i : Nat => ((i : Int), l ++ (vs.take i).flatMap twoB)) vs.length (by simp) (fun i hi => ?_) ?_)) rfl
  · have h1 := flat_two (vs.take i)
    rw [List.length_take] at h1
    simp only [Lq12_x3, lq, s_toNn]
    rw [ltl_t hi, br_t, ro_ (inRl hi), impl_two_ok _ _ (by rw [List.length_append]; omega), obs, inc_nat (by omega), gd_lt hi, List.take_succ_eq_append_getElem hi, List.flatMap_append, <- List.append_assoc]
    simp [twoB]
  · simp only [Lq12_x3, lq]
    rw [ltl_f, br_f, List.take_length]
theorem impl_nameBytes_ok (l : List Int) (s : ByteArray) (h : l.length <= 100000) (hs : s.size <= 1000) : Fq52 l s = some (l ++ nameB s) := by
  unfold Fq52 nameB
  simp only [lq]
  rw [ro_ (room1 (by simp [eL_]; omega)), ro_ (room1 (by simp [eL_]; show l.length + 1 + s.size <= _; omega))]
  simp [oneB]
theorem impl_placeBytes_ok (l : List Int) (a : TI) (h : l.length <= 1000) : Fq83 l a = some (l ++ placeB a) := by
  unfold Fq83 placeB
  simp only [lq]
  rw [ro_ (room1 (by simp [eL_]; omega)), impl_coordinates_ok _ _ (by simp) (by simp; omega)]
  simp only [obs]
  rw [ro_ (room1 (by simp [eL_, two_len]; omega)), impl_coordinates_ok _ _ (by simp) (by simp [two_len]; omega)]
  simp [oneB]
theorem nameB_len (s : ByteArray) : (nameB s).length = s.size + 1 := by unfold nameB; rw [List.length_append, one_len, strL_length]; omega
theorem shapeB_len (a : TS) : (shapeB a).length = 9 := by unfold shapeB; rw [List.length_append, one_len, flat_two]; rfl
theorem labelB_len (a : TB) : (labelB a).length = a.fN.size + 6 := by unfold labelB; rw [List.length_append, List.length_append, one_len, flat_two, nameB_len]; simp only [List.length_cons, List.length_nil]; omega
theorem placeB_len (a : TI) : (placeB a).length = 11 := by
  unfold placeB
  simp only [List.length_append, one_len, flat_two, List.length_cons, List.length_nil]
theorem instB_len (a : TI) : (instB a).length = 12 := by unfold instB; rw [List.length_append, one_len, placeB_len]
-- the sum of a string
theorem impl_Checksum16_ex (s : ByteArray) (h : s.size <= 1000000000) : ∃ c, Fq33 s = some c /\ 0 <= c /\ c < 65521 := by
  obtain ⟨r, h1, h2⟩ := while_ex (step := Lq33_x3 s) (x0 := (1, 0)) (fun x => ∃ i : Nat, x.2 = (i : Int) /\ i <= s.size /\ 0 <= x.1 /\ x.1 < 65521) (fun r => 0 <= r /\ r < 65521) (fun x => s.size + 1 - x.2.toNat) ⟨0, rfl, by omega, by omega, by omega⟩ (by
    rintro ⟨c, _⟩ ⟨i, rfl, h1, h2, h3⟩
    simp only at h2 h3
    by_cases hi : i < s.size
    · left
      have hs : 0 <= std.sat s i /\ std.sat s i <= 255 := by
        show 0 <= (((s[i]?.getD 0).toNat : Nat) : Int) /\ (((s[i]?.getD 0).toNat : Nat) : Int) <= 255
        have := (s[i]?.getD 0).toNat_lt
        omega
      have e1 : std.conv .i64 (std.sat s i) = std.sat s i := wrap_id (by omega) (by omega)
      have e2 : std.mul .i64 31 c = 31 * c := mul_id (by omega) (by omega)
      simp only [Lq33_x3, lq, s_toNn, e1, e2]
      rw [lt_true (by rw [s_ofN, s_slen]; omega), br_t, ro_ (show std.inR (i : Int) (std.slen s) from inRn hi), ro_ (by rw [s_nz]; decide), inc_nat (by omega), add_id (x := 31 * c) (by omega) (by omega), add_id (by omega) (by omega)]
      have e3 : std.rem (31 * c + std.sat s i + 1) 65521 = (31 * c + std.sat s i + 1) % 65521 := Int.tmod_eq_emod_of_nonneg (by omega)
      rw [e3]
      refine ⟨_, rfl, ⟨i + 1, rfl, by omega, ?_, ?_⟩, ?_⟩
      · simp only; omega
      · simp only; omega
      · simp only [Int.toNat_natCast]; omega
    · right
      refine ⟨c, ?_, h2, h3⟩
      simp only [Lq33_x3, lq]
      rw [lt_false (by rw [s_ofN, s_slen]; omega), br_f])
  refine ⟨r, ?_, h2⟩
  unfold Fq33
  rw [bind_of h1]; rfl
def ck (s : ByteArray) : Int := (Fq33 s).getD 0
theorem impl_Checksum16_ok (s : ByteArray) (h : s.size <= 1000000000) : Fq33 s = some (ck s) := by
  obtain ⟨c, hc, _⟩ := impl_Checksum16_ex s h
  unfold ck; rw [hc]; rfl
/- bytes of joined strings -/
theorem sat_get {a : ByteArray} {i : Nat} (h : i < a.size) : std.sat a i = ((a[i].toNat : Nat) : Int) := by
  show ((((a[i]?.getD 0).toNat : Nat)) : Int) = _
  rw [getElem?_pos a i h]; rfl
theorem conv8_eq (x : Int) : std.conv .u8 x = x % 256 := by
  show IntKind.u8.wrap x = x % 256
  simp only [IntKind.wrap, IntKind.signed, IntKind.bits]
  simp
theorem shr8 (x : Int) : std.shr .i64 x 8 = x / 256 := by
  show Int.fdiv x (2 ^ min (8 : Int).toNat 64) = x / 256
  rw [Int.fdiv_eq_ediv_of_nonneg]
  · rfl
  · decide
theorem shl8 {x : Int} (h : 0 <= x /\ x <= 1000000) : std.shl .i64 x 8 = x * 256 := by
  show IntKind.i64.wrap (x * 2 ^ min (8 : Int).toNat 64) = x * 256
  rw [show (2 : Int) ^ min (8 : Int).toNat 64 = 256 from rfl]
  exact wrap_id (by omega) (by omega)
theorem ssub_tail {a b : ByteArray} : std.ssub (std.scat a b) a.size (std.slen (std.scat a b)) = b := ssub_app a b
theorem ssub_head {a b : ByteArray} : std.ssub (std.scat a b) 0 a.size = a := by
  show (a ++ b).extract 0 a.size = a
  exact ByteArray.extract_append_eq_left rfl
theorem impl_shapeBytes_ok (l : List Int) (a : TS) (h : l.length <= 1000) : Fq96 l a = some (l ++ shapeB a) := by
  unfold Fq96 shapeB
  simp only [letO]
  rw [ro_ (room1 (by simp [len]; omega)), impl_coordinates_ok _ _ (by simp) (by simp; omega)]
  simp [oneB]
theorem impl_labelBytes_ok (l : List Int) (a : TB) (h : l.length <= 1000) (hs : a.fN.size <= 1000) : Fq95 l a = some (l ++ labelB a) := by
  unfold Fq95 labelB
  simp only [letO]
  rw [ro_ (room1 (by simp [len]; omega)), impl_coordinates_ok _ _ (by simp) (by simp; omega)]
  simp only [obs]
  rw [impl_nameBytes_ok _ _ (by simp [two_len]; omega) hs]
  simp [oneB]
theorem impl_instBytes_ok (l : List Int) (a : TI) (h : l.length <= 900) : Fq83 (l ++ [std.conv .u8 a.fc]) a = some (l ++ instB a) := by
  rw [impl_placeBytes_ok _ _ (by simp; omega)]
  unfold instB
  simp [oneB]
def headB (a : TE) : List Int := [std.conv .u8 a.fk_, std.conv .u8 a.fc, std.conv .u8 a.fx]
def editB (a : TE) : List Int := headB a ++ (if a.fk_ = 1 then shapeB a.fs_ else if a.fk_ = 3 then labelB a.fl_ else if a.fk_ = 5 then instB a.fi_ else if a.fk_ = 7 \/ a.fk_ = 8 then nameB a.fN else [])
theorem isName_size {s : ByteArray} (h : isName s = true) : s.size <= 8 := by
  unfold isName at h
  simp only [Bool.and_eq_true, decide_eq_true_eq] at h
  exact h.2.2
theorem okEdit_name {a : TE} (h : okEdit a = true) (hk : a.fk_ = 7 \/ a.fk_ = 8) : a.fN.size <= 1000 := by
  unfold okEdit at h
  have e1 : ¬ a.fk_ = 1 := by omega
  have e2 : ¬ a.fk_ = 2 := by omega
  have e3 : ¬ a.fk_ = 3 := by omega
  have e4 : ¬ a.fk_ = 4 := by omega
  have e5 : ¬ a.fk_ = 5 := by omega
  have e6 : ¬ a.fk_ = 6 := by omega
  simp only [e1, e2, e3, e4, e5, e6, or_self, if_false, hk, if_true, Bool.and_eq_true] at h
  have := isName_size h.2.1.1.1.2
  omega
theorem okEdit_label {a : TE} (h : okEdit a = true) (hk : a.fk_ = 3) : a.fl_.fN.size <= 1000 := by
  unfold okEdit at h
  simp only [hk, show ¬ ((3 : Int) = 1) by decide, if_false, if_true, Bool.and_eq_true] at h
  have h2 := h.2.1.2
  unfold okLabel at h2
  simp only [Bool.and_eq_true] at h2
  have := isName_size h2.2.2
  omega
theorem impl_EditBytes_ok (a : TE) (h1 : a.fN.size <= maxLen) (h2 : a.fl_.fN.size <= maxLen) : Fq90 a = some (if okEdit a then ofL (editB a) else ByteArray.mk #[]) := by
  unfold Fq90
  rw [impl_IsValidEdit_ok a h1 h2]
  simp only [obs]
  cases hok : okEdit a with
  | false => rfl
  | true =>
    have e0 : [std.conv .u8 a.fk_, std.conv .u8 a.fc, std.conv .u8 a.fx] = headB a := rfl
    have e1 : (headB a).length = 3 := rfl
    simp only [Bool.not_true, br, if_true, letO, e0, eq_dec]
    unfold editB
    by_cases k1 : a.fk_ = 1
    · simp only [k1, decide_true, if_true, impl_shapeBytes_ok _ _ (show (headB a).length <= 1000 by omega), obs]
      rfl
    · simp only [k1, decide_false, if_false]
      by_cases k3 : a.fk_ = 3
      · have hn := okEdit_label hok k3
        simp only [k3, decide_true, if_true, impl_labelBytes_ok _ _ (show (headB a).length <= 1000 by omega) hn, obs]
        rfl
      · simp only [k3, decide_false, if_false]
        by_cases k5 : a.fk_ = 5
        · simp only [k5, decide_true, if_true]
          rw [ro_ (room1 (by simp [len, e1])), impl_instBytes_ok _ _ (show (headB a).length <= 900 by omega)]
          rfl
        · simp only [k5, decide_false, if_false]
          by_cases k7 : a.fk_ = 7 \/ a.fk_ = 8
          · have hn := okEdit_name hok k7
            rcases k7 with k7 | k7
            · simp [k7, impl_nameBytes_ok _ _ (show (headB a).length <= 100000 by omega) hn, ofL]
            · simp [k7, impl_nameBytes_ok _ _ (show (headB a).length <= 100000 by omega) hn, ofL]
          · have k7' : ¬ a.fk_ = 7 := fun h => k7 (.inl h)
            have k8' : ¬ a.fk_ = 8 := fun h => k7 (.inr h)
            simp [k7', k8']
            rfl
/- the code of an edit: both sides -/
/-- a loop that says yes at the first element that is met -/
theorem scan_any {step : Int -> Option (Int ⊕ (Bool ⊕ Unit))} {p : Nat -> Bool} {n : Nat} (h : ∀ i : Nat, i < n -> step i = some (cond (p i) (.inr (.inl true)) (.inl ((i + 1 : Nat) : Int)))) (hn : step n = some (.inr (.inr ()))) :
    whileP step 0 = some (cond ((List.range n).any p) (.inl true) (.inr ())) := by
  have key : ∀ m i : Nat, i + m = n -> whileP step i = some (cond ((List.range' i m).any p) (.inl true) (.inr ())) := by
    intro m
    induction m with
    | zero =>
      intro i hi
      have : i = n := by omega
      subst this
      rw [whileP_unfold, hn]; rfl
    | succ m ih =>
      intro i hi
      rw [whileP_unfold, h i (by omega)]
      cases hb : p i with
      | true => simp [List.range', hb]
      | false =>
        show whileP step ((i + 1 : Nat) : Int) = _
        rw [ih (i + 1) (by omega)]
        simp [List.range', hb]
  have := key n 0 (by omega)
  rw [List.range_eq_range']
  exact this
theorem any_res {b : Bool} : ((some (cond b (.inl true) (.inr ())) : Option (Bool ⊕ Unit)).bind fun y3 => (match y3 with
    | .inl y3k0 => (letO y3k0 fun w25 => some w25)
    | .inr y3m0 => some false)) = some b := by cases b <;> rfl
def othN (l : List TC) (k : Int) (s : ByteArray) : Bool := (List.range l.length).any fun i => std.not (std.eq (i : Int) k) && std.seq (gd l i).fN s
theorem spec_l13Named_ok (a : TL) (k : Int) (s : ByteArray) (h : a.fC.length <= 10000000) : Fq35 a k s = some (othN a.fC k s) := by
  unfold Fq35
  rw [scan_any (p := fun i => std.not (std.eq (i : Int) k) && std.seq (gd a.fC i).fN s) (n := a.fC.length) (fun i hi => ?_) ?_]
  · exact any_res
  · simp only [Lq35_x2, lq]
    rw [ltl_f, br_f]
  · simp only [Lq35_x2, lq, s_toNn]
    rw [ltl_t hi, br_t, ro_ (inRl hi), inc_nat (by omega)]
    cases std.not (std.eq (i : Int) k) <;> cases std.seq (gd a.fC i).fN s <;> rfl
def usesB (c : TC) (k : Int) : Bool := (List.range c.fI.length).any fun i => std.eq (gd c.fI i).fc k
theorem spec_l09Uses_ok (c : TC) (k : Int) (h : c.fI.length <= 10000000) : Fq42 c k = some (usesB c k) := by
  unfold Fq42
  rw [scan_any (p := fun i => std.eq (gd c.fI i).fc k) (n := c.fI.length) (fun i hi => ?_) ?_]
  · exact any_res
  · simp only [Lq42_x2, lq]
    rw [ltl_f, br_f]
  · simp only [Lq42_x2, lq, s_toNn]
    rw [ltl_t hi, br_t, ro_ (inRl hi), inc_nat (by omega)]
    cases std.eq (gd c.fI i).fc k <;> rfl
def placedB (a : TL) (k : Int) : Bool := (List.range a.fC.length).any fun j => usesB (gd a.fC j) k
theorem spec_l13Placed_ok (a : TL) (k : Int) (h : SmallL a) : Fq46 a k = some (placedB a k) := by
  have hc := h.cells
  unfold Fq46
  rw [scan_any (p := fun j => usesB (gd a.fC j) k) (n := a.fC.length) (fun i hi => ?_) ?_]
  · exact any_res
  · simp only [Lq46_x2, lq]
    rw [ltl_f, br_f]
  · have hi2 := (h.cell _ (gd_mem hi)).insts
    simp only [Lq46_x2, lq, s_toNn]
    rw [ltl_t hi, br_t, ro_ (inRl hi), inc_nat (by omega), spec_l09Uses_ok _ _ (by omega), obs]
    cases usesB (gd a.fC i) k <;> rfl
theorem impl_uses_ok (c : TC) (k : Int) (h : c.fI.length <= 10000000) : Fq103 c.fI k = some (usesB c k) := by
  unfold Fq103 Fq51
  rw [bind_of (scan_first (p := fun i => std.eq (gd c.fI i).fc k) (n := c.fI.length) (fun i hi => ?_) ?_)]
  · unfold usesB
    rw [<- firstI_any]
    unfold firstI
    cases (List.range c.fI.length).find? (fun i => std.eq (gd c.fI i).fc k) <;> rfl
  · simp only [Lq51_x2, lq]
    rw [ltl_f, br_f]
  · simp only [Lq51_x2, lq, s_toNn, Fq123]
    rw [ltl_t hi, br_t, ro_ (inRl hi), obs, inc_nat (by omega)]
    cases std.eq (gd c.fI i).fc k <;> rfl
/-- the cells that place the cell k -/
def usersL (a : TL) (k : Int) (n : Nat) : List Int := ((List.range n).filter fun j => usesB (gd a.fC j) k).map fun j : Nat => (j : Int)
theorem usersL_len (a : TL) (k : Int) (n : Nat) : (usersL a k n).length <= n := by
  unfold usersL
  rw [List.length_map]
  exact Nat.le_trans (List.length_filter_le _ _) (by simp)
theorem usersL_succ (a : TL) (k : Int) (n : Nat) : usersL a k (n + 1) = usersL a k n ++ (if usesB (gd a.fC n) k = true then [(n : Int)] else []) := by
  unfold usersL
  rw [List.range_succ, List.filter_append, List.map_append]
  cases h : usesB (gd a.fC n) k <;> simp [h]
theorem usersL_any (a : TL) (k : Int) : decide (0 < (usersL a k a.fC.length).length) = placedB a k := by
  unfold usersL placedB
  rw [Bool.eq_iff_iff, decide_eq_true_eq, List.length_map, List.length_pos_iff_exists_mem, List.any_eq_true]
  simp [List.mem_filter]
theorem hasCell_ok (a : TL) (k : Int) (h : SmallL a) : Fq77 a k = some (okLib a && wB k 0 ((a.fC.length : Int) - 1)) := by
  have hl := h.cells
  unfold Fq77
  rw [impl_IsValidLibrary_ok _ h]
  simp only [obs, lq, s_ofN, eL_]
  rw [sub_id (by omega) (by omega), impl_within_ok]
  cases okLib a <;> rfl
theorem impl_UsersOf_ok (a : TL) (k : Int) (h : SmallL a) : Fq14 a k = some (if okLib a && wB k 0 ((a.fC.length : Int) - 1) then usersL a k a.fC.length else []) := by
  have hc := h.cells
  unfold Fq14
  rw [show TL.mk a.fC = a from rfl, hasCell_ok a k h, obs]
  cases okLib a && wB k 0 ((a.fC.length : Int) - 1) with
  | false => rfl
  | true =>
    simp only [lq, Bool.not_true, br_f, if_true]
    refine Eq.trans (bind_of (while_from (r := usersL a k a.fC.length) (fun i => ((i : Int), usersL a k i)) a.fC.length rfl (fun i hi => ?_) ?_)) rfl
    · have hi2 := (h.cell _ (gd_mem hi)).insts
      have hu := usersL_len a k i
      simp only [Lq14_x7, lq, s_toNn]
      rw [ltl_t hi, br_t, ro_ (inRl hi), impl_uses_ok _ _ (by omega), obs, inc_nat (by omega), usersL_succ]
      cases usesB (gd a.fC i) k with
      | false => simp [br]
      | true =>
        rw [br_t, ro_ (show std.room (std.nadd (len (usersL a k i)) (len [(i : Int)])) 8 from ?_)]
        · rfl
        · rw [s_nadd, eL_, eL_, List.length_singleton]
          show _ * 8 <= 35184372088832
          omega
    · simp only [Lq14_x7, lq]
      rw [ltl_f, br_f]
/-- names -/
theorem seq_eq {x y s : ByteArray} (h : std.seq x s = true) (g : std.seq y s = true) : std.seq x y = true := by
  have h1 : (x.toList == s.toList) = true := h
  have h2 : (y.toList == s.toList) = true := g
  show (x.toList == y.toList) = true
  rw [eq_of_beq h1, eq_of_beq h2]
  exact beq_self_eq_true _
theorem okLib_fresh {a : TL} (hv : okLib a = true) {j k : Nat} (hk : k < a.fC.length) (hj : j < k) : std.seq (gd a.fC j).fN (gd a.fC k).fN = false := by
  unfold okLib at hv
  simp only [Bool.and_eq_true, List.all_eq_true] at hv
  have := (hv.2.2 k (List.mem_range.2 hk)).2
  unfold fresh at this
  rw [List.all_eq_true] at this
  simpa using this j (List.mem_range.2 hj)
theorem seq_comm {x y : ByteArray} (h : std.seq x y = true) : std.seq y x = true := seq_eq (seq_self y) h
theorem name_once {a : TL} (hv : okLib a = true) {s : ByteArray} {j k : Nat} (hj : j < a.fC.length) (hk : k < a.fC.length) (h : std.seq (gd a.fC j).fN s = true) (g : std.seq (gd a.fC k).fN s = true) : j = k := by
  rcases Nat.lt_trichotomy j k with h1 | h1 | h1
  · have := okLib_fresh hv hk h1
    rw [seq_eq h g] at this; cases this
  · exact h1
  · have := okLib_fresh hv hj h1
    rw [seq_eq g h] at this; cases this
theorem named_other {a : TL} (hv : okLib a = true) (k : Nat) (hk : k < a.fC.length) (s : ByteArray) : (std.le 0 (namedI a.fC s) && std.not (std.eq (namedI a.fC s) (k : Int))) = othN a.fC (k : Int) s := by
  unfold namedI firstI
  cases h : (List.range a.fC.length).find? (fun i => std.seq (gd a.fC i).fN s) with
  | none =>
    rw [List.find?_eq_none] at h
    have : othN a.fC (k : Int) s = false := by
      unfold othN
      rw [List.any_eq_false]
      intro i hi
      have := h i hi
      simp [this]
    rw [this]; rfl
  | some i =>
    have h1 := List.find?_some h
    have h2 := List.mem_range.1 (List.mem_of_find?_eq_some h)
    simp only at h1 ⊢
    rw [show std.le 0 (i : Int) = true from le_true (by omega), Bool.true_and]
    unfold othN
    by_cases hik : i = k
    · subst hik
      rw [eq_true' rfl]
      symm
      show _ = false
      rw [List.any_eq_false]
      intro j hj
      by_cases hji : j = i
      · subst hji; rw [eq_true' rfl]; simp [s_not]
      · intro hc
        rw [Bool.and_eq_true] at hc
        exact hji (name_once hv (List.mem_range.1 hj) h2 hc.2 h1)
    · rw [eq_false' (by omega)]
      symm
      show _ = true
      rw [List.any_eq_true]
      exact ⟨i, List.mem_range.2 h2, by rw [eq_false' (by omega), h1]; rfl⟩
theorem named_any (a : TL) (s : ByteArray) : std.le 0 (namedI a.fC s) = othN a.fC (-1) s := by
  unfold namedI othN
  rw [firstI_any]
  refine congrArg (fun f => (List.range a.fC.length).any f) ?_
  funext i
  rw [eq_false' (by omega)]
  rfl
/- the code of an edit, and its inverse -/
def insC (i n m : Int) : Int := if n < i then 2 else if n = m then 3 else 0
def delC (i n : Int) : Int := if n <= i then 5 else 0
def eCode (a : TL) (e : TE) : Int :=
  if (okLib a && okEdit e) = false then 1
  else if e.fk_ = 8 then (if (a.fC.length : Int) < e.fc then 5 else if (a.fC.length : Int) = 8 then 3 else if othN a.fC (-1) e.fN = true then 6 else 0)
  else if (a.fC.length : Int) <= e.fc then 5
  else if e.fk_ = 1 then insC e.fx (gd a.fC e.fc.toNat).fS.length 24
  else if e.fk_ = 2 then delC e.fx (gd a.fC e.fc.toNat).fS.length
  else if e.fk_ = 3 then insC e.fx (gd a.fC e.fc.toNat).fL.length 8
  else if e.fk_ = 4 then delC e.fx (gd a.fC e.fc.toNat).fL.length
  else if e.fk_ = 5 then (if insC e.fx (gd a.fC e.fc.toNat).fI.length 8 = 0 /\ e.fc <= e.fi_.fc then 6 else insC e.fx (gd a.fC e.fc.toNat).fI.length 8)
  else if e.fk_ = 6 then delC e.fx (gd a.fC e.fc.toNat).fI.length
  else if e.fk_ = 7 then (if othN a.fC e.fc e.fN = true then 6 else 0)
  else (if (a.fC.length : Int) = 1 \/ 0 < (gd a.fC e.fc.toNat).fS.length + (gd a.fC e.fc.toNat).fL.length + (gd a.fC e.fc.toNat).fI.length \/ placedB a e.fc = true then 6 else 0)
theorem okEdit_kind {e : TE} (h : okEdit e = true) : (e.fk_ = 1 \/ e.fk_ = 2 \/ e.fk_ = 3 \/ e.fk_ = 4 \/ e.fk_ = 5 \/ e.fk_ = 6 \/ e.fk_ = 7 \/ e.fk_ = 8 \/ e.fk_ = 9) /\ 0 <= e.fc /\ 0 <= e.fx := by
  unfold okEdit at h
  rw [Bool.and_eq_true, Bool.and_eq_true] at h
  obtain ⟨⟨h1, h2⟩, h3⟩ := h
  have e1 : 0 <= e.fc := by unfold wB at h1; simp [std] at h1; exact h1.1
  have e2 : 0 <= e.fx := by unfold wB at h2; simp [std] at h2; exact h2.1
  refine ⟨?_, e1, e2⟩
  by_cases hk : 1 <= e.fk_ /\ e.fk_ <= 9
  · omega
  · exfalso
    have n1 : ¬ e.fk_ = 1 := by omega
    have n2 : ¬ e.fk_ = 2 := by omega
    have n3 : ¬ e.fk_ = 3 := by omega
    have n4 : ¬ e.fk_ = 4 := by omega
    have n5 : ¬ e.fk_ = 5 := by omega
    have n6 : ¬ e.fk_ = 6 := by omega
    have n7 : ¬ e.fk_ = 7 := by omega
    have n8 : ¬ e.fk_ = 8 := by omega
    have n9 : ¬ e.fk_ = 9 := by omega
    simp only [n1, n2, n3, n4, n5, n6, n7, n8, n9, or_self, if_false] at h3
    cases h3
theorem br_dec {β : Type} {p : Prop} [Decidable p] (x y : Option β) : br (decide p) x y = if p then x else y := by
  by_cases h : p
  · rw [decide_eq_true h, if_pos h]; rfl
  · rw [decide_eq_false h, if_neg h]; rfl
theorem okLib_len {a : TL} (hv : okLib a = true) : 1 <= a.fC.length /\ a.fC.length <= 8 := by
  unfold okLib at hv
  simp only [Bool.and_eq_true, decide_eq_true_eq] at hv
  exact ⟨hv.1, hv.2.1⟩
theorem okLib_cell {a : TL} (hv : okLib a = true) {k : Nat} (hk : k < a.fC.length) : (gd a.fC k).fS.length <= 24 /\ (gd a.fC k).fL.length <= 8 /\ (gd a.fC k).fI.length <= 8 := by
  unfold okLib at hv
  simp only [Bool.and_eq_true, List.all_eq_true] at hv
  have := (hv.2.2 k (List.mem_range.2 hk)).1
  unfold okCell at this
  simp only [Bool.and_eq_true, decide_eq_true_eq] at this
  exact ⟨this.2.1, this.2.2.1, this.2.2.2.1⟩
theorem add3 {x y z : Nat} (h : x <= 1000 /\ y <= 1000 /\ z <= 1000) : std.add .i64 (std.add .i64 (x : Int) (y : Int)) (z : Int) = ((x + y + z : Nat) : Int) := by
  rw [add_id (x := (x : Int)) (y := (y : Int)) (by omega) (by omega), add_id (by omega) (by omega)]
  omega
set_option maxHeartbeats 4000000 in
theorem spec_l13Code_ok (a : TL) (e : TE) (h : SmallL a) (g : SmallE e) : Fq37 a e = some (eCode a e) := by
  have hm := maxLen_eq
  unfold Fq37
  rw [show TL.mk a.fC = a from rfl, spec_IsValidLibrary_ok a h, spec_IsValidEdit_ok e (by have := g.name; omega) (by have := g.lname; omega), obs, obs]
  cases hv : okLib a with
  | false => unfold eCode; rw [hv]; rfl
  | true =>
    cases he : okEdit e with
    | false => unfold eCode; rw [hv, he]; rfl
    | true =>
      obtain ⟨hk, hc, hi⟩ := okEdit_kind he
      have hl := okLib_len hv
      unfold eCode
      rw [hv, he]
      obtain ⟨kind, cell, index, name, shape, label, inst⟩ := e
      simp only at hk hc hi ⊢
      simp only [Bool.not_true, br_f, obs, lq, Bool.and_self, s_le, s_eq, s_lt, br_dec, s_ofN, eL_, s_not]
      by_cases hn : (a.fC.length : Int) <= cell
      · unfold Fq88
        rw [spec_l13Named_ok a _ _ (by have := h.cells; omega)]
        simp only [Bool.not_true, br_f, obs, lq, s_le, s_eq, s_lt, br_dec, s_ofN, eL_, s_not]
        rcases hk with rfl | rfl | rfl | rfl | rfl | rfl | rfl | rfl | rfl <;> simp [hn, br_bool]
        all_goals (repeat' split) <;> simp_all
      · obtain ⟨m, rfl⟩ := Int.eq_ofNat_of_zero_le hc
        have hm2 : m < a.fC.length := by omega
        have hcl := okLib_cell hv hm2
        have hin : std.inR (m : Int) a.fC.length := ⟨by omega, by omega⟩
        unfold Fq88 Fq125
        rw [spec_l13Named_ok a _ _ (by have := h.cells; omega), spec_l13Placed_ok a _ h, spec_l13Named_ok a _ _ (by have := h.cells; omega)]
        simp only [Bool.not_true, br_f, obs, lq, s_le, s_eq, s_lt, br_dec, s_ofN, eL_, s_not, s_toNn, ro_ (inRl hm2), add3 (show (gd a.fC m).fS.length <= 1000 /\ (gd a.fC m).fL.length <= 1000 /\ (gd a.fC m).fI.length <= 1000 by omega)]
        cases hpb : placedB a (m : Int) <;> rcases hk with rfl | rfl | rfl | rfl | rfl | rfl | rfl | rfl | rfl <;> simp [hn, br_bool, insC, delC, Int.toNat_natCast]
        all_goals (try simp only [ro_ hin])
        all_goals (repeat' split)
        all_goals (first | rfl | (simp_all; done) | omega | (simp_all; omega))
set_option maxHeartbeats 4000000 in
theorem impl_editCode_ok (a : TL) (e : TE) (h : SmallL a) (g : SmallE e) : Fq114 a e = some (eCode a e) := by
  have hm := maxLen_eq
  unfold Fq114
  rw [show TL.mk a.fC = a from rfl, impl_IsValidLibrary_ok a h, impl_IsValidEdit_ok e (by have := g.name; omega) (by have := g.lname; omega), obs, obs]
  cases hv : okLib a with
  | false => unfold eCode; rw [hv]; rfl
  | true =>
    cases he : okEdit e with
    | false => unfold eCode; rw [hv, he]; rfl
    | true =>
      obtain ⟨hk, hc, hi⟩ := okEdit_kind he
      have hl := okLib_len hv
      unfold eCode
      rw [hv, he]
      obtain ⟨kind, cell, index, name, shape, label, inst⟩ := e
      simp only at hk hc hi ⊢
      rw [impl_named_ok a name (by have := h.cells; omega)]
      simp only [Bool.not_true, br_f, obs, lq, Bool.and_self]
      by_cases hn : (a.fC.length : Int) <= cell
      · simp only [named_any]
        simp only [s_le, s_eq, s_lt, br_dec, s_ofN, eL_, s_not]
        rcases hk with rfl | rfl | rfl | rfl | rfl | rfl | rfl | rfl | rfl <;> simp [hn, br_bool]
        all_goals (repeat' split) <;> simp_all
      · obtain ⟨m, rfl⟩ := Int.eq_ofNat_of_zero_le hc
        have hm2 : m < a.fC.length := by omega
        have hcl := okLib_cell hv hm2
        have hin : std.inR (m : Int) a.fC.length := ⟨by omega, by omega⟩
        have hno := named_other hv m hm2 name
        have hw : wB (m : Int) 0 ((a.fC.length : Int) - 1) = true := by
          unfold wB
          rw [le_true (show (0 : Int) <= (m : Int) by omega), le_true (show (m : Int) <= (a.fC.length : Int) - 1 by omega)]
          rfl
        have hpl : decide ((0 : Int) < ((usersL a (m : Int) a.fC.length).length : Int)) = placedB a (m : Int) := by
          rw [<- usersL_any a (m : Int)]
          exact decide_eq_decide.2 (by omega)
        unfold Fq71 Fq74
        rw [impl_UsersOf_ok a _ h, hv, hw, Bool.and_self, if_pos rfl, obs]
        rw [show (((br (std.le 0 (namedI a.fC name)) (some (std.not (std.eq (namedI a.fC name) (m : Int)))) (some false)) : Option Bool)) = some (othN a.fC (m : Int) name) from by rw [<- hno]; cases std.le 0 (namedI a.fC name) <;> rfl]
        simp only [named_any]
        simp only [Bool.not_true, br_f, obs, lq, s_le, s_eq, s_lt, br_dec, s_ofN, eL_, s_not, s_toNn, ro_ (inRl hm2), add3 (show (gd a.fC m).fS.length <= 1000 /\ (gd a.fC m).fL.length <= 1000 /\ (gd a.fC m).fI.length <= 1000 by omega)]
        rw [hpl]
        cases hpb : placedB a (m : Int) <;> rcases hk with rfl | rfl | rfl | rfl | rfl | rfl | rfl | rfl | rfl <;> simp [hn, br_bool, insC, delC, Int.toNat_natCast]
        all_goals (try simp only [ro_ hin])
        all_goals (repeat' split)
        all_goals (first | rfl | (simp_all; done) | omega | (simp_all; omega))
/- the inverse: both sides -/
theorem eCode_zero {a : TL} {e : TE} (hc : eCode a e = 0) : okLib a = true /\ okEdit e = true /\ (e.fk_ ≠ 8 -> ∃ m : Nat, e.fc = (m : Int) /\ m < a.fC.length) := by
  have hb : (okLib a && okEdit e) = true := by
    cases h : (okLib a && okEdit e) with
    | true => rfl
    | false => exfalso; unfold eCode at hc; rw [if_pos h] at hc; exact absurd hc (by decide)
  rw [Bool.and_eq_true] at hb
  obtain ⟨hv, he⟩ := hb
  refine ⟨hv, he, fun h8 => ?_⟩
  obtain ⟨_, h1, _⟩ := okEdit_kind he
  obtain ⟨m, hm⟩ := Int.eq_ofNat_of_zero_le h1
  refine ⟨m, hm, ?_⟩
  unfold eCode at hc
  rw [if_neg (by rw [hv, he]; decide), if_neg h8] at hc
  by_cases hn : (a.fC.length : Int) <= e.fc
  · rw [if_pos hn] at hc; exact absurd hc (by decide)
  · omega
theorem eCode_index {a : TL} {e : TE} {m : Nat} (hc : eCode a e = 0) (hm : e.fc = (m : Int)) (hlt : m < a.fC.length) : (e.fk_ = 2 -> ∃ q : Nat, e.fx = (q : Int) /\ q < (gd a.fC m).fS.length) /\ (e.fk_ = 4 -> ∃ q : Nat, e.fx = (q : Int) /\ q < (gd a.fC m).fL.length) /\ (e.fk_ = 6 -> ∃ q : Nat, e.fx = (q : Int) /\ q < (gd a.fC m).fI.length) := by
  obtain ⟨hv, he, _⟩ := eCode_zero hc
  obtain ⟨_, _, h2⟩ := okEdit_kind he
  obtain ⟨q, hq⟩ := Int.eq_ofNat_of_zero_le h2
  unfold eCode at hc
  rw [if_neg (by rw [hv, he]; decide)] at hc
  have key : ∀ n : Nat, delC e.fx n = 0 -> q < n := fun n h => by
    unfold delC at h
    by_cases hh : (n : Int) <= e.fx
    · rw [if_pos hh] at h; exact absurd h (by decide)
    · omega
  have hn : ¬ (a.fC.length : Int) <= e.fc := by omega
  have ht : e.fc.toNat = m := by omega
  rw [ht] at hc
  refine ⟨fun hk => ⟨q, hq, ?_⟩, fun hk => ⟨q, hq, ?_⟩, fun hk => ⟨q, hq, ?_⟩⟩
  · rw [if_neg (by omega), if_neg hn, if_neg (by omega), if_pos hk] at hc; exact key _ hc
  · rw [if_neg (by omega), if_neg hn, if_neg (by omega), if_neg (by omega), if_neg (by omega), if_pos hk] at hc; exact key _ hc
  · rw [if_neg (by omega), if_neg hn, if_neg (by omega), if_neg (by omega), if_neg (by omega), if_neg (by omega), if_neg (by omega), if_pos hk] at hc; exact key _ hc
def zSh : TS := ⟨0, ⟨0, 0, 0, 0⟩⟩
def zLa : TB := ⟨0, ⟨0, 0⟩, ByteArray.mk #[]⟩
def zIn : TI := ⟨0, ⟨0, 0, 0⟩, 0, 0, 0, 0⟩
/- copies of libraries -/
theorem roomC {n b : Nat} (hn : n <= 10000000) (hb : b <= 1000) : std.room n b := by
  rw [s_room]
  exact Nat.le_trans (Nat.mul_le_mul hn hb) (by omega)
theorem cloneShape_ok (l : List TS) (h : l.length <= 10000000) : Fq91 l = some l := by
  unfold Fq91 nilB
  have e : (letO ([] : List TS) fun l1 => req (std.room (std.nadd (len l1) (len l)) 40) <| letO (l1 ++ l) fun l3 => some l3) = some l := by
    simp only [lq]
    rw [ro_ (roomC (by rw [s_nadd, eL_, eL_]; simp; omega) (by omega)), List.nil_append]
  rw [e]
  by_cases h0 : l.length = 0
  · rw [List.length_eq_zero_iff.1 h0]; simp
  · rw [if_neg (by rw [eL_]; omega)]
theorem cloneLabel_ok (l : List TB) (h : l.length <= 10000000) : Fq108 l = some l := by
  unfold Fq108 nilB
  have e : (letO ([] : List TB) fun l1 => req (std.room (std.nadd (len l1) (len l)) 40) <| letO (l1 ++ l) fun l3 => some l3) = some l := by
    simp only [lq]
    rw [ro_ (roomC (by rw [s_nadd, eL_, eL_]; simp; omega) (by omega)), List.nil_append]
  rw [e]
  by_cases h0 : l.length = 0
  · rw [List.length_eq_zero_iff.1 h0]; simp
  · rw [if_neg (by rw [eL_]; omega)]
theorem cloneInstance_ok (l : List TI) (h : l.length <= 10000000) : Fq94 l = some l := by
  unfold Fq94 nilB
  have e : (letO ([] : List TI) fun l1 => req (std.room (std.nadd (len l1) (len l)) 64) <| letO (l1 ++ l) fun l3 => some l3) = some l := by
    simp only [lq]
    rw [ro_ (roomC (by rw [s_nadd, eL_, eL_]; simp; omega) (by omega)), List.nil_append]
  rw [e]
  by_cases h0 : l.length = 0
  · rw [List.length_eq_zero_iff.1 h0]; simp
  · rw [if_neg (by rw [eL_]; omega)]
theorem impl_copyCell_ok (c : TC) (h : SmallC c) : Fq110 c = some c := by
  have h1 := h.shapes
  have h2 := h.labels
  have h3 := h.insts
  unfold Fq110
  rw [cloneShape_ok _ (by omega), obs, cloneLabel_ok _ (by omega), obs, cloneInstance_ok _ (by omega), obs]
theorem spec_CopyCell_ok (c : TC) (h : SmallC c) : Fq104 c = some c := by
  have h1 := h.shapes
  have h2 := h.labels
  have h3 := h.insts
  unfold Fq104
  simp only [lq]
  rw [ro_ (roomC (by rw [s_nadd, eL_, eL_, List.length_nil]; omega) (by omega)), ro_ (roomC (by rw [s_nadd, eL_, eL_, List.length_nil]; omega) (by omega)), ro_ (roomC (by rw [s_nadd, eL_, eL_, List.length_nil]; omega) (by omega))]
  rfl
theorem impl_copyLibrary_ok (a : TL) (h : SmallL a) : Fq16 a = some a := by
  have hl := h.cells
  unfold Fq16
  rw [show whileP (Lq16_x3 a) (0, ([] : List TC)) = some a.fC from ?_]
  · rfl
  refine while_from (fun i => ((i : Int), a.fC.take i)) a.fC.length rfl (fun i hi => ?_) ?_
  · simp only [Lq16_x3, lq]
    rw [ltl_t hi, br_t, ro_ (inRl hi), s_toNn, impl_copyCell_ok _ (h.cell _ (gd_mem hi)), obs, ro_ (roomC (by rw [s_nadd, eL_, eL_, List.length_take, List.length_singleton]; omega) (by omega)), obs, inc_nat (by omega), List.take_succ_eq_append_getElem hi, gd_lt hi]
  · simp only [Lq16_x3, lq]
    rw [ltl_f, br_f, List.take_length]
theorem spec_Copy_ok (a : TL) (h : SmallL a) : Fq7 a = some a := by
  have hl := h.cells
  unfold Fq7
  rw [show whileP (Lq7_x3 a) (0, ([] : List TC)) = some a.fC from ?_]
  · rfl
  refine while_from (fun i => ((i : Int), a.fC.take i)) a.fC.length rfl (fun i hi => ?_) ?_
  · simp only [Lq7_x3, lq]
    rw [ltl_t hi, br_t, ro_ (inRl hi), s_toNn, spec_CopyCell_ok _ (h.cell _ (gd_mem hi)), obs, ro_ (roomC (by rw [s_nadd, eL_, eL_, List.length_take, List.length_singleton]; omega) (by omega)), obs, inc_nat (by omega), List.take_succ_eq_append_getElem hi, gd_lt hi]
  · simp only [Lq7_x3, lq]
    rw [ltl_f, br_f, List.take_length]
/- what the marks write -/
def mShape (k i : Nat) : TS := ⟨((k + 5 * i : Nat) : Int), ⟨((k + 5 * i + 1 : Nat) : Int), ((k + 5 * i + 1 + 1 : Nat) : Int), ((k + 5 * i + 1 + 1 + 1 : Nat) : Int), ((k + 5 * i + 1 + 1 + 1 + 1 : Nat) : Int)⟩⟩
def mInstance (k i : Nat) : TI := ⟨((k + 8 * i : Nat) : Int), ⟨((k + 8 * i + 1 : Nat) : Int), ((k + 8 * i + 1 + 1 : Nat) : Int), ((k + 8 * i + 1 + 1 + 1 : Nat) : Int)⟩, ((k + 8 * i + 1 + 1 + 1 + 1 : Nat) : Int), ((k + 8 * i + 1 + 1 + 1 + 1 + 1 : Nat) : Int), ((k + 8 * i + 1 + 1 + 1 + 1 + 1 + 1 : Nat) : Int), ((k + 8 * i + 1 + 1 + 1 + 1 + 1 + 1 + 1 : Nat) : Int)⟩
/-- how many numbers the marks of a cell take -/
def wtC (c : TC) : Nat := 1 + 5 * c.fS.length + 4 * c.fL.length + 8 * c.fI.length
def offC (l : List TC) : Nat -> Nat
  | 0 => 0
  | i + 1 => offC l i + wtC (gd l i)
/- what is drawn: it is drawn, and it is small -/
def Tot {α : Type} (x : Option α) (Q : α -> Prop) : Prop := ∃ r, x = some r /\ Q r
theorem Tot.ret {α : Type} {r : α} {Q : α -> Prop} (h : Q r) : Tot (some r) Q := ⟨r, rfl, h⟩
theorem Tot.bind {α β : Type} {x : Option α} {f : α -> Option β} {P : α -> Prop} {Q : β -> Prop} (h : Tot x P) (g : ∀ r, P r -> Tot (f r) Q) : Tot (x.bind f) Q := by
  obtain ⟨r, h1, h2⟩ := h
  rw [h1]
  exact g r h2
theorem Tot.req {α : Type} {p : Prop} {k : Option α} {Q : α -> Prop} (h : p) (g : Tot k Q) : Tot (Go.Proofs.YtfoefnkbiofejaaGreat.AM.req p k) Q := by rw [ro_ h]; exact g
theorem Tot.br {α : Type} {b : Bool} {x y : Option α} {Q : α -> Prop} (h1 : b = true -> Tot x Q) (h2 : b = false -> Tot y Q) : Tot (Go.Proofs.YtfoefnkbiofejaaGreat.AM.br b x y) Q := by
  cases b with
  | true => exact h1 rfl
  | false => exact h2 rfl
theorem Tot.letO {α β : Type} {e : α} {f : α -> Option β} {Q : β -> Prop} (h : Tot (f e) Q) : Tot (Go.Proofs.YtfoefnkbiofejaaGreat.AM.letO e f) Q := h
theorem Tot.mono {α : Type} {x : Option α} {P Q : α -> Prop} (h : Tot x P) (g : ∀ r, P r -> Q r) : Tot x Q := by
  obtain ⟨r, h1, h2⟩ := h
  exact ⟨r, h1, g r h2⟩
theorem Tot.whileP {σ ρ : Type} {step : σ -> Option (σ ⊕ ρ)} {x0 : σ} {Post : ρ -> Prop} (Inv : σ -> Prop) (μ : σ -> Nat) (h0 : Inv x0)
    (h : ∀ x, Inv x -> Tot (step x) fun r => match r with | .inl x' => Inv x' /\ μ x' < μ x | .inr r => Post r) : Tot (Go.Proofs.YtfoefnkbiofejaaGreat.AM.whileP step x0) Post := by
  refine while_ex Inv Post μ h0 fun x hx => ?_
  obtain ⟨r, h1, h2⟩ := h x hx
  cases r with
  | inl x' => exact .inl ⟨x', h1, h2.1, h2.2⟩
  | inr r => exact .inr ⟨r, h1, h2⟩
def OKc (c : List Int) : Prop := c.length <= 5000 /\ ∀ b ∈ c, 0 <= b /\ b <= 255
structure OKs (s : Tl01Source) : Prop where
  code : OKc s.gcode
  at0 : 0 <= s.gat
  at1 : s.gat <= 5000
  seed0 : 0 <= s.gseed
  seed1 : s.gseed < 2147483647
theorem lt_dec {x y : Int} (h : std.lt x y = true) : x < y := of_decide_eq_true h
theorem lt_decf {x y : Int} (h : std.lt x y = false) : y <= x := by
  have := of_decide_eq_false (show decide (x < y) = false from h); omega
theorem le_decf {x y : Int} (h : std.le x y = false) : y < x := by
  have := of_decide_eq_false (show decide (x <= y) = false from h); omega
theorem remB {x m : Int} (hx : 0 <= x) (hm : 0 < m) : 0 <= std.rem x m /\ std.rem x m < m := by
  show 0 <= Int.tmod x m /\ Int.tmod x m < m
  rw [Int.tmod_eq_emod_of_nonneg hx]
  exact ⟨Int.emod_nonneg _ (by omega), Int.emod_lt_of_pos _ hm⟩
theorem quoB {x m : Int} (hx : 0 <= x) (hx2 : x < 4611686018427387904) (hm : 0 < m) : 0 <= std.quo .i64 x m := by
  show 0 <= IntKind.i64.wrap (Int.tdiv x m)
  have h1 : Int.tdiv x m = x / m := Int.tdiv_eq_ediv_of_nonneg hx
  have h2 : 0 <= x / m := Int.ediv_nonneg hx (by omega)
  have h3 : x / m <= x := Int.ediv_le_self _ hx
  rw [h1, wrap_id (by omega) (by omega)]
  exact h2
theorem conv_id {x : Int} (h : 0 <= x /\ x <= 255) : std.conv .i64 x = x := wrap_id (by omega) (by omega)
theorem gd_byte {c : List Int} (h : OKc c) {i : Int} (h0 : 0 <= i) (h1 : i < (c.length : Int)) : 0 <= gd c (std.toN i) /\ gd c (std.toN i) <= 255 := by
  obtain ⟨n, rfl⟩ := Int.eq_ofNat_of_zero_le h0
  rw [s_toNn]
  exact h.2 _ (gd_mem (by omega))
theorem mulS {x y : Int} (h : -9223372036854775808 <= x * y) (g : x * y < 9223372036854775808) : std.mul .i64 x y = x * y := wrap_id h g
/-- the next number -/
theorem next_ok {s : Tl01Source} (hs : OKs s) {n : Int} (hn : n <= 1000000) : Tot (Fq0 s n) fun r => OKs r.2 /\ 0 <= r.1 /\ (r.1 < n \/ r.1 = 0) := by
  obtain ⟨hc, h0, h1, s0, s1⟩ := hs
  unfold Fq0
  have hm : std.mul .i64 s.gseed 48271 = s.gseed * 48271 := mulS (by omega) (by omega)
  refine Tot.br (fun h => Tot.ret ⟨⟨hc, h0, h1, s0, s1⟩, Int.le_refl _, .inr rfl⟩) fun h => ?_
  have hn1 := le_decf h
  have hnz : std.nz n := by show n ≠ 0; omega
  refine Tot.br (fun h => ?_) fun h => ?_
  · have hlt := lt_dec h
    rw [s_ofN, eL_] at hlt
    obtain ⟨b0, b1⟩ := gd_byte hc h0 hlt
    have hl := hc.1
    have ha : std.add .i64 s.gat 1 = s.gat + 1 := add_id (by omega) (by omega)
    refine Tot.req ⟨h0, by rw [eL_]; exact hlt⟩ (Tot.br (fun _ => ?_) fun _ => ?_)
    · rw [hm, conv_id ⟨b0, b1⟩, add_id (x := s.gseed * 48271) (by omega) (by omega), add_id (by omega) (by omega), ha]
      obtain ⟨r0, r1⟩ := remB (x := s.gseed * 48271 + gd s.gcode (std.toN s.gat) + 1) (m := 2147483647) (by omega) (by omega)
      obtain ⟨q0, q1⟩ := remB (m := n) r0 (by omega)
      exact Tot.req (by show (2147483647 : Int) ≠ 0; omega) (Tot.req hnz (Tot.ret ⟨⟨hc, by show 0 <= s.gat + 1; omega, by show s.gat + 1 <= 5000; omega, r0, r1⟩, q0, .inl q1⟩))
    · rw [conv_id ⟨b0, b1⟩, ha]
      obtain ⟨q0, q1⟩ := remB (m := n) b0 (by omega)
      exact Tot.req hnz (Tot.ret ⟨⟨hc, by show 0 <= s.gat + 1; omega, by show s.gat + 1 <= 5000; omega, s0, s1⟩, q0, .inl q1⟩)
  · rw [hm, add_id (by omega) (by omega)]
    obtain ⟨r0, r1⟩ := remB (x := s.gseed * 48271 + 11) (m := 2147483647) (by omega) (by omega)
    have q := quoB (m := 7) r0 (by omega) (by omega)
    obtain ⟨q0, q1⟩ := remB (m := n) q (by omega)
    exact Tot.req (by show (2147483647 : Int) ≠ 0; omega) (Tot.req (by show (7 : Int) ≠ 0; omega) (Tot.req hnz (Tot.ret ⟨⟨hc, h0, h1, r0, r1⟩, q0, .inl q1⟩)))
theorem from_ok {c : List Int} (hc : OKc c) : Tot (Fq53 c) OKs := by
  unfold Fq53
  have hl := hc.1
  refine Tot.bind (P := fun v : Int => 0 <= v /\ v < 2147483647) (Tot.whileP (fun x : Int × Int => 0 <= x.1 /\ x.1 <= 64 /\ 0 <= x.2 /\ x.2 < 2147483647) (fun x => (64 - x.1).toNat) (by simp) fun x hx => ?_) fun v hv => Tot.ret ⟨hc, Int.le_refl _, by simp, hv.1, hv.2⟩
  obtain ⟨v1, v2⟩ := x
  obtain ⟨x0, x1, y0, y1⟩ := hx
  simp only at x0 x1 y0 y1
  unfold Lq53_x3
  simp only [lq]
  refine Tot.bind (P := fun b => b = true -> v1 < (c.length : Int) /\ v1 < 64) (Tot.br (fun h => Tot.ret fun g => ?_) fun h => Tot.ret fun g => by cases g) fun b hb => Tot.br (fun h => ?_) fun h => ?_
  · have h1 := lt_dec h
    rw [s_ofN, eL_] at h1
    exact ⟨h1, lt_dec g⟩
  · obtain ⟨h1, h2⟩ := hb h
    obtain ⟨b0, b1⟩ := gd_byte hc x0 h1
    have hm : std.mul .i64 v2 31 = v2 * 31 := mulS (by omega) (by omega)
    rw [hm, conv_id ⟨b0, b1⟩, add_id (x := v2 * 31) (by omega) (by omega), add_id (x := v1) (by omega) (by omega)]
    obtain ⟨r0, r1⟩ := remB (x := v2 * 31 + gd c (std.toN v1)) (m := 2147483647) (by omega) (by omega)
    exact Tot.req ⟨x0, by rw [eL_]; exact h1⟩ (Tot.req (by show (2147483647 : Int) ≠ 0; omega) (Tot.ret ⟨⟨by show 0 <= v1 + 1; omega, by show v1 + 1 <= 64; omega, r0, r1⟩, by show (64 - (v1 + 1)).toNat < (64 - v1).toNat; omega⟩))
  · exact Tot.ret ⟨y0, y1⟩
/- draws of libraries -/
theorem ofBytes_size (n : Nat) (g : Nat -> Int) : (std.ofBytes n g).size = n := by
  show (((List.range n).map fun i => UInt8.ofNat (g i).toNat).toArray).size = n
  simp
theorem roomS {n b : Nat} (hn : n <= 1000) (hb : b <= 1000) : std.room n b := by
  show n * b <= 35184372088832
  exact Nat.le_trans (Nat.mul_le_mul hn hb) (by omega)
theorem nextS {s : Tl01Source} (hs : OKs s) {n : Int} (hn : n <= 1000000) {β : Type} {f : Int × Tl01Source -> Option β} {Q : β -> Prop} (g : ∀ v s', OKs s' -> 0 <= v -> (v < n \/ v = 0) -> Tot (f (v, s')) Q) : Tot ((Fq0 s n).bind f) Q :=
  Tot.bind (next_ok hs hn) fun r hr => g r.1 r.2 hr.1 hr.2.1 hr.2.2
theorem box_ok {s : Tl01Source} (hs : OKs s) : Tot (Fq113 s) fun r => OKs r.2 := by
  unfold Fq113
  exact nextS hs (by omega) fun _ _ h _ _ => nextS h (by omega) fun _ _ h _ _ => nextS h (by omega) fun _ _ h _ _ => nextS h (by omega) fun _ _ h _ _ => Tot.ret h
theorem shape_ok {s : Tl01Source} (hs : OKs s) : Tot (Fq64 s) fun r => OKs r.2 := by
  unfold Fq64
  exact nextS hs (by omega) fun _ _ h _ _ => Tot.bind (box_ok h) fun r hr => Tot.ret hr
theorem inst_ok {s : Tl01Source} (hs : OKs s) {n : Int} (hn : n <= 1000000) : Tot (Fq57 s n) fun r => OKs r.2 := by
  unfold Fq57
  simp only [lq]
  refine nextS hs hn fun _ _ h _ _ => nextS h (by omega) fun _ _ h _ _ => nextS h (by omega) fun _ _ h _ _ => nextS h (by omega) fun _ _ h _ _ => nextS h (by omega) fun _ _ h _ _ => ?_
  refine Tot.bind (P := fun y : List Int × Int × Int × Int × Int => OKs ⟨y.1, y.2.1, y.2.2.1⟩) (Tot.br (fun _ => nextS h (by omega) fun _ _ h _ _ => nextS h (by omega) fun _ _ h _ _ => Tot.ret h) fun _ => Tot.ret h) fun y hy => ?_
  refine nextS hy (by omega) fun _ _ h _ _ => ?_
  refine Tot.bind (P := fun y : List Int × Int × Int × Int × Int => OKs ⟨y.1, y.2.1, y.2.2.1⟩) (Tot.br (fun _ => nextS h (by omega) fun _ _ h _ _ => Tot.ret h) fun _ => Tot.ret h) fun y hy => ?_
  refine nextS hy (by omega) fun _ _ h _ _ => ?_
  exact Tot.bind (P := fun _ : Int => True) (Tot.br (fun _ => Tot.ret trivial) fun _ => Tot.ret trivial) fun _ _ => Tot.ret h
theorem name_ok {s : Tl01Source} (hs : OKs s) : Tot (Fq15 s) fun r => OKs r.2 /\ r.1.size <= 3 := by
  unfold Fq15
  simp only [lq]
  refine nextS hs (by omega) fun v s' h h0 h1 => ?_
  refine Tot.bind (P := fun y : List Int × List Int × Int × Int => OKs ⟨y.2.1, y.2.2.1, y.2.2.2⟩ /\ y.1.length <= 3) (Tot.whileP (fun x : Int × List Int × Int × Int × List Int => OKs ⟨x.2.1, x.2.2.1, x.2.2.2.1⟩ /\ 0 <= x.1 /\ (x.2.2.2.2.length : Int) + x.1 <= 3) (fun x => x.1.toNat) ?_ fun x hx => ?_) fun y hy => Tot.ret ⟨hy.1, by
      rw [ofBytes_size, eL_]; exact hy.2⟩
  · have : std.add .i64 1 v = 1 + v := add_id (by omega) (by omega)
    refine ⟨h, ?_, ?_⟩
    · simp only [this]; omega
    · simp only [this, List.length_nil]; omega
  · obtain ⟨k, c, at', sd, l⟩ := x
    obtain ⟨g1, g2, g3⟩ := hx
    simp only at g1 g2 g3
    simp only [Lq15_x10, lq]
    refine Tot.br (fun hk => ?_) fun hk => Tot.ret ⟨g1, by simp only; omega⟩
    have hk' := lt_dec hk
    refine nextS g1 (by omega) fun w s2 g4 g5 g6 => ?_
    have hsz : (ByteArray.mk #[97, 98, 99, 100, 120, 121, 122, 48, 49, 57]).size = 10 := rfl
    refine Tot.req ⟨g5, by rw [s_slen, hsz]; omega⟩ (Tot.req (roomS (by rw [s_nadd, eL_, eL_, List.length_singleton]; omega) (by omega)) (Tot.ret ⟨⟨g4, ?_, ?_⟩, ?_⟩))
    · simp only [sub_id (x := k) (y := 1) (by omega) (by omega)]; omega
    · simp only [sub_id (x := k) (y := 1) (by omega) (by omega), List.length_append, List.length_singleton]; omega
    · simp only [sub_id (x := k) (y := 1) (by omega) (by omega)]; omega
theorem label_ok {s : Tl01Source} (hs : OKs s) : Tot (Fq50 s) fun r => OKs r.2 /\ r.1.fN.size <= 3 := by
  unfold Fq50
  exact nextS hs (by omega) fun _ _ h _ _ => nextS h (by omega) fun _ _ h _ _ => nextS h (by omega) fun _ _ h _ _ => Tot.bind (name_ok h) fun r hr => Tot.ret hr
/-- what a drawn cell is -/
structure CB (n : Nat) (c : TC) : Prop where
  name : c.fN.size <= 100
  shapes : c.fS.length <= n
  labels : c.fL.length <= n
  insts : c.fI.length <= n
  lnames : ∀ l ∈ c.fL, l.fN.size <= 100
theorem CB.le {n m : Nat} {c : TC} (h : CB n c) (hn : n <= m) : CB m c := ⟨h.name, Nat.le_trans h.shapes hn, Nat.le_trans h.labels hn, Nat.le_trans h.insts hn, h.lnames⟩
theorem sub1 {k : Int} (h : -1000000 <= k /\ k <= 1000000) : std.sub .i64 k 1 = k - 1 := sub_id (by omega) (by omega)
theorem add1 {k : Int} (h : -1000000 <= k /\ k <= 1000000) : std.add .i64 k 1 = k + 1 := add_id (by omega) (by omega)
theorem library_ok {s : Tl01Source} (hs : OKs s) : Tot (Fq10 s) fun r => OKs r.2 /\ 1 <= r.1.fC.length /\ r.1.fC.length <= 4 /\ ∀ c ∈ r.1.fC, CB 4 c := by
  unfold Fq10
  simp only [lq]
  refine nextS hs (by omega) fun v s' h h0 h1 => ?_
  refine Tot.bind (P := fun y : List Int × Int × Int × List TC => OKs ⟨y.1, y.2.1, y.2.2.1⟩ /\ 1 <= y.2.2.2.length /\ y.2.2.2.length <= 4 /\ ∀ c ∈ y.2.2.2, CB 4 c)
    (Tot.whileP (fun x : Int × List Int × Int × Int × List TC => OKs ⟨x.2.1, x.2.2.1, x.2.2.2.1⟩ /\ (x.2.2.2.2.length : Int) = x.1 /\ x.1 <= 1 + v /\ ∀ c ∈ x.2.2.2.2, CB 4 c) (fun x => (5 - x.1).toNat) ?_ fun x hx => ?_) fun y hy => Tot.ret hy
  · exact ⟨h, rfl, by show (0 : Int) <= 1 + v; omega, fun c hc => by cases hc⟩
  · obtain ⟨i, c, at', sd, l⟩ := x
    obtain ⟨g1, g2, g3, g4⟩ := hx
    simp only at g1 g2 g3 g4
    have e1 : std.add .i64 1 v = 1 + v := add_id (by omega) (by omega)
    simp only [Lq10_x8, lq, e1]
    refine Tot.br (fun hk => ?_) fun hk => ?_
    · have hk' := lt_dec hk
      refine Tot.bind (name_ok g1) fun r hr => ?_
      refine Tot.req (roomS (by rw [s_nadd, s_slen, s_slen, ofBytes_size, eL_, List.length_singleton]; omega) (by omega)) ?_
      refine nextS hr.1 (by omega) fun v2 s2 k1 k2 k3 => ?_
      -- shapes
      refine Tot.bind (P := fun y : List Int × Int × Int × List TS => OKs ⟨y.1, y.2.1, y.2.2.1⟩ /\ y.2.2.2.length <= 4) (Tot.whileP (fun x : Int × List Int × Int × Int × List TS => OKs ⟨x.2.1, x.2.2.1, x.2.2.2.1⟩ /\ 0 <= x.1 /\ (x.2.2.2.2.length : Int) + x.1 <= 4) (fun x => x.1.toNat) ⟨k1, k2, by simp only [List.length_nil]; omega⟩ fun x hx => ?_) fun y1 p1 => ?_
      · obtain ⟨k, c, at', sd, l⟩ := x
        obtain ⟨q1, q2, q3⟩ := hx
        simp only at q1 q2 q3
        simp only [Lq10_x32, lq]
        refine Tot.br (fun hk => ?_) fun hk => Tot.ret ⟨q1, by simp only; omega⟩
        have hk' := lt_dec hk
        refine Tot.bind (shape_ok q1) fun r hr => Tot.req (roomS (by rw [s_nadd, eL_, eL_, List.length_singleton]; omega) (by omega)) (Tot.ret ?_)
        rw [sub1 (by omega)]
        exact ⟨⟨hr, by simp only; omega, by simp only [List.length_append, List.length_singleton]; omega⟩, by simp only; omega⟩
      refine nextS p1.1 (by omega) fun v3 s3 k4 k5 k6 => ?_
      -- labels
      refine Tot.bind (P := fun y : List Int × Int × Int × List TB => OKs ⟨y.1, y.2.1, y.2.2.1⟩ /\ y.2.2.2.length <= 4 /\ ∀ l ∈ y.2.2.2, l.fN.size <= 100) (Tot.whileP (fun x : Int × List Int × Int × Int × List TB => OKs ⟨x.2.1, x.2.2.1, x.2.2.2.1⟩ /\ 0 <= x.1 /\ (x.2.2.2.2.length : Int) + x.1 <= 4 /\ ∀ l ∈ x.2.2.2.2, l.fN.size <= 100) (fun x => x.1.toNat) ⟨k4, k5, by simp only [List.length_nil]; omega, fun l hl => by cases hl⟩ fun x hx => ?_) fun y2 p2 => ?_
      · obtain ⟨k, c, at', sd, l⟩ := x
        obtain ⟨q1, q2, q3, q4⟩ := hx
        simp only at q1 q2 q3 q4
        simp only [Lq10_x63, lq]
        refine Tot.br (fun hk => ?_) fun hk => Tot.ret ⟨q1, by simp only; omega, q4⟩
        have hk' := lt_dec hk
        refine Tot.bind (label_ok q1) fun r hr => Tot.req (roomS (by rw [s_nadd, eL_, eL_, List.length_singleton]; omega) (by omega)) (Tot.ret ?_)
        rw [sub1 (by omega)]
        refine ⟨⟨hr.1, by simp only; omega, by simp only [List.length_append, List.length_singleton]; omega, fun l hl => ?_⟩, by simp only; omega⟩
        rcases List.mem_append.1 hl with hl | hl
        · exact q4 l hl
        · rw [List.mem_singleton] at hl; rw [hl]; have := hr.2; omega
      refine nextS p2.1 (by omega) fun v4 s4 k7 k8 k9 => ?_
      -- instances
      refine Tot.bind (P := fun y : List Int × Int × Int × List TI => OKs ⟨y.1, y.2.1, y.2.2.1⟩ /\ y.2.2.2.length <= 4) (Tot.whileP (fun x : Int × List Int × Int × Int × List TI => OKs ⟨x.2.1, x.2.2.1, x.2.2.2.1⟩ /\ 0 <= x.1 /\ (x.2.2.2.2.length : Int) + x.1 <= 4) (fun x => x.1.toNat) ⟨k7, k8, by simp only [List.length_nil]; omega⟩ fun x hx => ?_) fun y3 p3 => ?_
      · obtain ⟨k, c, at', sd, l⟩ := x
        obtain ⟨q1, q2, q3⟩ := hx
        simp only at q1 q2 q3
        simp only [Lq10_x94, lq]
        refine Tot.bind (P := fun b => b = true -> 0 < k) (Tot.br (fun hh => Tot.ret fun _ => lt_dec hh) fun _ => Tot.ret fun hh => by cases hh) fun b hb => Tot.br (fun hk => ?_) fun hk => Tot.ret ⟨q1, by simp only; omega⟩
        have hk' := hb hk
        refine Tot.bind (inst_ok q1 (by omega)) fun r hr => Tot.req (roomS (by rw [s_nadd, eL_, eL_, List.length_singleton]; omega) (by omega)) (Tot.ret ?_)
        rw [sub1 (by omega)]
        exact ⟨⟨hr, by simp only; omega, by simp only [List.length_append, List.length_singleton]; omega⟩, by simp only; omega⟩
      have hcb : CB 4 (TC.mk (std.scat (std.ofBytes (len [std.conv .u8 (std.add .i64 97 i)]) (fun j => gd [std.conv .u8 (std.add .i64 97 i)] (0 + j))) r.1) y1.2.2.2 y2.2.2.2 y3.2.2.2) := by
        refine ⟨?_, p1.2, p2.2.1, p3.2, p2.2.2⟩
        show (_ ++ _ : ByteArray).size <= 100
        rw [ByteArray.size_append, ofBytes_size, eL_, List.length_singleton]
        have := hr.2; omega
      refine Tot.bind (P := fun y => y = l ++ [TC.mk (std.scat (std.ofBytes (len [std.conv .u8 (std.add .i64 97 i)]) (fun j => gd [std.conv .u8 (std.add .i64 97 i)] (0 + j))) r.1) y1.2.2.2 y2.2.2.2 y3.2.2.2]) (Tot.req (roomS (by rw [s_nadd, eL_, eL_, List.length_singleton]; omega) (by omega)) (Tot.ret rfl)) fun y hy => Tot.ret ?_
      subst hy
      rw [add1 (by omega)]
      refine ⟨⟨p3.1, ?_, by simp only; omega, fun c hc => ?_⟩, by simp only; omega⟩
      · simp only [List.length_append, List.length_singleton]; omega
      · rcases List.mem_append.1 hc with hc | hc
        · exact g4 c hc
        · rw [List.mem_singleton] at hc; rw [hc]; exact hcb
    · have := lt_decf hk
      exact Tot.ret ⟨g1, by simp only; omega, by simp only; omega, g4⟩
/- draws of libraries that are mostly valid -/
def PB (m : Nat) (y : List Int × Int × Int × List TC) : Prop := OKs ⟨y.1, y.2.1, y.2.2.1⟩ /\ y.2.2.2.length = m /\ ∀ c ∈ y.2.2.2, CB 40 c
def OKl (a : TL) : Prop := a.fC.length <= 4 /\ (∀ c ∈ a.fC, CB 40 c) /\ 1 <= a.fC.length
theorem OKl.small {a : TL} (h : OKl a) : SmallL a := ⟨by have := h.1; omega, fun c hc => by
  have g := h.2.1 c hc
  exact ⟨by have := g.name; omega, by have := g.shapes; omega, by have := g.labels; omega, by have := g.insts; omega, fun l hl => by have := g.lnames l hl; omega⟩⟩
/- the inverse of an edit that is possible -/
def invE (a : TL) (e : TE) : TE :=
  if e.fk_ = 1 then ⟨2, e.fc, e.fx, ByteArray.mk #[], zSh, zLa, zIn⟩
  else if e.fk_ = 2 then ⟨1, e.fc, e.fx, ByteArray.mk #[], gd (gd a.fC e.fc.toNat).fS e.fx.toNat, zLa, zIn⟩
  else if e.fk_ = 3 then ⟨4, e.fc, e.fx, ByteArray.mk #[], zSh, zLa, zIn⟩
  else if e.fk_ = 4 then ⟨3, e.fc, e.fx, ByteArray.mk #[], zSh, gd (gd a.fC e.fc.toNat).fL e.fx.toNat, zIn⟩
  else if e.fk_ = 5 then ⟨6, e.fc, e.fx, ByteArray.mk #[], zSh, zLa, zIn⟩
  else if e.fk_ = 6 then ⟨5, e.fc, e.fx, ByteArray.mk #[], zSh, zLa, gd (gd a.fC e.fc.toNat).fI e.fx.toNat⟩
  else if e.fk_ = 7 then ⟨7, e.fc, e.fx, (gd a.fC e.fc.toNat).fN, zSh, zLa, zIn⟩
  else if e.fk_ = 8 then ⟨9, e.fc, e.fx, ByteArray.mk #[], zSh, zLa, zIn⟩
  else ⟨8, e.fc, e.fx, (gd a.fC e.fc.toNat).fN, zSh, zLa, zIn⟩
set_option maxHeartbeats 4000000 in
theorem spec_inverse_ok (a : TL) (e : TE) (hc : eCode a e = 0) : Fq30 a e = some (invE a e) := by
  obtain ⟨hv, he, hcell⟩ := eCode_zero hc
  obtain ⟨hk, h1, hi⟩ := okEdit_kind he
  by_cases h8 : e.fk_ = 8
  · obtain ⟨kind, cell, index, name, shape, label, inst⟩ := e
    simp only at h8
    subst h8
    rfl
  · obtain ⟨m, hm, hlt⟩ := hcell h8
    obtain ⟨i2, i4, i6⟩ := eCode_index hc hm hlt
    clear hc he hcell
    obtain ⟨kind, cell, index, name, shape, label, inst⟩ := e
    simp only at hk h1 hi h8 hm i2 i4 i6
    subst hm
    rcases hk with rfl | rfl | rfl | rfl | rfl | rfl | rfl | rfl | rfl
    · rfl
    · obtain ⟨q, rfl, hq⟩ := i2 rfl
      unfold Fq30
      simp only [s_toNn, ro_ (inRl hlt), ro_ (inRl hq)]
      rfl
    · rfl
    · obtain ⟨q, rfl, hq⟩ := i4 rfl
      unfold Fq30
      simp only [s_toNn, ro_ (inRl hlt), ro_ (inRl hq)]
      rfl
    · rfl
    · obtain ⟨q, rfl, hq⟩ := i6 rfl
      unfold Fq30
      simp only [s_toNn, ro_ (inRl hlt), ro_ (inRl hq)]
      rfl
    · unfold Fq30
      simp only [s_toNn, ro_ (inRl hlt)]
      rfl
    · exact absurd rfl h8
    · unfold Fq30
      simp only [s_toNn, ro_ (inRl hlt)]
      rfl
set_option maxHeartbeats 4000000 in
theorem impl_inverse_ok (a : TL) (e : TE) (hc : eCode a e = 0) : Fq27 a e = some (invE a e) := by
  obtain ⟨hv, he, hcell⟩ := eCode_zero hc
  obtain ⟨hk, h1, hi⟩ := okEdit_kind he
  by_cases h8 : e.fk_ = 8
  · obtain ⟨kind, cell, index, name, shape, label, inst⟩ := e
    simp only at h8
    subst h8
    rfl
  · obtain ⟨m, hm, hlt⟩ := hcell h8
    obtain ⟨i2, i4, i6⟩ := eCode_index hc hm hlt
    clear hc he hcell
    obtain ⟨kind, cell, index, name, shape, label, inst⟩ := e
    simp only at hk h1 hi h8 hm i2 i4 i6
    subst hm
    rcases hk with rfl | rfl | rfl | rfl | rfl | rfl | rfl | rfl | rfl
    · rfl
    · obtain ⟨q, rfl, hq⟩ := i2 rfl
      unfold Fq27
      simp only [s_toNn, ro_ (inRl hlt), ro_ (inRl hq)]
      rfl
    · rfl
    · obtain ⟨q, rfl, hq⟩ := i4 rfl
      unfold Fq27
      simp only [s_toNn, ro_ (inRl hlt), ro_ (inRl hq)]
      rfl
    · rfl
    · obtain ⟨q, rfl, hq⟩ := i6 rfl
      unfold Fq27
      simp only [s_toNn, ro_ (inRl hlt), ro_ (inRl hq)]
      rfl
    · unfold Fq27
      simp only [s_toNn, ro_ (inRl hlt)]
      rfl
    · exact absurd rfl h8
    · unfold Fq27
      simp only [s_toNn, ro_ (inRl hlt)]
      rfl
/- references to cells are shifted: both sides -/
def mid {α : Type} (g : α -> α) (l : List α) (i : Nat) : List α := (l.take i).map g ++ l.drop i
theorem mid_len {α : Type} (g : α -> α) (l : List α) (i : Nat) : (mid g l i).length = l.length := by
  simp [mid]; omega
theorem mid_all {α : Type} (g : α -> α) (l : List α) : mid g l l.length = l.map g := by simp [mid]
theorem mid_gd {α : Type} [Inhabited α] {g : α -> α} {l : List α} {i : Nat} (h : i < l.length) : gd (mid g l i) i = gd l i := by
  rw [gd_lt (show i < (mid g l i).length by rw [mid_len]; exact h), gd_lt h]
  unfold mid
  rw [List.getElem_append_right (by simp; omega)]
  simp [Nat.min_eq_left (Nat.le_of_lt h)]
theorem mid_set {α : Type} [Inhabited α] {g : α -> α} {l : List α} {i : Nat} (h : i < l.length) {x : α} (hx : x = g (gd l i)) : List.set (mid g l i) i x = mid g l (i + 1) := by
  subst hx
  unfold mid
  have hm : ((l.take i).map g).length = i := by simp; omega
  rw [List.set_append, if_neg (by omega), hm, Nat.sub_self, List.drop_eq_getElem_cons h, List.take_succ_eq_append_getElem h, gd_lt h, List.set_cons_zero, List.map_append, List.append_assoc]
  rfl
theorem mid_same {α : Type} [Inhabited α] {g : α -> α} {l : List α} {i : Nat} (h : i < l.length) (e : g (gd l i) = gd l i) : mid g l i = mid g l (i + 1) := by
  unfold mid
  rw [List.drop_eq_getElem_cons h, List.take_succ_eq_append_getElem h, <- gd_lt h]
  simp [e]
def shI (f b : Int) (i : TI) : TI := cond (std.le f i.fc) ⟨std.add .i64 i.fc b, i.fp, i.fK, i.fR, i.fu, i.fv⟩ i
def shC (f b : Int) (c : TC) : TC := ⟨c.fN, c.fS, c.fL, c.fI.map (shI f b)⟩
theorem spec_shiftIn (a : TL) (f b : Int) (k : Nat) (v2 : List TC) (hk : a.fC.length = v2.length) (hn : (gd v2 k).fI.length <= 10000000) :
    whileP (Lq18_x25 a f b (k : Int) v2) (0, (gd v2 k).fI) = some (v2.set k (shC f b (gd v2 k))) := by
  obtain ⟨c, hc⟩ : ∃ c, c = gd v2 k := ⟨_, rfl⟩
  rw [<- hc] at hn ⊢
  refine while_from (fun i => ((i : Int), mid (shI f b) c.fI i)) c.fI.length rfl (fun i hi => ?_) ?_
  · simp only [Lq18_x25, lq, obs, s_nadd, s_toNn, Nat.zero_add, <- hc, mid_gd hi]
    rw [ltl_t hi, br_t, ro_ (inRl hi), obs, inc_nat (by omega)]
    cases hle : std.le f (gd c.fI i).fc with
    | false =>
      simp only [br_f, obs]
      rw [mid_same hi (by unfold shI; rw [hle]; rfl)]
    | true =>
      simp only [br_t, obs, ro_ (inRl hi)]
      rw [ro_ (show len c.fI = len (mid (shI f b) c.fI i) by rw [eL_, eL_, mid_len]), obs, obs, mid_set hi (by unfold shI; rw [hle]; rfl)]
  · simp only [Lq18_x25, lq, obs, s_nadd, s_toNn, Nat.zero_add, <- hc]
    rw [ltl_f, br_f, mid_all, ro_ (show len c.fI = len (c.fI.map (shI f b)) by rw [eL_, eL_, List.length_map]), ro_ (show len a.fC = len v2 from hk)]
    rfl
theorem impl_shiftIn (a : TL) (f b : Int) (k : Nat) (v2 : List TC) (hk : a.fC.length = v2.length) (hn : (gd v2 k).fI.length <= 10000000) :
    whileP (Lq20_x34 a f b (k : Int) v2 (std.ofN (len (gd v2 k).fI))) (0, (gd v2 k).fI) = some (v2.set k (shC f b (gd v2 k))) := by
  obtain ⟨c, hc⟩ : ∃ c, c = gd v2 k := ⟨_, rfl⟩
  rw [<- hc] at hn ⊢
  refine while_from (fun i => ((i : Int), mid (shI f b) c.fI i)) c.fI.length rfl (fun i hi => ?_) ?_
  · simp only [Lq20_x34, lq, obs, s_nadd, s_toNn, Nat.zero_add, <- hc, mid_gd hi]
    rw [ltl_t hi, br_t, ro_ (inRl hi), obs, inc_nat (by omega)]
    cases hle : std.le f (gd c.fI i).fc with
    | false =>
      simp only [br_f, obs]
      rw [mid_same hi (by unfold shI; rw [hle]; rfl)]
    | true =>
      simp only [br_t, obs, ro_ (inRl hi)]
      rw [ro_ (show len c.fI = len (mid (shI f b) c.fI i) by rw [eL_, eL_, mid_len]), obs, obs, mid_set hi (by unfold shI; rw [hle]; rfl)]
  · simp only [Lq20_x34, lq, obs, s_nadd, s_toNn, Nat.zero_add, <- hc]
    rw [ltl_f, br_f, mid_all, ro_ (show len c.fI = len (c.fI.map (shI f b)) by rw [eL_, eL_, List.length_map]), ro_ (show len a.fC = len v2 from hk)]
    rfl
theorem spec_l13Shift_ok (a : TL) (f b : Int) (h : SmallL a) : Fq18 a f b = some (a.fC.map (shC f b)) := by
  have hc := h.cells
  unfold Fq18
  refine Eq.trans (bind_of (while_from (r := a.fC.map (shC f b)) (fun i => ((i : Int), mid (shC f b) a.fC i)) a.fC.length rfl (fun i hi => ?_) ?_)) ?_
  · have hi2 := (h.cell _ (gd_mem hi)).insts
    simp only [Lq18_x3, lq, obs, s_nadd, s_toNn, Nat.zero_add]
    rw [ltl_t hi, br_t, ro_ (inRl hi), ro_ (inRl hi), obs, spec_shiftIn a f b i _ (by rw [mid_len]) (by rw [mid_gd hi]; omega), obs, inc_nat (by omega), mid_gd hi, mid_set hi rfl]
  · simp only [Lq18_x3, lq]
    rw [ltl_f, br_f, mid_all]
  · simp only [lq]
    rw [ro_ (by rw [eL_, eL_, List.length_map])]
theorem impl_renumber_ok (a : TL) (f b : Int) (h : SmallL a) : Fq20 a f b = some (a.fC.map (shC f b)) := by
  have hc := h.cells
  unfold Fq20
  refine Eq.trans (bind_of (while_from (r := a.fC.map (shC f b)) (fun i => ((i : Int), mid (shC f b) a.fC i)) a.fC.length rfl (fun i hi => ?_) ?_)) ?_
  · have hi2 := (h.cell _ (gd_mem hi)).insts
    simp only [Lq20_x3, lq, obs, s_nadd, s_toNn, Nat.zero_add]
    rw [ltl_t hi, br_t, ro_ (inRl hi), ro_ (inRl hi), obs, impl_shiftIn a f b i _ (by rw [mid_len]) (by rw [mid_gd hi]; omega), obs, inc_nat (by omega), mid_gd hi, mid_set hi rfl]
  · simp only [Lq20_x3, lq]
    rw [ltl_f, br_f, mid_all]
  · simp only [lq]
    rw [ro_ (by rw [eL_, eL_, List.length_map])]
theorem e8_8 : std.eq (8 : Int) 8 = true := rfl
theorem e9_8 : std.eq (9 : Int) 8 = false := rfl
theorem e9_9 : std.eq (9 : Int) 9 = true := rfl
theorem e1_1 : std.eq (1 : Int) 1 = true := rfl
theorem e1_2 : std.eq (1 : Int) 2 = false := rfl
theorem e1_3 : std.eq (1 : Int) 3 = false := rfl
theorem e1_4 : std.eq (1 : Int) 4 = false := rfl
theorem e1_5 : std.eq (1 : Int) 5 = false := rfl
theorem e1_6 : std.eq (1 : Int) 6 = false := rfl
theorem e1_7 : std.eq (1 : Int) 7 = false := rfl
theorem e1_8 : std.eq (1 : Int) 8 = false := rfl
theorem e1_9 : std.eq (1 : Int) 9 = false := rfl
theorem e2_1 : std.eq (2 : Int) 1 = false := rfl
theorem e2_2 : std.eq (2 : Int) 2 = true := rfl
theorem e2_3 : std.eq (2 : Int) 3 = false := rfl
theorem e2_4 : std.eq (2 : Int) 4 = false := rfl
theorem e2_5 : std.eq (2 : Int) 5 = false := rfl
theorem e2_6 : std.eq (2 : Int) 6 = false := rfl
theorem e2_7 : std.eq (2 : Int) 7 = false := rfl
theorem e2_8 : std.eq (2 : Int) 8 = false := rfl
theorem e2_9 : std.eq (2 : Int) 9 = false := rfl
theorem e3_1 : std.eq (3 : Int) 1 = false := rfl
theorem e3_2 : std.eq (3 : Int) 2 = false := rfl
theorem e3_3 : std.eq (3 : Int) 3 = true := rfl
theorem e3_4 : std.eq (3 : Int) 4 = false := rfl
theorem e3_5 : std.eq (3 : Int) 5 = false := rfl
theorem e3_6 : std.eq (3 : Int) 6 = false := rfl
theorem e3_7 : std.eq (3 : Int) 7 = false := rfl
theorem e3_8 : std.eq (3 : Int) 8 = false := rfl
theorem e3_9 : std.eq (3 : Int) 9 = false := rfl
theorem e4_1 : std.eq (4 : Int) 1 = false := rfl
theorem e4_2 : std.eq (4 : Int) 2 = false := rfl
theorem e4_3 : std.eq (4 : Int) 3 = false := rfl
theorem e4_4 : std.eq (4 : Int) 4 = true := rfl
theorem e4_5 : std.eq (4 : Int) 5 = false := rfl
theorem e4_6 : std.eq (4 : Int) 6 = false := rfl
theorem e4_7 : std.eq (4 : Int) 7 = false := rfl
theorem e4_8 : std.eq (4 : Int) 8 = false := rfl
theorem e4_9 : std.eq (4 : Int) 9 = false := rfl
theorem e5_1 : std.eq (5 : Int) 1 = false := rfl
theorem e5_2 : std.eq (5 : Int) 2 = false := rfl
theorem e5_3 : std.eq (5 : Int) 3 = false := rfl
theorem e5_4 : std.eq (5 : Int) 4 = false := rfl
theorem e5_5 : std.eq (5 : Int) 5 = true := rfl
theorem e5_6 : std.eq (5 : Int) 6 = false := rfl
theorem e5_7 : std.eq (5 : Int) 7 = false := rfl
theorem e5_8 : std.eq (5 : Int) 8 = false := rfl
theorem e5_9 : std.eq (5 : Int) 9 = false := rfl
theorem e6_1 : std.eq (6 : Int) 1 = false := rfl
theorem e6_2 : std.eq (6 : Int) 2 = false := rfl
theorem e6_3 : std.eq (6 : Int) 3 = false := rfl
theorem e6_4 : std.eq (6 : Int) 4 = false := rfl
theorem e6_5 : std.eq (6 : Int) 5 = false := rfl
theorem e6_6 : std.eq (6 : Int) 6 = true := rfl
theorem e6_7 : std.eq (6 : Int) 7 = false := rfl
theorem e6_8 : std.eq (6 : Int) 8 = false := rfl
theorem e6_9 : std.eq (6 : Int) 9 = false := rfl
theorem e7_1 : std.eq (7 : Int) 1 = false := rfl
theorem e7_2 : std.eq (7 : Int) 2 = false := rfl
theorem e7_3 : std.eq (7 : Int) 3 = false := rfl
theorem e7_4 : std.eq (7 : Int) 4 = false := rfl
theorem e7_5 : std.eq (7 : Int) 5 = false := rfl
theorem e7_6 : std.eq (7 : Int) 6 = false := rfl
theorem e7_7 : std.eq (7 : Int) 7 = true := rfl
theorem e7_8 : std.eq (7 : Int) 8 = false := rfl
theorem e7_9 : std.eq (7 : Int) 9 = false := rfl
/- an edit that is possible: both sides -/
def insA {α : Type} (l : List α) (i : Nat) (x : α) : List α := l.take i ++ [x] ++ l.drop i
def delA {α : Type} (l : List α) (i : Nat) : List α := l.take i ++ l.drop (i + 1)
def edC (e : TE) (c : TC) : TC :=
  if e.fk_ = 1 then ⟨c.fN, insA c.fS e.fx.toNat e.fs_, c.fL, c.fI⟩
  else if e.fk_ = 2 then ⟨c.fN, delA c.fS e.fx.toNat, c.fL, c.fI⟩
  else if e.fk_ = 3 then ⟨c.fN, c.fS, insA c.fL e.fx.toNat e.fl_, c.fI⟩
  else if e.fk_ = 4 then ⟨c.fN, c.fS, delA c.fL e.fx.toNat, c.fI⟩
  else if e.fk_ = 5 then ⟨c.fN, c.fS, c.fL, insA c.fI e.fx.toNat e.fi_⟩
  else if e.fk_ = 6 then ⟨c.fN, c.fS, c.fL, delA c.fI e.fx.toNat⟩
  else if e.fk_ = 7 then ⟨e.fN, c.fS, c.fL, c.fI⟩
  else c
def appE (a : TL) (e : TE) : TL :=
  if e.fk_ = 8 then ⟨insA (a.fC.map (shC e.fc 1)) e.fc.toNat ⟨e.fN, [], [], []⟩⟩
  else if e.fk_ = 9 then ⟨(delA a.fC e.fc.toNat).map (shC e.fc (-1))⟩
  else ⟨a.fC.set e.fc.toNat (edC e (gd a.fC e.fc.toNat))⟩
theorem insC_zero {i : Int} {n : Nat} {m : Int} (h : insC i n m = 0) : i <= n /\ (n : Int) ≠ m := by
  unfold insC at h
  by_cases h1 : (n : Int) < i
  · rw [if_pos h1] at h; exact absurd h (by decide)
  · rw [if_neg h1] at h
    by_cases h2 : (n : Int) = m
    · rw [if_pos h2] at h; exact absurd h (by decide)
    · exact ⟨by omega, h2⟩
/-- where an insertion may stand -/
theorem eCode_ins {a : TL} {e : TE} {m : Nat} (hc : eCode a e = 0) (hm : e.fc = (m : Int)) (hlt : m < a.fC.length) : (e.fk_ = 1 -> e.fx <= ((gd a.fC m).fS.length : Int) /\ ((gd a.fC m).fS.length : Int) ≠ 24) /\ (e.fk_ = 3 -> e.fx <= ((gd a.fC m).fL.length : Int) /\ ((gd a.fC m).fL.length : Int) ≠ 8) /\ (e.fk_ = 5 -> (e.fx <= ((gd a.fC m).fI.length : Int) /\ ((gd a.fC m).fI.length : Int) ≠ 8) /\ e.fi_.fc < e.fc) := by
  obtain ⟨hv, he, _⟩ := eCode_zero hc
  unfold eCode at hc
  rw [if_neg (by rw [hv, he]; decide)] at hc
  have hn : ¬ (a.fC.length : Int) <= e.fc := by omega
  have ht : e.fc.toNat = m := by omega
  rw [ht] at hc
  refine ⟨fun hk => ?_, fun hk => ?_, fun hk => ?_⟩
  · rw [if_neg (by omega), if_neg hn, if_pos hk] at hc; exact insC_zero hc
  · rw [if_neg (by omega), if_neg hn, if_neg (by omega), if_neg (by omega), if_pos hk] at hc; exact insC_zero hc
  · rw [if_neg (by omega), if_neg hn, if_neg (by omega), if_neg (by omega), if_neg (by omega), if_neg (by omega), if_pos hk] at hc
    by_cases h1 : insC e.fx (gd a.fC m).fI.length 8 = 0 /\ e.fc <= e.fi_.fc
    · rw [if_pos h1] at hc; exact absurd hc (by decide)
    · rw [if_neg h1] at hc
      exact ⟨insC_zero hc, by by_cases h2 : e.fc <= e.fi_.fc; exact absurd ⟨hc, h2⟩ h1; omega⟩
theorem eCode_cell {a : TL} {e : TE} (hc : eCode a e = 0) (hk : e.fk_ = 8) : e.fc <= (a.fC.length : Int) /\ (a.fC.length : Int) ≠ 8 /\ othN a.fC (-1) e.fN = false := by
  obtain ⟨hv, he, _⟩ := eCode_zero hc
  unfold eCode at hc
  rw [if_neg (by rw [hv, he]; decide), if_pos hk] at hc
  by_cases h1 : (a.fC.length : Int) < e.fc
  · rw [if_pos h1] at hc; exact absurd hc (by decide)
  · rw [if_neg h1] at hc
    by_cases h2 : (a.fC.length : Int) = 8
    · rw [if_pos h2] at hc; exact absurd hc (by decide)
    · rw [if_neg h2] at hc
      refine ⟨by omega, h2, ?_⟩
      cases h3 : othN a.fC (-1) e.fN with
      | false => rfl
      | true => rw [h3, if_pos rfl] at hc; exact absurd hc (by decide)
theorem room_of {n b : Nat} (hn : n <= 1000000) (hb : b <= 1000) : std.room n b := roomC (by omega) hb
theorem small_ins {a : TL} (h : SmallL a) (m : Nat) (s : ByteArray) (hs : s.size <= 1048576) (hn : a.fC.length <= 1000) : SmallL ⟨List.take m a.fC ++ [⟨s, [], [], []⟩] ++ List.drop m a.fC⟩ := by
  refine ⟨by simp only [List.length_append, List.length_take, List.length_drop, List.length_cons, List.length_nil]; omega, fun c hc => ?_⟩
  simp only [List.mem_append, List.mem_singleton] at hc
  rcases hc with (hc | rfl) | hc
  · exact h.cell c (List.mem_of_mem_take hc)
  · exact ⟨hs, by simp, by simp, by simp, by simp⟩
  · exact h.cell c (List.mem_of_mem_drop hc)
theorem small_del {a : TL} (h : SmallL a) (m : Nat) : SmallL ⟨delA a.fC m⟩ := by
  have hl := h.cells
  refine ⟨by simp only [delA, List.length_append, List.length_take, List.length_drop]; omega, fun c hc => ?_⟩
  simp only [delA, List.mem_append] at hc
  rcases hc with hc | hc
  · exact h.cell c (List.mem_of_mem_take hc)
  · exact h.cell c (List.mem_of_mem_drop hc)
theorem insA_map {f b : Int} (l : List TC) (m : Nat) (s : ByteArray) : List.map (shC f b) (List.take m l ++ [⟨s, [], [], []⟩] ++ List.drop m l) = insA (l.map (shC f b)) m ⟨s, [], [], []⟩ := by
  unfold insA
  rw [List.map_append, List.map_append, List.map_take, List.map_drop]
  rfl
set_option maxHeartbeats 4000000 in
theorem spec_l13Do_ok (a : TL) (e : TE) (h : SmallL a) (g : SmallE e) (hc : eCode a e = 0) : Fq48 a e = some (appE a e) := by
  have hcl := h.cells
  obtain ⟨hv, he, hcell⟩ := eCode_zero hc
  obtain ⟨hk, h1, hi⟩ := okEdit_kind he
  have hl := okLib_len hv
  obtain ⟨m, hm⟩ := Int.eq_ofNat_of_zero_le h1
  obtain ⟨q, hq⟩ := Int.eq_ofNat_of_zero_le hi
  unfold Fq48
  by_cases h8 : e.fk_ = 8
  · obtain ⟨c1, c2, _⟩ := eCode_cell hc h8
    rw [hm] at c1
    unfold appE
    rw [if_pos h8, h8, hm, e8_8, br_t]
    rw [spec_l13Shift_ok a _ _ h, obs]
    obtain ⟨L, hL⟩ : ∃ L, L = a.fC.map (shC (m : Int) 1) := ⟨_, rfl⟩
    have hLl : L.length = a.fC.length := by rw [hL, List.length_map]
    rw [<- hL]
    simp only [br_f, br_t, obs, lq, s_ofN, s_toNn, s_nadd, s_nsub, Nat.zero_add, eL_, List.nil_append, show std.toN 0 = 0 from rfl, Nat.sub_zero, List.drop_zero, List.length_append, List.length_take, List.length_drop, List.length_cons, List.length_nil, List.length_map]
    rw [<- hLl]
    have c3 : m <= L.length := by omega
    repeat (rw [ro_]; rotate_left; focus (first | trivial | exact ⟨by omega, by omega⟩ | exact room_of (by omega) (by omega) | omega))
    rw [Int.toNat_natCast]
    unfold insA
    rw [List.take_of_length_le (l := List.drop m L) (by simp)]
  · obtain ⟨m2, hm2, hlt⟩ := hcell h8
    obtain rfl : m = m2 := by omega
    clear hm2
    by_cases h9 : e.fk_ = 9
    · unfold appE
      rw [if_neg h8, if_pos h9, h9, hm, e9_8, e9_9, br_f, br_t]
      have hm1 : std.add .i64 (m : Int) 1 = ((m + 1 : Nat) : Int) := inc_nat (by omega)
      simp only [hm1, br_f, br_t, obs, lq, s_ofN, s_toNn, s_nadd, s_nsub, Nat.zero_add, eL_, List.nil_append, show std.toN 0 = 0 from rfl, Nat.sub_zero, List.drop_zero, List.length_append, List.length_take, List.length_drop, List.length_cons, List.length_nil, List.length_map]
      have ed : List.take m a.fC ++ List.take (a.fC.length - (m + 1)) (List.drop (m + 1) a.fC) = delA a.fC m := by
        unfold delA
        rw [List.take_of_length_le (l := List.drop (m + 1) a.fC) (by simp)]
      rw [ed, spec_l13Shift_ok ⟨delA a.fC m⟩ _ _ (small_del h m), obs]
      have hdl : (delA a.fC m).length = a.fC.length - 1 := by unfold delA; simp; omega
      simp only [List.length_map]
      repeat (rw [ro_]; rotate_left; focus (first | trivial | exact ⟨by omega, by omega⟩ | exact room_of (by omega) (by omega) | omega))
      rw [Int.toNat_natCast]
    · have hk7 : e.fk_ = 1 \/ e.fk_ = 2 \/ e.fk_ = 3 \/ e.fk_ = 4 \/ e.fk_ = 5 \/ e.fk_ = 6 \/ e.fk_ = 7 := by omega
      unfold appE
      rw [if_neg h8, if_neg h9]
      obtain ⟨d2, d4, d6⟩ := eCode_index hc hm hlt
      obtain ⟨n1, n3, n5⟩ := eCode_ins hc hm hlt
      obtain ⟨b1, b2, b3⟩ := okLib_cell hv hlt
      have hq1 : q <= 1000 -> std.add .i64 (q : Int) 1 = ((q + 1 : Nat) : Int) := fun hh => inc_nat (by omega)
      have hin : std.inR (m : Int) a.fC.length := ⟨by omega, by omega⟩
      clear hcell h8 h9 hk hc
      obtain ⟨kind, cell, index, name, shape, label, inst⟩ := e
      simp only at hk7 hm hq d2 d4 d6 n1 n3 n5 ⊢
      subst hm hq
      obtain ⟨c, hcd⟩ : ∃ c, c = gd a.fC m := ⟨_, rfl⟩
      rw [<- hcd] at d2 d4 d6 n1 n3 n5 b1 b2 b3
      have hgd : gd a.fC (Int.toNat (m : Int)) = c := by rw [Int.toNat_natCast, hcd]
      have hset : ∀ x : TC, (a.fC.set m x).length = a.fC.length := fun x => List.length_set
      rcases hk7 with rfl | rfl | rfl | rfl | rfl | rfl | rfl
      · obtain ⟨j1, j2⟩ := n1 rfl
        simp only [edC, hgd, Int.toNat_natCast, Int.reduceEq, if_true, if_false, eq_self]
        simp only [e1_1, e1_2, e1_3, e1_4, e1_5, e1_6, e1_7, e1_8, e1_9, br_f, br_t, obs, lq, s_ofN, s_toNn, s_nadd, s_nsub, Nat.zero_add, eL_, List.nil_append, show std.toN 0 = 0 from rfl, Nat.sub_zero, List.drop_zero, List.length_append, List.length_take, List.length_drop, List.length_cons, List.length_nil, List.length_map, <- hcd, hset]
        repeat (rw [ro_]; rotate_left; focus (first | trivial | exact ⟨by omega, by omega⟩ | exact room_of (by omega) (by omega) | omega))
        unfold insA
        rw [List.take_of_length_le (l := List.drop q c.fS) (by simp)]
        all_goals (try simp only [e1_1, e1_2, e1_3, e1_4, e1_5, e1_6, e1_7, e1_8, e1_9, br_f, br_t, obs, lq, s_ofN, s_toNn, s_nadd, s_nsub, Nat.zero_add, eL_, List.nil_append, show std.toN 0 = 0 from rfl, Nat.sub_zero, List.drop_zero, List.length_append, List.length_take, List.length_drop, List.length_cons, List.length_nil, List.length_map, <- hcd, hset])
        all_goals (repeat (rw [ro_]; rotate_left; focus (first | trivial | exact ⟨by omega, by omega⟩ | exact room_of (by omega) (by omega) | omega)))
        all_goals (try simp only [e1_1, e1_2, e1_3, e1_4, e1_5, e1_6, e1_7, e1_8, e1_9, br_f, br_t, obs, lq, s_ofN, s_toNn, s_nadd, s_nsub, Nat.zero_add, eL_, List.nil_append, show std.toN 0 = 0 from rfl, Nat.sub_zero, List.drop_zero, List.length_append, List.length_take, List.length_drop, List.length_cons, List.length_nil, List.length_map, <- hcd, hset])
        all_goals (repeat (rw [ro_]; rotate_left; focus (first | trivial | exact ⟨by omega, by omega⟩ | exact room_of (by omega) (by omega) | omega)))
      · obtain ⟨q2, j1, j2⟩ := d2 rfl
        obtain rfl : q = q2 := by omega
        simp only [edC, hgd, Int.toNat_natCast, Int.reduceEq, if_true, if_false, eq_self]
        simp only [e2_1, e2_2, e2_3, e2_4, e2_5, e2_6, e2_7, e2_8, e2_9, hq1 (show q <= 1000 by omega), br_f, br_t, obs, lq, s_ofN, s_toNn, s_nadd, s_nsub, Nat.zero_add, eL_, List.nil_append, show std.toN 0 = 0 from rfl, Nat.sub_zero, List.drop_zero, List.length_append, List.length_take, List.length_drop, List.length_cons, List.length_nil, List.length_map, <- hcd, hset]
        repeat (rw [ro_]; rotate_left; focus (first | trivial | exact ⟨by omega, by omega⟩ | exact room_of (by omega) (by omega) | omega))
        unfold delA
        rw [List.take_of_length_le (l := List.drop (q + 1) c.fS) (by simp)]
        all_goals (try simp only [e2_1, e2_2, e2_3, e2_4, e2_5, e2_6, e2_7, e2_8, e2_9, hq1 (show q <= 1000 by omega), br_f, br_t, obs, lq, s_ofN, s_toNn, s_nadd, s_nsub, Nat.zero_add, eL_, List.nil_append, show std.toN 0 = 0 from rfl, Nat.sub_zero, List.drop_zero, List.length_append, List.length_take, List.length_drop, List.length_cons, List.length_nil, List.length_map, <- hcd, hset])
        all_goals (repeat (rw [ro_]; rotate_left; focus (first | trivial | exact ⟨by omega, by omega⟩ | exact room_of (by omega) (by omega) | omega)))
        all_goals (try simp only [e2_1, e2_2, e2_3, e2_4, e2_5, e2_6, e2_7, e2_8, e2_9, hq1 (show q <= 1000 by omega), br_f, br_t, obs, lq, s_ofN, s_toNn, s_nadd, s_nsub, Nat.zero_add, eL_, List.nil_append, show std.toN 0 = 0 from rfl, Nat.sub_zero, List.drop_zero, List.length_append, List.length_take, List.length_drop, List.length_cons, List.length_nil, List.length_map, <- hcd, hset])
        all_goals (repeat (rw [ro_]; rotate_left; focus (first | trivial | exact ⟨by omega, by omega⟩ | exact room_of (by omega) (by omega) | omega)))
      · obtain ⟨j1, j2⟩ := n3 rfl
        simp only [edC, hgd, Int.toNat_natCast, Int.reduceEq, if_true, if_false, eq_self]
        simp only [e3_1, e3_2, e3_3, e3_4, e3_5, e3_6, e3_7, e3_8, e3_9, br_f, br_t, obs, lq, s_ofN, s_toNn, s_nadd, s_nsub, Nat.zero_add, eL_, List.nil_append, show std.toN 0 = 0 from rfl, Nat.sub_zero, List.drop_zero, List.length_append, List.length_take, List.length_drop, List.length_cons, List.length_nil, List.length_map, <- hcd, hset]
        repeat (rw [ro_]; rotate_left; focus (first | trivial | exact ⟨by omega, by omega⟩ | exact room_of (by omega) (by omega) | omega))
        unfold insA
        rw [List.take_of_length_le (l := List.drop q c.fL) (by simp)]
        all_goals (try simp only [e3_1, e3_2, e3_3, e3_4, e3_5, e3_6, e3_7, e3_8, e3_9, br_f, br_t, obs, lq, s_ofN, s_toNn, s_nadd, s_nsub, Nat.zero_add, eL_, List.nil_append, show std.toN 0 = 0 from rfl, Nat.sub_zero, List.drop_zero, List.length_append, List.length_take, List.length_drop, List.length_cons, List.length_nil, List.length_map, <- hcd, hset])
        all_goals (repeat (rw [ro_]; rotate_left; focus (first | trivial | exact ⟨by omega, by omega⟩ | exact room_of (by omega) (by omega) | omega)))
        all_goals (try simp only [e3_1, e3_2, e3_3, e3_4, e3_5, e3_6, e3_7, e3_8, e3_9, br_f, br_t, obs, lq, s_ofN, s_toNn, s_nadd, s_nsub, Nat.zero_add, eL_, List.nil_append, show std.toN 0 = 0 from rfl, Nat.sub_zero, List.drop_zero, List.length_append, List.length_take, List.length_drop, List.length_cons, List.length_nil, List.length_map, <- hcd, hset])
        all_goals (repeat (rw [ro_]; rotate_left; focus (first | trivial | exact ⟨by omega, by omega⟩ | exact room_of (by omega) (by omega) | omega)))
      · obtain ⟨q2, j1, j2⟩ := d4 rfl
        obtain rfl : q = q2 := by omega
        simp only [edC, hgd, Int.toNat_natCast, Int.reduceEq, if_true, if_false, eq_self]
        simp only [e4_1, e4_2, e4_3, e4_4, e4_5, e4_6, e4_7, e4_8, e4_9, hq1 (show q <= 1000 by omega), br_f, br_t, obs, lq, s_ofN, s_toNn, s_nadd, s_nsub, Nat.zero_add, eL_, List.nil_append, show std.toN 0 = 0 from rfl, Nat.sub_zero, List.drop_zero, List.length_append, List.length_take, List.length_drop, List.length_cons, List.length_nil, List.length_map, <- hcd, hset]
        repeat (rw [ro_]; rotate_left; focus (first | trivial | exact ⟨by omega, by omega⟩ | exact room_of (by omega) (by omega) | omega))
        unfold delA
        rw [List.take_of_length_le (l := List.drop (q + 1) c.fL) (by simp)]
        all_goals (try simp only [e4_1, e4_2, e4_3, e4_4, e4_5, e4_6, e4_7, e4_8, e4_9, hq1 (show q <= 1000 by omega), br_f, br_t, obs, lq, s_ofN, s_toNn, s_nadd, s_nsub, Nat.zero_add, eL_, List.nil_append, show std.toN 0 = 0 from rfl, Nat.sub_zero, List.drop_zero, List.length_append, List.length_take, List.length_drop, List.length_cons, List.length_nil, List.length_map, <- hcd, hset])
        all_goals (repeat (rw [ro_]; rotate_left; focus (first | trivial | exact ⟨by omega, by omega⟩ | exact room_of (by omega) (by omega) | omega)))
        all_goals (try simp only [e4_1, e4_2, e4_3, e4_4, e4_5, e4_6, e4_7, e4_8, e4_9, hq1 (show q <= 1000 by omega), br_f, br_t, obs, lq, s_ofN, s_toNn, s_nadd, s_nsub, Nat.zero_add, eL_, List.nil_append, show std.toN 0 = 0 from rfl, Nat.sub_zero, List.drop_zero, List.length_append, List.length_take, List.length_drop, List.length_cons, List.length_nil, List.length_map, <- hcd, hset])
        all_goals (repeat (rw [ro_]; rotate_left; focus (first | trivial | exact ⟨by omega, by omega⟩ | exact room_of (by omega) (by omega) | omega)))
      · obtain ⟨⟨j1, j2⟩, _⟩ := n5 rfl
        simp only [edC, hgd, Int.toNat_natCast, Int.reduceEq, if_true, if_false, eq_self]
        simp only [e5_1, e5_2, e5_3, e5_4, e5_5, e5_6, e5_7, e5_8, e5_9, br_f, br_t, obs, lq, s_ofN, s_toNn, s_nadd, s_nsub, Nat.zero_add, eL_, List.nil_append, show std.toN 0 = 0 from rfl, Nat.sub_zero, List.drop_zero, List.length_append, List.length_take, List.length_drop, List.length_cons, List.length_nil, List.length_map, <- hcd, hset]
        repeat (rw [ro_]; rotate_left; focus (first | trivial | exact ⟨by omega, by omega⟩ | exact room_of (by omega) (by omega) | omega))
        unfold insA
        rw [List.take_of_length_le (l := List.drop q c.fI) (by simp)]
        all_goals (try simp only [e5_1, e5_2, e5_3, e5_4, e5_5, e5_6, e5_7, e5_8, e5_9, br_f, br_t, obs, lq, s_ofN, s_toNn, s_nadd, s_nsub, Nat.zero_add, eL_, List.nil_append, show std.toN 0 = 0 from rfl, Nat.sub_zero, List.drop_zero, List.length_append, List.length_take, List.length_drop, List.length_cons, List.length_nil, List.length_map, <- hcd, hset])
        all_goals (repeat (rw [ro_]; rotate_left; focus (first | trivial | exact ⟨by omega, by omega⟩ | exact room_of (by omega) (by omega) | omega)))
        all_goals (try simp only [e5_1, e5_2, e5_3, e5_4, e5_5, e5_6, e5_7, e5_8, e5_9, br_f, br_t, obs, lq, s_ofN, s_toNn, s_nadd, s_nsub, Nat.zero_add, eL_, List.nil_append, show std.toN 0 = 0 from rfl, Nat.sub_zero, List.drop_zero, List.length_append, List.length_take, List.length_drop, List.length_cons, List.length_nil, List.length_map, <- hcd, hset])
        all_goals (repeat (rw [ro_]; rotate_left; focus (first | trivial | exact ⟨by omega, by omega⟩ | exact room_of (by omega) (by omega) | omega)))
      · obtain ⟨q2, j1, j2⟩ := d6 rfl
        obtain rfl : q = q2 := by omega
        simp only [edC, hgd, Int.toNat_natCast, Int.reduceEq, if_true, if_false, eq_self]
        simp only [e6_1, e6_2, e6_3, e6_4, e6_5, e6_6, e6_7, e6_8, e6_9, hq1 (show q <= 1000 by omega), br_f, br_t, obs, lq, s_ofN, s_toNn, s_nadd, s_nsub, Nat.zero_add, eL_, List.nil_append, show std.toN 0 = 0 from rfl, Nat.sub_zero, List.drop_zero, List.length_append, List.length_take, List.length_drop, List.length_cons, List.length_nil, List.length_map, <- hcd, hset]
        repeat (rw [ro_]; rotate_left; focus (first | trivial | exact ⟨by omega, by omega⟩ | exact room_of (by omega) (by omega) | omega))
        unfold delA
        rw [List.take_of_length_le (l := List.drop (q + 1) c.fI) (by simp)]
        all_goals (try simp only [e6_1, e6_2, e6_3, e6_4, e6_5, e6_6, e6_7, e6_8, e6_9, hq1 (show q <= 1000 by omega), br_f, br_t, obs, lq, s_ofN, s_toNn, s_nadd, s_nsub, Nat.zero_add, eL_, List.nil_append, show std.toN 0 = 0 from rfl, Nat.sub_zero, List.drop_zero, List.length_append, List.length_take, List.length_drop, List.length_cons, List.length_nil, List.length_map, <- hcd, hset])
        all_goals (repeat (rw [ro_]; rotate_left; focus (first | trivial | exact ⟨by omega, by omega⟩ | exact room_of (by omega) (by omega) | omega)))
        all_goals (try simp only [e6_1, e6_2, e6_3, e6_4, e6_5, e6_6, e6_7, e6_8, e6_9, hq1 (show q <= 1000 by omega), br_f, br_t, obs, lq, s_ofN, s_toNn, s_nadd, s_nsub, Nat.zero_add, eL_, List.nil_append, show std.toN 0 = 0 from rfl, Nat.sub_zero, List.drop_zero, List.length_append, List.length_take, List.length_drop, List.length_cons, List.length_nil, List.length_map, <- hcd, hset])
        all_goals (repeat (rw [ro_]; rotate_left; focus (first | trivial | exact ⟨by omega, by omega⟩ | exact room_of (by omega) (by omega) | omega)))
      · simp only [edC, hgd, Int.toNat_natCast, Int.reduceEq, if_true, if_false, eq_self]
        simp only [e7_1, e7_2, e7_3, e7_4, e7_5, e7_6, e7_7, e7_8, e7_9, br_f, br_t, obs, lq, s_ofN, s_toNn, s_nadd, s_nsub, Nat.zero_add, eL_, List.nil_append, show std.toN 0 = 0 from rfl, Nat.sub_zero, List.drop_zero, List.length_append, List.length_take, List.length_drop, List.length_cons, List.length_nil, List.length_map, <- hcd, hset]
        repeat (rw [ro_]; rotate_left; focus (first | trivial | exact ⟨by omega, by omega⟩ | exact room_of (by omega) (by omega) | omega))
        all_goals (try simp only [e7_1, e7_2, e7_3, e7_4, e7_5, e7_6, e7_7, e7_8, e7_9, br_f, br_t, obs, lq, s_ofN, s_toNn, s_nadd, s_nsub, Nat.zero_add, eL_, List.nil_append, show std.toN 0 = 0 from rfl, Nat.sub_zero, List.drop_zero, List.length_append, List.length_take, List.length_drop, List.length_cons, List.length_nil, List.length_map, <- hcd, hset])
        all_goals (repeat (rw [ro_]; rotate_left; focus (first | trivial | exact ⟨by omega, by omega⟩ | exact room_of (by omega) (by omega) | omega)))
        all_goals (try simp only [e7_1, e7_2, e7_3, e7_4, e7_5, e7_6, e7_7, e7_8, e7_9, br_f, br_t, obs, lq, s_ofN, s_toNn, s_nadd, s_nsub, Nat.zero_add, eL_, List.nil_append, show std.toN 0 = 0 from rfl, Nat.sub_zero, List.drop_zero, List.length_append, List.length_take, List.length_drop, List.length_cons, List.length_nil, List.length_map, <- hcd, hset])
        all_goals (repeat (rw [ro_]; rotate_left; focus (first | trivial | exact ⟨by omega, by omega⟩ | exact room_of (by omega) (by omega) | omega)))
set_option maxHeartbeats 4000000 in
theorem impl_edited_ok (a : TL) (e : TE) (h : SmallL a) (g : SmallE e) (hc : eCode a e = 0) : Fq116 a e = some (appE a e) := by
  have hcl := h.cells
  obtain ⟨hv, he, hcell⟩ := eCode_zero hc
  obtain ⟨hk, h1, hi⟩ := okEdit_kind he
  have hl := okLib_len hv
  obtain ⟨m, hm⟩ := Int.eq_ofNat_of_zero_le h1
  obtain ⟨q, hq⟩ := Int.eq_ofNat_of_zero_le hi
  unfold Fq116
  rw [impl_copyLibrary_ok a h, obs]
  by_cases h8 : e.fk_ = 8
  · obtain ⟨c1, c2, _⟩ := eCode_cell hc h8
    rw [hm] at c1
    unfold appE
    rw [if_pos h8, h8, hm, e8_8, br_t]
    have c3 : m <= a.fC.length := by omega
    simp only [lq]
    unfold Fq29
    rw [if_pos ⟨by omega, by omega, by simp, by simp; omega⟩, obs, Int.toNat_natCast]
    rw [impl_renumber_ok _ _ _ (small_ins h m e.fN (by have := g.name; omega) (by omega)), obs]
    rw [ro_ (by simp [eL_]), ro_ (by simp [eL_])]
    rw [insA_map]
  · obtain ⟨m2, hm2, hlt⟩ := hcell h8
    obtain rfl : m = m2 := by omega
    clear hm2
    by_cases h9 : e.fk_ = 9
    · unfold appE
      rw [if_neg h8, if_pos h9, h9, hm, e9_8, e9_9, br_f, br_t]
      have hm1 : std.add .i64 (m : Int) 1 = ((m + 1 : Nat) : Int) := inc_nat (by omega)
      unfold Fq120 Fq81
      rw [hm1, if_pos ⟨by omega, by omega, by omega⟩, obs, obs, Int.toNat_natCast, Int.toNat_natCast]
      rw [show List.take m a.fC ++ List.drop (m + 1) a.fC = delA a.fC m from rfl, impl_renumber_ok ⟨delA a.fC m⟩ _ _ (small_del h m), obs]
      rw [ro_ (by simp [eL_]), ro_ (by simp [eL_])]
    · have hk7 : e.fk_ = 1 \/ e.fk_ = 2 \/ e.fk_ = 3 \/ e.fk_ = 4 \/ e.fk_ = 5 \/ e.fk_ = 6 \/ e.fk_ = 7 := by omega
      unfold appE
      rw [if_neg h8, if_neg h9]
      obtain ⟨d2, d4, d6⟩ := eCode_index hc hm hlt
      obtain ⟨n1, n3, n5⟩ := eCode_ins hc hm hlt
      obtain ⟨b1, b2, b3⟩ := okLib_cell hv hlt
      have hq1 : q <= 1000 -> std.add .i64 (q : Int) 1 = ((q + 1 : Nat) : Int) := fun hh => inc_nat (by omega)
      have hin : std.inR (m : Int) a.fC.length := ⟨by omega, by omega⟩
      clear hcell h8 h9 hk hc
      obtain ⟨kind, cell, index, name, shape, label, inst⟩ := e
      simp only at hk7 hm hq d2 d4 d6 n1 n3 n5 ⊢
      subst hm hq
      obtain ⟨c, hcd⟩ : ∃ c, c = gd a.fC m := ⟨_, rfl⟩
      rw [<- hcd] at d2 d4 d6 n1 n3 n5 b1 b2 b3
      have hgd : gd a.fC (Int.toNat (m : Int)) = c := by rw [Int.toNat_natCast, hcd]
      have hset : ∀ x : TC, (a.fC.set m x).length = a.fC.length := fun x => List.length_set
      rcases hk7 with rfl | rfl | rfl | rfl | rfl | rfl | rfl
      · obtain ⟨j1, j2⟩ := n1 rfl
        simp only [edC, hgd, Int.toNat_natCast, Int.reduceEq, if_true, if_false, eq_self]
        have ei : Fq22 c.fS (q : Int) [shape] = some (insA c.fS q shape) := by
          unfold Fq22
          rw [if_pos ⟨by omega, by omega, by simp, by simp; omega⟩, Int.toNat_natCast]
          rfl
        simp only [e1_1, e1_2, e1_3, e1_4, e1_5, e1_6, e1_7, e1_8, e1_9, ei, br_f, br_t, obs, lq, s_ofN, s_toNn, s_nadd, s_nsub, Nat.zero_add, eL_, List.nil_append, show std.toN 0 = 0 from rfl, Nat.sub_zero, List.drop_zero, List.length_append, List.length_take, List.length_drop, List.length_cons, List.length_nil, List.length_map, <- hcd, hset]
        repeat (rw [ro_]; rotate_left; focus (first | trivial | exact ⟨by omega, by omega⟩ | exact room_of (by omega) (by omega) | omega))
      · obtain ⟨q2, j1, j2⟩ := d2 rfl
        obtain rfl : q = q2 := by omega
        simp only [edC, hgd, Int.toNat_natCast, Int.reduceEq, if_true, if_false, eq_self]
        have ei : Fq112 c.fS (q : Int) = some (delA c.fS q) := by
          unfold Fq112 Fq80
          rw [hq1 (by omega), if_pos ⟨by omega, by omega, by omega⟩, Int.toNat_natCast, Int.toNat_natCast]
          rfl
        simp only [e2_1, e2_2, e2_3, e2_4, e2_5, e2_6, e2_7, e2_8, e2_9, hq1 (show q <= 1000 by omega), ei, br_f, br_t, obs, lq, s_ofN, s_toNn, s_nadd, s_nsub, Nat.zero_add, eL_, List.nil_append, show std.toN 0 = 0 from rfl, Nat.sub_zero, List.drop_zero, List.length_append, List.length_take, List.length_drop, List.length_cons, List.length_nil, List.length_map, <- hcd, hset]
        repeat (rw [ro_]; rotate_left; focus (first | trivial | exact ⟨by omega, by omega⟩ | exact room_of (by omega) (by omega) | omega))
      · obtain ⟨j1, j2⟩ := n3 rfl
        simp only [edC, hgd, Int.toNat_natCast, Int.reduceEq, if_true, if_false, eq_self]
        have ei : Fq23 c.fL (q : Int) [label] = some (insA c.fL q label) := by
          unfold Fq23
          rw [if_pos ⟨by omega, by omega, by simp, by simp; omega⟩, Int.toNat_natCast]
          rfl
        simp only [e3_1, e3_2, e3_3, e3_4, e3_5, e3_6, e3_7, e3_8, e3_9, ei, br_f, br_t, obs, lq, s_ofN, s_toNn, s_nadd, s_nsub, Nat.zero_add, eL_, List.nil_append, show std.toN 0 = 0 from rfl, Nat.sub_zero, List.drop_zero, List.length_append, List.length_take, List.length_drop, List.length_cons, List.length_nil, List.length_map, <- hcd, hset]
        repeat (rw [ro_]; rotate_left; focus (first | trivial | exact ⟨by omega, by omega⟩ | exact room_of (by omega) (by omega) | omega))
      · obtain ⟨q2, j1, j2⟩ := d4 rfl
        obtain rfl : q = q2 := by omega
        simp only [edC, hgd, Int.toNat_natCast, Int.reduceEq, if_true, if_false, eq_self]
        have ei : Fq92 c.fL (q : Int) = some (delA c.fL q) := by
          unfold Fq92 Fq84
          rw [hq1 (by omega), if_pos ⟨by omega, by omega, by omega⟩, Int.toNat_natCast, Int.toNat_natCast]
          rfl
        simp only [e4_1, e4_2, e4_3, e4_4, e4_5, e4_6, e4_7, e4_8, e4_9, hq1 (show q <= 1000 by omega), ei, br_f, br_t, obs, lq, s_ofN, s_toNn, s_nadd, s_nsub, Nat.zero_add, eL_, List.nil_append, show std.toN 0 = 0 from rfl, Nat.sub_zero, List.drop_zero, List.length_append, List.length_take, List.length_drop, List.length_cons, List.length_nil, List.length_map, <- hcd, hset]
        repeat (rw [ro_]; rotate_left; focus (first | trivial | exact ⟨by omega, by omega⟩ | exact room_of (by omega) (by omega) | omega))
      · obtain ⟨⟨j1, j2⟩, _⟩ := n5 rfl
        simp only [edC, hgd, Int.toNat_natCast, Int.reduceEq, if_true, if_false, eq_self]
        have ei : Fq24 c.fI (q : Int) [inst] = some (insA c.fI q inst) := by
          unfold Fq24
          rw [if_pos ⟨by omega, by omega, by simp, by simp; omega⟩, Int.toNat_natCast]
          rfl
        simp only [e5_1, e5_2, e5_3, e5_4, e5_5, e5_6, e5_7, e5_8, e5_9, ei, br_f, br_t, obs, lq, s_ofN, s_toNn, s_nadd, s_nsub, Nat.zero_add, eL_, List.nil_append, show std.toN 0 = 0 from rfl, Nat.sub_zero, List.drop_zero, List.length_append, List.length_take, List.length_drop, List.length_cons, List.length_nil, List.length_map, <- hcd, hset]
        repeat (rw [ro_]; rotate_left; focus (first | trivial | exact ⟨by omega, by omega⟩ | exact room_of (by omega) (by omega) | omega))
      · obtain ⟨q2, j1, j2⟩ := d6 rfl
        obtain rfl : q = q2 := by omega
        simp only [edC, hgd, Int.toNat_natCast, Int.reduceEq, if_true, if_false, eq_self]
        have ei : Fq99 c.fI (q : Int) = some (delA c.fI q) := by
          unfold Fq99 Fq82
          rw [hq1 (by omega), if_pos ⟨by omega, by omega, by omega⟩, Int.toNat_natCast, Int.toNat_natCast]
          rfl
        simp only [e6_1, e6_2, e6_3, e6_4, e6_5, e6_6, e6_7, e6_8, e6_9, hq1 (show q <= 1000 by omega), ei, br_f, br_t, obs, lq, s_ofN, s_toNn, s_nadd, s_nsub, Nat.zero_add, eL_, List.nil_append, show std.toN 0 = 0 from rfl, Nat.sub_zero, List.drop_zero, List.length_append, List.length_take, List.length_drop, List.length_cons, List.length_nil, List.length_map, <- hcd, hset]
        repeat (rw [ro_]; rotate_left; focus (first | trivial | exact ⟨by omega, by omega⟩ | exact room_of (by omega) (by omega) | omega))
      · simp only [edC, hgd, Int.toNat_natCast, Int.reduceEq, if_true, if_false, eq_self]
        simp only [e7_1, e7_2, e7_3, e7_4, e7_5, e7_6, e7_7, e7_8, e7_9, br_f, br_t, obs, lq, s_ofN, s_toNn, s_nadd, s_nsub, Nat.zero_add, eL_, List.nil_append, show std.toN 0 = 0 from rfl, Nat.sub_zero, List.drop_zero, List.length_append, List.length_take, List.length_drop, List.length_cons, List.length_nil, List.length_map, <- hcd, hset]
        repeat (rw [ro_]; rotate_left; focus (first | trivial | exact ⟨by omega, by omega⟩ | exact room_of (by omega) (by omega) | omega))
/- ApplyEdit: both sides -/
theorem wBi (x a b : Int) : wB x a b = true ↔ (a <= x /\ x <= b) := by
  unfold wB
  rw [Bool.and_eq_true]
  show (decide (a <= x) = true /\ decide (x <= b) = true) ↔ _
  rw [decide_eq_true_eq, decide_eq_true_eq]
theorem insA_len {α : Type} (l : List α) (i : Nat) (x : α) : (insA l i x).length = l.length + 1 := by
  unfold insA
  simp only [List.length_append, List.length_take, List.length_drop, List.length_cons, List.length_nil]
  omega
theorem delA_len {α : Type} (l : List α) (i : Nat) : (delA l i).length <= l.length := by
  unfold delA
  simp only [List.length_append, List.length_take, List.length_drop]
  omega
theorem insA_mem {α : Type} {l : List α} {i : Nat} {x y : α} (h : y ∈ insA l i x) : y ∈ l \/ y = x := by
  unfold insA at h
  simp only [List.mem_append, List.mem_singleton] at h
  rcases h with (h | h) | h
  · exact .inl (List.mem_of_mem_take h)
  · exact .inr h
  · exact .inl (List.mem_of_mem_drop h)
theorem delA_mem {α : Type} {l : List α} {i : Nat} {y : α} (h : y ∈ delA l i) : y ∈ l := by
  unfold delA at h
  rw [List.mem_append] at h
  rcases h with h | h
  · exact List.mem_of_mem_take h
  · exact List.mem_of_mem_drop h
theorem small_shC {c : TC} (h : SmallC c) (f b : Int) : SmallC (shC f b c) :=
  ⟨h.name, h.shapes, h.labels, by show (c.fI.map _).length <= _; rw [List.length_map]; exact h.insts, h.lnames⟩
theorem small_edC {c : TC} {e : TE} (h : SmallC c) (g : SmallE e) (h1 : c.fS.length <= 1000) (h2 : c.fL.length <= 1000) (h3 : c.fI.length <= 1000) : SmallC (edC e c) := by
  have i1 := insA_len c.fS e.fx.toNat e.fs_
  have i2 := insA_len c.fL e.fx.toNat e.fl_
  have i3 := insA_len c.fI e.fx.toNat e.fi_
  have d1 := delA_len c.fS e.fx.toNat
  have d2 := delA_len c.fL e.fx.toNat
  have d3 := delA_len c.fI e.fx.toNat
  unfold edC
  split
  · exact ⟨h.name, by simp only; omega, h.labels, h.insts, h.lnames⟩
  split
  · exact ⟨h.name, by simp only; omega, h.labels, h.insts, h.lnames⟩
  split
  · refine ⟨h.name, h.shapes, by simp only; omega, h.insts, fun l hl => ?_⟩
    rcases insA_mem hl with hl | rfl
    · exact h.lnames l hl
    · exact g.lname
  split
  · exact ⟨h.name, h.shapes, by simp only; omega, h.insts, fun l hl => h.lnames l (delA_mem hl)⟩
  split
  · exact ⟨h.name, h.shapes, h.labels, by simp only; omega, h.lnames⟩
  split
  · exact ⟨h.name, h.shapes, h.labels, by simp only; omega, h.lnames⟩
  split
  · exact ⟨g.name, h.shapes, h.labels, h.insts, h.lnames⟩
  · exact h
theorem small_appE (a : TL) (e : TE) (h : SmallL a) (g : SmallE e) (hc : eCode a e = 0) : SmallL (appE a e) := by
  have hcl := h.cells
  obtain ⟨hv, he, hcell⟩ := eCode_zero hc
  have hl := okLib_len hv
  unfold appE
  split
  · refine ⟨by rw [insA_len, List.length_map]; omega, fun c hm => ?_⟩
    rcases insA_mem hm with hm | rfl
    · obtain ⟨c0, h0, rfl⟩ := List.mem_map.1 hm
      exact small_shC (h.cell _ h0) _ _
    · exact ⟨g.name, by simp, by simp, by simp, by simp⟩
  split
  · refine ⟨by rw [List.length_map]; have := delA_len a.fC e.fc.toNat; omega, fun c hm => ?_⟩
    obtain ⟨c0, h0, rfl⟩ := List.mem_map.1 hm
    exact small_shC (h.cell _ (delA_mem h0)) _ _
  · rename_i h8 h9
    obtain ⟨m, hm, hlt⟩ := hcell h8
    obtain ⟨b1, b2, b3⟩ := okLib_cell hv hlt
    have ht : e.fc.toNat = m := by omega
    rw [ht]
    refine ⟨by rw [List.length_set]; exact hcl, fun c hm => ?_⟩
    rcases List.mem_or_eq_of_mem_set hm with hm | rfl
    · exact h.cell c hm
    · exact small_edC (h.cell _ (gd_mem hlt)) g (by omega) (by omega) (by omega)
def apR (a : TL) (e : TE) : TL × Int := if eCode a e = 0 then (appE a e, 0) else (⟨[]⟩, eCode a e)
end
end Go.Proofs.YtfoefnkbiofejaaGreat.AM
