/-
  What the functions that the law reaches compute, and that they do. No condition.
-/
import Derived.Test.YtfoefnkbiofejaaGreatAqSZ
namespace Go.Proofs.YtfoefnkbiofejaaGreat.AM
noncomputable section
open Go Go.Proofs Go.RowKit
set_option linter.unusedVariables false
set_option linter.unusedSimpArgs false
set_option maxRecDepth 100000

/- an edit and its inverse -/
theorem del_ins {α : Type} (l : List α) (q : Nat) (x : α) (h : q <= l.length) : delA (insA l q x) q = l := by
  have hl : (List.take q l).length = q := by simp; omega
  unfold delA insA
  rw [List.append_assoc, List.take_left' hl]
  have e : List.drop (q + 1) (List.take q l ++ ([x] ++ List.drop q l)) = List.drop q l := by
    rw [<- List.drop_drop, List.drop_left' hl]
    rfl
  rw [e, List.take_append_drop]
theorem ins_del {α : Type} [Inhabited α] (l : List α) (q : Nat) (h : q < l.length) : insA (delA l q) q (gd l q) = l := by
  have hl : (List.take q l).length = q := by simp; omega
  unfold delA insA
  rw [List.take_left' hl, List.drop_left' hl, List.append_assoc, List.singleton_append, gd_lt h, <- List.drop_eq_getElem_cons h, List.take_append_drop]
theorem shI_back (m : Int) (i : TI) (hm : 0 <= m /\ m <= 1000) (hi : 0 <= i.fc /\ i.fc <= 1000) : shI m (-1) (shI m 1 i) = i := by
  unfold shI
  by_cases h : m <= i.fc
  · have e1 : std.add .i64 i.fc 1 = i.fc + 1 := add_id (by omega) (by omega)
    have e2 : std.add .i64 (i.fc + 1) (-1) = i.fc := by rw [add_id (by omega) (by omega)]; omega
    rw [le_true h]
    simp only [cond_true, e1]
    rw [le_true (by omega)]
    simp only [cond_true, e2]
  · rw [le_false h]
    simp only [cond_false]
    rw [le_false h]
    rfl
theorem shI_forth (m : Int) (i : TI) (hm : 0 <= m /\ m <= 1000) (hi : 0 <= i.fc /\ i.fc <= 1000) (hne : i.fc ≠ m) : shI m 1 (shI m (-1) i) = i := by
  unfold shI
  by_cases h : m <= i.fc
  · have e1 : std.add .i64 i.fc (-1) = i.fc - 1 := by rw [add_id (by omega) (by omega)]; omega
    have e2 : std.add .i64 (i.fc - 1) 1 = i.fc := by rw [add_id (by omega) (by omega)]; omega
    rw [le_true h]
    simp only [cond_true, e1]
    rw [le_true (by omega)]
    simp only [cond_true, e2]
  · rw [le_false h]
    simp only [cond_false]
    rw [le_false h]
    rfl
theorem shC_back (m : Int) (c : TC) (hm : 0 <= m /\ m <= 1000) (h : ∀ i ∈ c.fI, 0 <= i.fc /\ i.fc <= 1000) : shC m (-1) (shC m 1 c) = c := by
  unfold shC
  simp only [List.map_map]
  rw [show List.map (shI m (-1) ∘ shI m 1) c.fI = c.fI from (List.map_congr_left (fun i hi => shI_back m i hm (h i hi))).trans (List.map_id' _)]
theorem shC_forth (m : Int) (c : TC) (hm : 0 <= m /\ m <= 1000) (h : ∀ i ∈ c.fI, 0 <= i.fc /\ i.fc <= 1000) (hne : ∀ i ∈ c.fI, i.fc ≠ m) : shC m 1 (shC m (-1) c) = c := by
  unfold shC
  simp only [List.map_map]
  rw [show List.map (shI m 1 ∘ shI m (-1)) c.fI = c.fI from (List.map_congr_left (fun i hi => shI_forth m i hm (h i hi) (hne i hi))).trans (List.map_id' _)]
/-- what a valid library says of its cells -/
theorem okLib_at {a : TL} (hv : okLib a = true) {k : Nat} (hk : k < a.fC.length) : okCell (gd a.fC k) k = true /\ fresh a.fC k = true := by
  unfold okLib at hv
  simp only [Bool.and_eq_true, List.all_eq_true, List.mem_range] at hv
  exact hv.2.2 k hk
theorem okLib_of {a : TL} (h1 : 1 <= a.fC.length) (h2 : a.fC.length <= 8) (h : ∀ k, k < a.fC.length -> okCell (gd a.fC k) k = true /\ fresh a.fC k = true) : okLib a = true := by
  unfold okLib
  simp only [Bool.and_eq_true, List.all_eq_true, List.mem_range, decide_eq_true_eq]
  exact ⟨h1, h2, h⟩
structure CellOk (c : TC) (k : Int) : Prop where
  name : isName c.fN = true
  sn : c.fS.length <= 24
  ln : c.fL.length <= 8
  inn : c.fI.length <= 8
  s : ∀ x ∈ c.fS, okShape x = true
  l : ∀ x ∈ c.fL, okLabel x = true
  i : ∀ x ∈ c.fI, okInst x k = true
theorem okCell_iff {c : TC} {k : Int} : okCell c k = true ↔ CellOk c k := by
  unfold okCell
  simp only [Bool.and_eq_true, decide_eq_true_eq, List.all_eq_true]
  exact ⟨fun ⟨a1, a2, a3, a4, a5, a6, a7⟩ => ⟨a1, a2, a3, a4, a5, a6, a7⟩, fun h => ⟨h.name, h.sn, h.ln, h.inn, h.s, h.l, h.i⟩⟩
theorem okInst_cell {i : TI} {k : Int} (h : okInst i k = true) (hk : 0 <= k /\ k <= 1000) : 0 <= i.fc /\ i.fc < k := by
  unfold okInst at h
  rw [Bool.and_eq_true] at h
  have := (wBi _ _ _).1 h.1
  rw [sub_id (by omega) (by omega)] at this
  omega
/-- the cell's number of an instance, another bound -/
theorem okInst_mv {i j : TI} {k k2 : Int} (h : okInst i k = true) (e : j = ⟨j.fc, i.fp, i.fK, i.fR, i.fu, i.fv⟩) (hk : 0 <= k2 /\ k2 <= 1000) (hj : 0 <= j.fc /\ j.fc < k2) : okInst j k2 = true := by
  unfold okInst at h ⊢
  rw [Bool.and_eq_true] at h ⊢
  refine ⟨(wBi _ _ _).2 (by rw [sub_id (by omega) (by omega)]; omega), ?_⟩
  rw [e]
  exact h.2
/-- both ways of a rename, an insertion and a removal within a cell -/
theorem appE_in {a : TL} {e : TE} (h8 : e.fk_ ≠ 8) (h9 : e.fk_ ≠ 9) {m : Nat} (hm : e.fc = (m : Int)) : appE a e = ⟨a.fC.set m (edC e (gd a.fC m))⟩ := by
  unfold appE
  rw [if_neg h8, if_neg h9, show e.fc.toNat = m by omega]
theorem set_gd_self {α : Type} [Inhabited α] {l : List α} {m : Nat} (h : m < l.length) : l.set m (gd l m) = l := by
  rw [gd_lt h]; simp
/-- a library stays valid where one cell is replaced by a valid one of a name that no other has -/
theorem okLib_set {a : TL} (hv : okLib a = true) {m : Nat} (hm : m < a.fC.length) {c : TC} (hc : CellOk c m) (hn : c.fN = (gd a.fC m).fN \/ othN a.fC (m : Int) c.fN = false) : okLib ⟨a.fC.set m c⟩ = true := by
  have hl := okLib_len hv
  have hnm : ∀ j, j < a.fC.length -> j ≠ m -> std.seq (gd a.fC j).fN c.fN = false := by
    intro j hj hjm
    rcases hn with hn | hn
    · rw [hn]
      cases hs : std.seq (gd a.fC j).fN (gd a.fC m).fN with
      | false => rfl
      | true => exact absurd (name_once hv hj hm hs (seq_self _)) hjm
    · unfold othN at hn
      rw [List.any_eq_false] at hn
      have := hn j (List.mem_range.2 hj)
      rw [eq_false' (by omega)] at this
      simpa [s_not] using this
  refine okLib_of (by rw [List.length_set]; exact hl.1) (by rw [List.length_set]; exact hl.2) (fun k hk => ?_)
  rw [List.length_set] at hk
  obtain ⟨g1, g2⟩ := okLib_at hv hk
  refine ⟨?_, ?_⟩
  · by_cases hkm : m = k
    · subst hkm; rw [gd_set_eq hm]; exact okCell_iff.2 hc
    · rw [gd_set_ne (fun h => hkm h.symm)]; exact g1
  · unfold fresh at g2 ⊢
    rw [List.all_eq_true] at g2 ⊢
    intro j hj
    have hjk := List.mem_range.1 hj
    have := g2 j hj
    by_cases h1 : m = k
    · subst h1
      rw [gd_set_eq hm, gd_set_ne (show j ≠ m by omega), hnm j (by omega) (by omega)]; rfl
    · rw [gd_set_ne (fun h => h1 h.symm)]
      by_cases h2 : m = j
      · subst h2
        rw [gd_set_eq hm]
        cases hs : std.seq c.fN (gd a.fC k).fN with
        | false => rfl
        | true => have := hnm k hk (fun h => h1 h.symm); rw [seq_comm hs] at this; cases this
      · rw [gd_set_ne (fun h => h2 h.symm)]; exact this
/- edits within a cell: what is valid stays valid, the inverse is possible and restores -/
theorem zS_z : zS zSh = true := by simp [zS, zSh, s_eq]
theorem zL_z : zL zLa = true := by simp [zL, zLa, s_eq, seq_self]
theorem zI_z : zI zIn = true := by simp [zI, zIn, s_eq]
theorem okEdit_at {e : TE} (h : okEdit e = true) : ((0 <= e.fc /\ e.fc <= 8) /\ (0 <= e.fx /\ e.fx <= 24)) /\ (e.fk_ = 1 -> okShape e.fs_ = true) /\ (e.fk_ = 3 -> okLabel e.fl_ = true) /\ (e.fk_ = 5 -> okInst e.fi_ 8 = true) /\ (e.fk_ = 7 \/ e.fk_ = 8 -> isName e.fN = true /\ e.fx = 0) := by
  unfold okEdit at h
  rw [Bool.and_eq_true, Bool.and_eq_true, wBi, wBi] at h
  refine ⟨h.1, fun hk => ?_, fun hk => ?_, fun hk => ?_, fun hk => ?_⟩
  · have := h.2; simp only [hk, if_true, Bool.and_eq_true] at this; exact this.1.1.2
  · have := h.2; simp [hk] at this; exact this.1.2
  · have := h.2; simp [hk] at this; exact this.2
  · have := h.2
    rcases hk with hk | hk <;> simp [hk] at this <;> exact ⟨this.1.1.1.2, by have h0 := this.1.1.1.1; rw [s_eq, decide_eq_true_eq] at h0; exact h0⟩
theorem in_1 (a : TL) (m q : Nat) (name : ByteArray) (shape : TS) (label : TB) (inst : TI) (hc : eCode a ⟨1, m, q, name, shape, label, inst⟩ = 0) :
    okLib (appE a ⟨1, m, q, name, shape, label, inst⟩) = true /\ eCode (appE a ⟨1, m, q, name, shape, label, inst⟩) (invE a ⟨1, m, q, name, shape, label, inst⟩) = 0 /\ appE (appE a ⟨1, m, q, name, shape, label, inst⟩) (invE a ⟨1, m, q, name, shape, label, inst⟩) = a := by
  obtain ⟨hv, he, hcell⟩ := eCode_zero hc
  obtain ⟨m2, hm2, hlt⟩ := hcell (show (1 : Int) ≠ 8 by decide)
  obtain rfl : m = m2 := by simp only at hm2; omega
  clear hm2 hcell
  obtain ⟨⟨w1, w2⟩, o1, o3, o5, o7⟩ := okEdit_at he
  have hl := okLib_len hv
  obtain ⟨g1, g2⟩ := okLib_at hv hlt
  have co := okCell_iff.1 g1
  obtain ⟨n1, n3, n5⟩ := eCode_ins hc rfl hlt
  have nx := n1 rfl
  obtain ⟨c, hcd⟩ : ∃ c, c = gd a.fC m := ⟨_, rfl⟩
  rw [<- hcd] at co nx
  have ea : appE a ⟨1, m, q, name, shape, label, inst⟩ = ⟨a.fC.set m ⟨c.fN, insA c.fS q shape, c.fL, c.fI⟩⟩ := by
    rw [appE_in (show (1 : Int) ≠ 8 by decide) (show (1 : Int) ≠ 9 by decide) (m := m) rfl, <- hcd]
    rfl
  have ei : invE a ⟨1, m, q, name, shape, label, inst⟩ = ⟨2, m, q, ByteArray.mk #[], zSh, zLa, zIn⟩ := rfl
  have cn : CellOk ⟨c.fN, insA c.fS q shape, c.fL, c.fI⟩ (m : Int) := ⟨co.name, (by show (insA c.fS q shape).length <= 24; rw [insA_len]; have := co.sn; have := nx.2; omega), co.ln, co.inn, (fun y hy => by rcases insA_mem hy with hy | rfl; exact co.s y hy; exact o1 rfl), co.l, co.i⟩
  have hv2 : okLib ⟨a.fC.set m ⟨c.fN, insA c.fS q shape, c.fL, c.fI⟩⟩ = true := okLib_set hv hlt cn (.inl (by rw [hcd]))
  have hg : gd (a.fC.set m ⟨c.fN, insA c.fS q shape, c.fL, c.fI⟩) m = ⟨c.fN, insA c.fS q shape, c.fL, c.fI⟩ := gd_set_eq hlt
  rw [ea, ei]
  refine ⟨hv2, ?_, ?_⟩
  · have he2 : okEdit ⟨2, m, q, ByteArray.mk #[], zSh, zLa, zIn⟩ = true := by
      unfold okEdit
      rw [Bool.and_eq_true, Bool.and_eq_true, wBi, wBi]
      refine ⟨⟨w1, w2⟩, ?_⟩
      simp only [Int.reduceEq, if_true, if_false, or_self, or_false, false_or, true_or, or_true, zS_z, zL_z, zI_z, seq_self, Bool.and_self]
    unfold eCode
    rw [if_neg (by rw [hv2, he2]; decide), if_neg (show ¬ (2 : Int) = 8 by decide), if_neg (by show ¬ ((a.fC.set m _).length : Int) <= (m : Int); rw [List.length_set]; omega), if_neg (show ¬ (2 : Int) = 1 by decide), if_pos (show (2 : Int) = 2 from rfl)]
    rw [Int.toNat_natCast, hg]
    have hn := insA_len c.fS q shape
    unfold delC
    rw [if_neg (by show ¬ (((insA c.fS q shape).length : Nat) : Int) <= (q : Int); rw [hn]; have := nx.1; simp only at this; omega)]
  · rw [appE_in (show (2 : Int) ≠ 8 by decide) (show (2 : Int) ≠ 9 by decide) (m := m) rfl, hg]
    show (⟨(a.fC.set m _).set m ⟨c.fN, delA (insA c.fS q shape) q, c.fL, c.fI⟩⟩ : TL) = a
    rw [del_ins _ _ _ (by have := nx.1; simp only at this; omega), List.set_set]
    show (⟨a.fC.set m c⟩ : TL) = a
    rw [hcd, set_gd_self hlt]
theorem in_2 (a : TL) (m q : Nat) (name : ByteArray) (shape : TS) (label : TB) (inst : TI) (hc : eCode a ⟨2, m, q, name, shape, label, inst⟩ = 0) :
    okLib (appE a ⟨2, m, q, name, shape, label, inst⟩) = true /\ eCode (appE a ⟨2, m, q, name, shape, label, inst⟩) (invE a ⟨2, m, q, name, shape, label, inst⟩) = 0 /\ appE (appE a ⟨2, m, q, name, shape, label, inst⟩) (invE a ⟨2, m, q, name, shape, label, inst⟩) = a := by
  obtain ⟨hv, he, hcell⟩ := eCode_zero hc
  obtain ⟨m2, hm2, hlt⟩ := hcell (show (2 : Int) ≠ 8 by decide)
  obtain rfl : m = m2 := by simp only at hm2; omega
  clear hm2 hcell
  obtain ⟨⟨w1, w2⟩, o1, o3, o5, o7⟩ := okEdit_at he
  have hl := okLib_len hv
  obtain ⟨g1, g2⟩ := okLib_at hv hlt
  have co := okCell_iff.1 g1
  obtain ⟨d2, d4, d6⟩ := eCode_index hc rfl hlt
  obtain ⟨q2, e1, hq⟩ := d2 rfl
  obtain rfl : q = q2 := by simp only at e1; omega
  obtain ⟨c, hcd⟩ : ∃ c, c = gd a.fC m := ⟨_, rfl⟩
  rw [<- hcd] at co hq
  have ea : appE a ⟨2, m, q, name, shape, label, inst⟩ = ⟨a.fC.set m ⟨c.fN, delA c.fS q, c.fL, c.fI⟩⟩ := by
    rw [appE_in (show (2 : Int) ≠ 8 by decide) (show (2 : Int) ≠ 9 by decide) (m := m) rfl, <- hcd]
    rfl
  have ei : invE a ⟨2, m, q, name, shape, label, inst⟩ = ⟨1, m, q, ByteArray.mk #[], (gd c.fS q), zLa, zIn⟩ := by
    unfold invE
    simp only [Int.reduceEq, if_true, if_false, Int.toNat_natCast, <- hcd]
  have cn : CellOk ⟨c.fN, delA c.fS q, c.fL, c.fI⟩ (m : Int) := ⟨co.name, (by show (delA c.fS q).length <= 24; have := delA_len c.fS q; have := co.sn; omega), co.ln, co.inn, (fun y hy => co.s y (delA_mem hy)), co.l, co.i⟩
  have hv2 : okLib ⟨a.fC.set m ⟨c.fN, delA c.fS q, c.fL, c.fI⟩⟩ = true := okLib_set hv hlt cn (.inl (by rw [hcd]))
  have hg : gd (a.fC.set m ⟨c.fN, delA c.fS q, c.fL, c.fI⟩) m = ⟨c.fN, delA c.fS q, c.fL, c.fI⟩ := gd_set_eq hlt
  rw [ea, ei]
  refine ⟨hv2, ?_, ?_⟩
  · have he2 : okEdit ⟨1, m, q, ByteArray.mk #[], (gd c.fS q), zLa, zIn⟩ = true := by
      unfold okEdit
      rw [Bool.and_eq_true, Bool.and_eq_true, wBi, wBi]
      refine ⟨⟨w1, w2⟩, ?_⟩
      have hx : okShape (gd c.fS q) = true := co.s _ (gd_mem hq)
      simp only [Int.reduceEq, if_true, if_false, or_self, or_false, false_or, true_or, or_true, zS_z, zL_z, zI_z, seq_self, Bool.and_self, hx]
    unfold eCode
    rw [if_neg (by rw [hv2, he2]; decide), if_neg (show ¬ (1 : Int) = 8 by decide), if_neg (by show ¬ ((a.fC.set m _).length : Int) <= (m : Int); rw [List.length_set]; omega), if_pos (show (1 : Int) = 1 from rfl)]
    rw [Int.toNat_natCast, hg]
    have hn : (delA c.fS q).length + 1 = c.fS.length := by unfold delA; simp only [List.length_append, List.length_take, List.length_drop]; omega
    have hmx := co.sn
    have hi : insC (q : Int) (delA c.fS q).length 24 = 0 := by
      unfold insC
      rw [if_neg (by omega), if_neg (by omega)]
    exact hi
  · rw [appE_in (show (1 : Int) ≠ 8 by decide) (show (1 : Int) ≠ 9 by decide) (m := m) rfl, hg]
    show (⟨(a.fC.set m _).set m ⟨c.fN, insA (delA c.fS q) q (gd c.fS q), c.fL, c.fI⟩⟩ : TL) = a
    rw [ins_del _ _ hq, List.set_set]
    show (⟨a.fC.set m c⟩ : TL) = a
    rw [hcd, set_gd_self hlt]
theorem in_3 (a : TL) (m q : Nat) (name : ByteArray) (shape : TS) (label : TB) (inst : TI) (hc : eCode a ⟨3, m, q, name, shape, label, inst⟩ = 0) :
    okLib (appE a ⟨3, m, q, name, shape, label, inst⟩) = true /\ eCode (appE a ⟨3, m, q, name, shape, label, inst⟩) (invE a ⟨3, m, q, name, shape, label, inst⟩) = 0 /\ appE (appE a ⟨3, m, q, name, shape, label, inst⟩) (invE a ⟨3, m, q, name, shape, label, inst⟩) = a := by
  obtain ⟨hv, he, hcell⟩ := eCode_zero hc
  obtain ⟨m2, hm2, hlt⟩ := hcell (show (3 : Int) ≠ 8 by decide)
  obtain rfl : m = m2 := by simp only at hm2; omega
  clear hm2 hcell
  obtain ⟨⟨w1, w2⟩, o1, o3, o5, o7⟩ := okEdit_at he
  have hl := okLib_len hv
  obtain ⟨g1, g2⟩ := okLib_at hv hlt
  have co := okCell_iff.1 g1
  obtain ⟨n1, n3, n5⟩ := eCode_ins hc rfl hlt
  have nx := n3 rfl
  obtain ⟨c, hcd⟩ : ∃ c, c = gd a.fC m := ⟨_, rfl⟩
  rw [<- hcd] at co nx
  have ea : appE a ⟨3, m, q, name, shape, label, inst⟩ = ⟨a.fC.set m ⟨c.fN, c.fS, insA c.fL q label, c.fI⟩⟩ := by
    rw [appE_in (show (3 : Int) ≠ 8 by decide) (show (3 : Int) ≠ 9 by decide) (m := m) rfl, <- hcd]
    rfl
  have ei : invE a ⟨3, m, q, name, shape, label, inst⟩ = ⟨4, m, q, ByteArray.mk #[], zSh, zLa, zIn⟩ := rfl
  have cn : CellOk ⟨c.fN, c.fS, insA c.fL q label, c.fI⟩ (m : Int) := ⟨co.name, co.sn, (by show (insA c.fL q label).length <= 8; rw [insA_len]; have := co.ln; have := nx.2; omega), co.inn, co.s, (fun y hy => by rcases insA_mem hy with hy | rfl; exact co.l y hy; exact o3 rfl), co.i⟩
  have hv2 : okLib ⟨a.fC.set m ⟨c.fN, c.fS, insA c.fL q label, c.fI⟩⟩ = true := okLib_set hv hlt cn (.inl (by rw [hcd]))
  have hg : gd (a.fC.set m ⟨c.fN, c.fS, insA c.fL q label, c.fI⟩) m = ⟨c.fN, c.fS, insA c.fL q label, c.fI⟩ := gd_set_eq hlt
  rw [ea, ei]
  refine ⟨hv2, ?_, ?_⟩
  · have he2 : okEdit ⟨4, m, q, ByteArray.mk #[], zSh, zLa, zIn⟩ = true := by
      unfold okEdit
      rw [Bool.and_eq_true, Bool.and_eq_true, wBi, wBi]
      refine ⟨⟨w1, w2⟩, ?_⟩
      simp only [Int.reduceEq, if_true, if_false, or_self, or_false, false_or, true_or, or_true, zS_z, zL_z, zI_z, seq_self, Bool.and_self]
    unfold eCode
    rw [if_neg (by rw [hv2, he2]; decide), if_neg (show ¬ (4 : Int) = 8 by decide), if_neg (by show ¬ ((a.fC.set m _).length : Int) <= (m : Int); rw [List.length_set]; omega), if_neg (show ¬ (4 : Int) = 1 by decide), if_neg (show ¬ (4 : Int) = 2 by decide), if_neg (show ¬ (4 : Int) = 3 by decide), if_pos (show (4 : Int) = 4 from rfl)]
    rw [Int.toNat_natCast, hg]
    have hn := insA_len c.fL q label
    unfold delC
    rw [if_neg (by show ¬ (((insA c.fL q label).length : Nat) : Int) <= (q : Int); rw [hn]; have := nx.1; simp only at this; omega)]
  · rw [appE_in (show (4 : Int) ≠ 8 by decide) (show (4 : Int) ≠ 9 by decide) (m := m) rfl, hg]
    show (⟨(a.fC.set m _).set m ⟨c.fN, c.fS, delA (insA c.fL q label) q, c.fI⟩⟩ : TL) = a
    rw [del_ins _ _ _ (by have := nx.1; simp only at this; omega), List.set_set]
    show (⟨a.fC.set m c⟩ : TL) = a
    rw [hcd, set_gd_self hlt]
theorem in_4 (a : TL) (m q : Nat) (name : ByteArray) (shape : TS) (label : TB) (inst : TI) (hc : eCode a ⟨4, m, q, name, shape, label, inst⟩ = 0) :
    okLib (appE a ⟨4, m, q, name, shape, label, inst⟩) = true /\ eCode (appE a ⟨4, m, q, name, shape, label, inst⟩) (invE a ⟨4, m, q, name, shape, label, inst⟩) = 0 /\ appE (appE a ⟨4, m, q, name, shape, label, inst⟩) (invE a ⟨4, m, q, name, shape, label, inst⟩) = a := by
  obtain ⟨hv, he, hcell⟩ := eCode_zero hc
  obtain ⟨m2, hm2, hlt⟩ := hcell (show (4 : Int) ≠ 8 by decide)
  obtain rfl : m = m2 := by simp only at hm2; omega
  clear hm2 hcell
  obtain ⟨⟨w1, w2⟩, o1, o3, o5, o7⟩ := okEdit_at he
  have hl := okLib_len hv
  obtain ⟨g1, g2⟩ := okLib_at hv hlt
  have co := okCell_iff.1 g1
  obtain ⟨d2, d4, d6⟩ := eCode_index hc rfl hlt
  obtain ⟨q2, e1, hq⟩ := d4 rfl
  obtain rfl : q = q2 := by simp only at e1; omega
  obtain ⟨c, hcd⟩ : ∃ c, c = gd a.fC m := ⟨_, rfl⟩
  rw [<- hcd] at co hq
  have ea : appE a ⟨4, m, q, name, shape, label, inst⟩ = ⟨a.fC.set m ⟨c.fN, c.fS, delA c.fL q, c.fI⟩⟩ := by
    rw [appE_in (show (4 : Int) ≠ 8 by decide) (show (4 : Int) ≠ 9 by decide) (m := m) rfl, <- hcd]
    rfl
  have ei : invE a ⟨4, m, q, name, shape, label, inst⟩ = ⟨3, m, q, ByteArray.mk #[], zSh, (gd c.fL q), zIn⟩ := by
    unfold invE
    simp only [Int.reduceEq, if_true, if_false, Int.toNat_natCast, <- hcd]
  have cn : CellOk ⟨c.fN, c.fS, delA c.fL q, c.fI⟩ (m : Int) := ⟨co.name, co.sn, (by show (delA c.fL q).length <= 8; have := delA_len c.fL q; have := co.ln; omega), co.inn, co.s, (fun y hy => co.l y (delA_mem hy)), co.i⟩
  have hv2 : okLib ⟨a.fC.set m ⟨c.fN, c.fS, delA c.fL q, c.fI⟩⟩ = true := okLib_set hv hlt cn (.inl (by rw [hcd]))
  have hg : gd (a.fC.set m ⟨c.fN, c.fS, delA c.fL q, c.fI⟩) m = ⟨c.fN, c.fS, delA c.fL q, c.fI⟩ := gd_set_eq hlt
  rw [ea, ei]
  refine ⟨hv2, ?_, ?_⟩
  · have he2 : okEdit ⟨3, m, q, ByteArray.mk #[], zSh, (gd c.fL q), zIn⟩ = true := by
      unfold okEdit
      rw [Bool.and_eq_true, Bool.and_eq_true, wBi, wBi]
      refine ⟨⟨w1, w2⟩, ?_⟩
      have hx : okLabel (gd c.fL q) = true := co.l _ (gd_mem hq)
      simp only [Int.reduceEq, if_true, if_false, or_self, or_false, false_or, true_or, or_true, zS_z, zL_z, zI_z, seq_self, Bool.and_self, hx]
    unfold eCode
    rw [if_neg (by rw [hv2, he2]; decide), if_neg (show ¬ (3 : Int) = 8 by decide), if_neg (by show ¬ ((a.fC.set m _).length : Int) <= (m : Int); rw [List.length_set]; omega), if_neg (show ¬ (3 : Int) = 1 by decide), if_neg (show ¬ (3 : Int) = 2 by decide), if_pos (show (3 : Int) = 3 from rfl)]
    rw [Int.toNat_natCast, hg]
    have hn : (delA c.fL q).length + 1 = c.fL.length := by unfold delA; simp only [List.length_append, List.length_take, List.length_drop]; omega
    have hmx := co.ln
    have hi : insC (q : Int) (delA c.fL q).length 8 = 0 := by
      unfold insC
      rw [if_neg (by omega), if_neg (by omega)]
    exact hi
  · rw [appE_in (show (3 : Int) ≠ 8 by decide) (show (3 : Int) ≠ 9 by decide) (m := m) rfl, hg]
    show (⟨(a.fC.set m _).set m ⟨c.fN, c.fS, insA (delA c.fL q) q (gd c.fL q), c.fI⟩⟩ : TL) = a
    rw [ins_del _ _ hq, List.set_set]
    show (⟨a.fC.set m c⟩ : TL) = a
    rw [hcd, set_gd_self hlt]
theorem in_5 (a : TL) (m q : Nat) (name : ByteArray) (shape : TS) (label : TB) (inst : TI) (hc : eCode a ⟨5, m, q, name, shape, label, inst⟩ = 0) :
    okLib (appE a ⟨5, m, q, name, shape, label, inst⟩) = true /\ eCode (appE a ⟨5, m, q, name, shape, label, inst⟩) (invE a ⟨5, m, q, name, shape, label, inst⟩) = 0 /\ appE (appE a ⟨5, m, q, name, shape, label, inst⟩) (invE a ⟨5, m, q, name, shape, label, inst⟩) = a := by
  obtain ⟨hv, he, hcell⟩ := eCode_zero hc
  obtain ⟨m2, hm2, hlt⟩ := hcell (show (5 : Int) ≠ 8 by decide)
  obtain rfl : m = m2 := by simp only at hm2; omega
  clear hm2 hcell
  obtain ⟨⟨w1, w2⟩, o1, o3, o5, o7⟩ := okEdit_at he
  have hl := okLib_len hv
  obtain ⟨g1, g2⟩ := okLib_at hv hlt
  have co := okCell_iff.1 g1
  obtain ⟨n1, n3, n5⟩ := eCode_ins hc rfl hlt
  have nx := n5 rfl
  obtain ⟨c, hcd⟩ : ∃ c, c = gd a.fC m := ⟨_, rfl⟩
  rw [<- hcd] at co nx
  have ea : appE a ⟨5, m, q, name, shape, label, inst⟩ = ⟨a.fC.set m ⟨c.fN, c.fS, c.fL, insA c.fI q inst⟩⟩ := by
    rw [appE_in (show (5 : Int) ≠ 8 by decide) (show (5 : Int) ≠ 9 by decide) (m := m) rfl, <- hcd]
    rfl
  have ei : invE a ⟨5, m, q, name, shape, label, inst⟩ = ⟨6, m, q, ByteArray.mk #[], zSh, zLa, zIn⟩ := rfl
  have cn : CellOk ⟨c.fN, c.fS, c.fL, insA c.fI q inst⟩ (m : Int) := ⟨co.name, co.sn, co.ln, (by show (insA c.fI q inst).length <= 8; rw [insA_len]; have := co.inn; have := nx.1.2; omega), co.s, co.l, (fun y hy => by rcases insA_mem hy with hy | rfl; exact co.i y hy; exact okInst_mv (o5 rfl) rfl (by omega) ⟨(okInst_cell (o5 rfl) (by omega)).1, by have := nx.2; simp only at this; omega⟩)⟩
  have hv2 : okLib ⟨a.fC.set m ⟨c.fN, c.fS, c.fL, insA c.fI q inst⟩⟩ = true := okLib_set hv hlt cn (.inl (by rw [hcd]))
  have hg : gd (a.fC.set m ⟨c.fN, c.fS, c.fL, insA c.fI q inst⟩) m = ⟨c.fN, c.fS, c.fL, insA c.fI q inst⟩ := gd_set_eq hlt
  rw [ea, ei]
  refine ⟨hv2, ?_, ?_⟩
  · have he2 : okEdit ⟨6, m, q, ByteArray.mk #[], zSh, zLa, zIn⟩ = true := by
      unfold okEdit
      rw [Bool.and_eq_true, Bool.and_eq_true, wBi, wBi]
      refine ⟨⟨w1, w2⟩, ?_⟩
      simp only [Int.reduceEq, if_true, if_false, or_self, or_false, false_or, true_or, or_true, zS_z, zL_z, zI_z, seq_self, Bool.and_self]
    unfold eCode
    rw [if_neg (by rw [hv2, he2]; decide), if_neg (show ¬ (6 : Int) = 8 by decide), if_neg (by show ¬ ((a.fC.set m _).length : Int) <= (m : Int); rw [List.length_set]; omega), if_neg (show ¬ (6 : Int) = 1 by decide), if_neg (show ¬ (6 : Int) = 2 by decide), if_neg (show ¬ (6 : Int) = 3 by decide), if_neg (show ¬ (6 : Int) = 4 by decide), if_neg (show ¬ (6 : Int) = 5 by decide), if_pos (show (6 : Int) = 6 from rfl)]
    rw [Int.toNat_natCast, hg]
    have hn := insA_len c.fI q inst
    unfold delC
    rw [if_neg (by show ¬ (((insA c.fI q inst).length : Nat) : Int) <= (q : Int); rw [hn]; have := nx.1.1; simp only at this; omega)]
  · rw [appE_in (show (6 : Int) ≠ 8 by decide) (show (6 : Int) ≠ 9 by decide) (m := m) rfl, hg]
    show (⟨(a.fC.set m _).set m ⟨c.fN, c.fS, c.fL, delA (insA c.fI q inst) q⟩⟩ : TL) = a
    rw [del_ins _ _ _ (by have := nx.1.1; simp only at this; omega), List.set_set]
    show (⟨a.fC.set m c⟩ : TL) = a
    rw [hcd, set_gd_self hlt]
theorem in_6 (a : TL) (m q : Nat) (name : ByteArray) (shape : TS) (label : TB) (inst : TI) (hc : eCode a ⟨6, m, q, name, shape, label, inst⟩ = 0) :
    okLib (appE a ⟨6, m, q, name, shape, label, inst⟩) = true /\ eCode (appE a ⟨6, m, q, name, shape, label, inst⟩) (invE a ⟨6, m, q, name, shape, label, inst⟩) = 0 /\ appE (appE a ⟨6, m, q, name, shape, label, inst⟩) (invE a ⟨6, m, q, name, shape, label, inst⟩) = a := by
  obtain ⟨hv, he, hcell⟩ := eCode_zero hc
  obtain ⟨m2, hm2, hlt⟩ := hcell (show (6 : Int) ≠ 8 by decide)
  obtain rfl : m = m2 := by simp only at hm2; omega
  clear hm2 hcell
  obtain ⟨⟨w1, w2⟩, o1, o3, o5, o7⟩ := okEdit_at he
  have hl := okLib_len hv
  obtain ⟨g1, g2⟩ := okLib_at hv hlt
  have co := okCell_iff.1 g1
  obtain ⟨d2, d4, d6⟩ := eCode_index hc rfl hlt
  obtain ⟨q2, e1, hq⟩ := d6 rfl
  obtain rfl : q = q2 := by simp only at e1; omega
  obtain ⟨c, hcd⟩ : ∃ c, c = gd a.fC m := ⟨_, rfl⟩
  rw [<- hcd] at co hq
  have ea : appE a ⟨6, m, q, name, shape, label, inst⟩ = ⟨a.fC.set m ⟨c.fN, c.fS, c.fL, delA c.fI q⟩⟩ := by
    rw [appE_in (show (6 : Int) ≠ 8 by decide) (show (6 : Int) ≠ 9 by decide) (m := m) rfl, <- hcd]
    rfl
  have ei : invE a ⟨6, m, q, name, shape, label, inst⟩ = ⟨5, m, q, ByteArray.mk #[], zSh, zLa, (gd c.fI q)⟩ := by
    unfold invE
    simp only [Int.reduceEq, if_true, if_false, Int.toNat_natCast, <- hcd]
  have cn : CellOk ⟨c.fN, c.fS, c.fL, delA c.fI q⟩ (m : Int) := ⟨co.name, co.sn, co.ln, (by show (delA c.fI q).length <= 8; have := delA_len c.fI q; have := co.inn; omega), co.s, co.l, (fun y hy => co.i y (delA_mem hy))⟩
  have hv2 : okLib ⟨a.fC.set m ⟨c.fN, c.fS, c.fL, delA c.fI q⟩⟩ = true := okLib_set hv hlt cn (.inl (by rw [hcd]))
  have hg : gd (a.fC.set m ⟨c.fN, c.fS, c.fL, delA c.fI q⟩) m = ⟨c.fN, c.fS, c.fL, delA c.fI q⟩ := gd_set_eq hlt
  rw [ea, ei]
  refine ⟨hv2, ?_, ?_⟩
  · have he2 : okEdit ⟨5, m, q, ByteArray.mk #[], zSh, zLa, (gd c.fI q)⟩ = true := by
      unfold okEdit
      rw [Bool.and_eq_true, Bool.and_eq_true, wBi, wBi]
      refine ⟨⟨w1, w2⟩, ?_⟩
      have hx : okInst (gd c.fI q) 8 = true := okInst_mv (co.i _ (gd_mem hq)) rfl (by omega) ⟨(okInst_cell (co.i _ (gd_mem hq)) (by omega)).1, by have := (okInst_cell (co.i _ (gd_mem hq)) (by omega)).2; omega⟩
      simp only [Int.reduceEq, if_true, if_false, or_self, or_false, false_or, true_or, or_true, zS_z, zL_z, zI_z, seq_self, Bool.and_self, hx]
    unfold eCode
    rw [if_neg (by rw [hv2, he2]; decide), if_neg (show ¬ (5 : Int) = 8 by decide), if_neg (by show ¬ ((a.fC.set m _).length : Int) <= (m : Int); rw [List.length_set]; omega), if_neg (show ¬ (5 : Int) = 1 by decide), if_neg (show ¬ (5 : Int) = 2 by decide), if_neg (show ¬ (5 : Int) = 3 by decide), if_neg (show ¬ (5 : Int) = 4 by decide), if_pos (show (5 : Int) = 5 from rfl)]
    rw [Int.toNat_natCast, hg]
    have hn : (delA c.fI q).length + 1 = c.fI.length := by unfold delA; simp only [List.length_append, List.length_take, List.length_drop]; omega
    have hmx := co.inn
    have hi : insC (q : Int) (delA c.fI q).length 8 = 0 := by
      unfold insC
      rw [if_neg (by omega), if_neg (by omega)]
    have hlt2 := (okInst_cell (co.i _ (gd_mem hq)) (by omega)).2
    show (if insC (q : Int) (delA c.fI q).length 8 = 0 /\ (m : Int) <= (gd c.fI q).fc then (6 : Int) else insC (q : Int) (delA c.fI q).length 8) = 0
    rw [if_neg (by omega)]
    exact hi
  · rw [appE_in (show (5 : Int) ≠ 8 by decide) (show (5 : Int) ≠ 9 by decide) (m := m) rfl, hg]
    show (⟨(a.fC.set m _).set m ⟨c.fN, c.fS, c.fL, insA (delA c.fI q) q (gd c.fI q)⟩⟩ : TL) = a
    rw [ins_del _ _ hq, List.set_set]
    show (⟨a.fC.set m c⟩ : TL) = a
    rw [hcd, set_gd_self hlt]
/- a rename, an insertion and a removal of a cell -/
theorem othN_false {l : List TC} {k : Int} {s : ByteArray} (h : othN l k s = false) {j : Nat} (hj : j < l.length) (hk : (j : Int) ≠ k) : std.seq (gd l j).fN s = false := by
  unfold othN at h
  rw [List.any_eq_false] at h
  have := h j (List.mem_range.2 hj)
  rw [eq_false' hk] at this
  simpa [s_not] using this
theorem othN_of {l : List TC} {k : Int} {s : ByteArray} (h : ∀ j : Nat, j < l.length -> (j : Int) ≠ k -> std.seq (gd l j).fN s = false) : othN l k s = false := by
  unfold othN
  rw [List.any_eq_false]
  intro j hj
  by_cases hk : (j : Int) = k
  · rw [eq_true' hk]; simp [s_not]
  · rw [eq_false' hk, h j (List.mem_range.1 hj) hk]; simp
theorem eCode_ren {a : TL} {e : TE} {m : Nat} (hc : eCode a e = 0) (hk : e.fk_ = 7) (hm : e.fc = (m : Int)) (hlt : m < a.fC.length) : othN a.fC (m : Int) e.fN = false := by
  obtain ⟨hv, he, _⟩ := eCode_zero hc
  unfold eCode at hc
  rw [if_neg (by rw [hv, he]; decide), if_neg (by omega), if_neg (by omega), if_neg (by omega), if_neg (by omega), if_neg (by omega), if_neg (by omega), if_neg (by omega), if_neg (by omega), if_pos hk, hm] at hc
  cases h : othN a.fC (m : Int) e.fN with
  | false => rfl
  | true => rw [h, if_pos rfl] at hc; exact absurd hc (by decide)
theorem eCode_del {a : TL} {e : TE} {m : Nat} (hc : eCode a e = 0) (hk : e.fk_ = 9) (hm : e.fc = (m : Int)) (hlt : m < a.fC.length) : a.fC.length ≠ 1 /\ (gd a.fC m).fS.length + (gd a.fC m).fL.length + (gd a.fC m).fI.length = 0 /\ placedB a (m : Int) = false := by
  obtain ⟨hv, he, _⟩ := eCode_zero hc
  unfold eCode at hc
  rw [if_neg (by rw [hv, he]; decide), if_neg (by omega), if_neg (by omega), if_neg (by omega), if_neg (by omega), if_neg (by omega), if_neg (by omega), if_neg (by omega), if_neg (by omega), if_neg (by omega), hm, Int.toNat_natCast] at hc
  by_cases h : (a.fC.length : Int) = 1 \/ 0 < (gd a.fC m).fS.length + (gd a.fC m).fL.length + (gd a.fC m).fI.length \/ placedB a (m : Int) = true
  · rw [if_pos h] at hc; exact absurd hc (by decide)
  · refine ⟨by omega, by omega, ?_⟩
    cases hp : placedB a (m : Int) with
    | false => rfl
    | true => exact absurd (.inr (.inr hp)) h
theorem in_7 (a : TL) (m q : Nat) (name : ByteArray) (shape : TS) (label : TB) (inst : TI) (hc : eCode a ⟨7, m, q, name, shape, label, inst⟩ = 0) :
    okLib (appE a ⟨7, m, q, name, shape, label, inst⟩) = true /\ eCode (appE a ⟨7, m, q, name, shape, label, inst⟩) (invE a ⟨7, m, q, name, shape, label, inst⟩) = 0 /\ appE (appE a ⟨7, m, q, name, shape, label, inst⟩) (invE a ⟨7, m, q, name, shape, label, inst⟩) = a := by
  obtain ⟨hv, he, hcell⟩ := eCode_zero hc
  obtain ⟨m2, hm2, hlt⟩ := hcell (show (7 : Int) ≠ 8 by decide)
  obtain rfl : m = m2 := by simp only at hm2; omega
  clear hm2 hcell
  obtain ⟨⟨w1, w2⟩, o1, o3, o5, o7⟩ := okEdit_at he
  obtain ⟨on, oq⟩ := o7 (.inl rfl)
  have ho := eCode_ren hc rfl rfl hlt
  have hl := okLib_len hv
  obtain ⟨g1, g2⟩ := okLib_at hv hlt
  have co := okCell_iff.1 g1
  obtain ⟨c, hcd⟩ : ∃ c, c = gd a.fC m := ⟨_, rfl⟩
  rw [<- hcd] at co
  have ea : appE a ⟨7, m, q, name, shape, label, inst⟩ = ⟨a.fC.set m ⟨name, c.fS, c.fL, c.fI⟩⟩ := by
    rw [appE_in (show (7 : Int) ≠ 8 by decide) (show (7 : Int) ≠ 9 by decide) (m := m) rfl, <- hcd]
    rfl
  have ei : invE a ⟨7, m, q, name, shape, label, inst⟩ = ⟨7, m, q, c.fN, zSh, zLa, zIn⟩ := by
    unfold invE
    simp only [Int.reduceEq, if_true, if_false, Int.toNat_natCast, <- hcd]
  have cn : CellOk ⟨name, c.fS, c.fL, c.fI⟩ (m : Int) := ⟨on, co.sn, co.ln, co.inn, co.s, co.l, co.i⟩
  have hv2 : okLib ⟨a.fC.set m ⟨name, c.fS, c.fL, c.fI⟩⟩ = true := okLib_set hv hlt cn (.inr ho)
  have hg : gd (a.fC.set m ⟨name, c.fS, c.fL, c.fI⟩) m = ⟨name, c.fS, c.fL, c.fI⟩ := gd_set_eq hlt
  rw [ea, ei]
  refine ⟨hv2, ?_, ?_⟩
  · have he2 : okEdit ⟨7, m, q, c.fN, zSh, zLa, zIn⟩ = true := by
      unfold okEdit
      rw [Bool.and_eq_true, Bool.and_eq_true, wBi, wBi]
      refine ⟨⟨w1, w2⟩, ?_⟩
      simp only [Int.reduceEq, if_true, if_false, or_self, or_false, false_or, true_or, or_true, zS_z, zL_z, zI_z, seq_self, Bool.and_self, co.name, eq_true' oq]
    have hn2 : othN (a.fC.set m ⟨name, c.fS, c.fL, c.fI⟩) (m : Int) c.fN = false := by
      refine othN_of fun j hj hjm => ?_
      rw [List.length_set] at hj
      rw [gd_set_ne (show j ≠ m by omega), hcd]
      cases hs : std.seq (gd a.fC j).fN (gd a.fC m).fN with
      | false => rfl
      | true => exact absurd (name_once hv hj hlt hs (seq_self _)) (by omega)
    unfold eCode
    rw [if_neg (by rw [hv2, he2]; decide), if_neg (show ¬ (7 : Int) = 8 by decide), if_neg (by show ¬ ((a.fC.set m _).length : Int) <= (m : Int); rw [List.length_set]; omega), if_neg (show ¬ (7 : Int) = 1 by decide), if_neg (show ¬ (7 : Int) = 2 by decide), if_neg (show ¬ (7 : Int) = 3 by decide), if_neg (show ¬ (7 : Int) = 4 by decide), if_neg (show ¬ (7 : Int) = 5 by decide), if_neg (show ¬ (7 : Int) = 6 by decide), if_pos (show (7 : Int) = 7 from rfl)]
    rw [hn2]
    rfl
  · rw [appE_in (show (7 : Int) ≠ 8 by decide) (show (7 : Int) ≠ 9 by decide) (m := m) rfl, hg]
    show (⟨(a.fC.set m _).set m ⟨c.fN, c.fS, c.fL, c.fI⟩⟩ : TL) = a
    rw [List.set_set]
    show (⟨a.fC.set m c⟩ : TL) = a
    rw [hcd, set_gd_self hlt]
theorem gd_map {α β : Type} [Inhabited α] [Inhabited β] {g : α -> β} {l : List α} {k : Nat} (h : k < l.length) : gd (l.map g) k = g (gd l k) := by
  rw [gd_lt (show k < (l.map g).length by rw [List.length_map]; exact h), gd_lt h, List.getElem_map]
theorem insA_gd {α : Type} [Inhabited α] {l : List α} {m k : Nat} {x : α} (hm : m <= l.length) (hk : k <= l.length) : gd (insA l m x) k = if k < m then gd l k else if k = m then x else gd l (k - 1) := by
  have hl : (List.take m l).length = m := by simp; omega
  rw [gd_lt (show k < (insA l m x).length by rw [insA_len]; omega)]
  unfold insA
  by_cases h1 : k < m
  · rw [if_pos h1, gd_lt (show k < l.length by omega)]
    simp [List.getElem_append, hl, h1]
  · rw [if_neg h1]
    by_cases h2 : k = m
    · subst h2
      rw [if_pos rfl]
      simp [List.getElem_append, hl]
    · rw [if_neg h2, gd_lt (show k - 1 < l.length by omega), List.getElem_append_right (by simp; omega)]
      simp only [List.length_append, hl, List.length_singleton, List.getElem_drop]
      congr 1
      omega
theorem delA_len2 {α : Type} {l : List α} {m : Nat} (hm : m < l.length) : (delA l m).length + 1 = l.length := by
  unfold delA
  simp only [List.length_append, List.length_take, List.length_drop]
  omega
theorem delA_gd {α : Type} [Inhabited α] {l : List α} {m k : Nat} (hm : m < l.length) (hk : k + 1 < l.length) : gd (delA l m) k = if k < m then gd l k else gd l (k + 1) := by
  have hl : (List.take m l).length = m := by simp; omega
  rw [gd_lt (show k < (delA l m).length by have := delA_len2 hm; omega)]
  unfold delA
  by_cases h1 : k < m
  · rw [if_pos h1, gd_lt (show k < l.length by omega), List.getElem_append_left (by omega)]
    simp
  · rw [if_neg h1, gd_lt hk, List.getElem_append_right (by omega)]
    simp only [hl, List.getElem_drop]
    congr 1
    omega
/- a cell is put in or taken out -/
theorem okInst_rng {i : TI} {k : Nat} (h : okInst i k = true) (hk : k <= 1000) : 0 <= i.fc /\ i.fc < (k : Int) := okInst_cell h ⟨by omega, by omega⟩
theorem shI_cell1 {m : Nat} {i : TI} (hm : m <= 1000) (hi : 0 <= i.fc /\ i.fc <= 1000) : (shI m 1 i).fc = if (m : Int) <= i.fc then i.fc + 1 else i.fc := by
  unfold shI
  by_cases h : (m : Int) <= i.fc
  · rw [le_true h, if_pos h]; exact add_id (by omega) (by omega)
  · rw [le_false h, if_neg h]; rfl
theorem shI_cell2 {m : Nat} {i : TI} (hm : m <= 1000) (hi : 0 <= i.fc /\ i.fc <= 1000) : (shI m (-1) i).fc = if (m : Int) <= i.fc then i.fc - 1 else i.fc := by
  unfold shI
  by_cases h : (m : Int) <= i.fc
  · rw [le_true h, if_pos h]; show std.add .i64 i.fc (-1) = _; rw [add_id (by omega) (by omega)]; omega
  · rw [le_false h, if_neg h]; rfl
theorem shI_rest (m b : Int) (i : TI) : shI m b i = ⟨(shI m b i).fc, i.fp, i.fK, i.fR, i.fu, i.fv⟩ := by
  unfold shI
  cases std.le m i.fc <;> rfl
theorem cell_up {c : TC} {m k k2 : Nat} (co : CellOk c k) (hk : k <= 100) (hm : m <= 100) (h2 : k2 = if k < m then k else k + 1) : CellOk (shC m 1 c) k2 := by
  refine ⟨co.name, co.sn, co.ln, by show (c.fI.map _).length <= 8; rw [List.length_map]; exact co.inn, co.s, co.l, fun x hx => ?_⟩
  obtain ⟨i, hi, rfl⟩ := List.mem_map.1 hx
  have hr := okInst_rng (co.i i hi) (by omega)
  have e := shI_cell1 (m := m) (i := i) (by omega) (by omega)
  have hk2 : k2 <= 1000 := by rw [h2]; split <;> omega
  refine okInst_mv (co.i i hi) (shI_rest _ _ _) ⟨by omega, by omega⟩ ?_
  rw [e]
  split <;> rename_i h <;> split at h2 <;> omega
theorem cell_down {c : TC} {m k k2 : Nat} (co : CellOk c k) (hk : k <= 100) (hm : m <= 100) (hkm : k ≠ m) (h2 : k2 = if k < m then k else k - 1) (hp : ∀ i ∈ c.fI, i.fc ≠ (m : Int)) : CellOk (shC m (-1) c) k2 := by
  refine ⟨co.name, co.sn, co.ln, by show (c.fI.map _).length <= 8; rw [List.length_map]; exact co.inn, co.s, co.l, fun x hx => ?_⟩
  obtain ⟨i, hi, rfl⟩ := List.mem_map.1 hx
  have hr := okInst_rng (co.i i hi) (by omega)
  have hne := hp i hi
  have e := shI_cell2 (m := m) (i := i) (by omega) (by omega)
  have hk2 : k2 <= 1000 := by rw [h2]; split <;> omega
  refine okInst_mv (co.i i hi) (shI_rest _ _ _) ⟨by omega, by omega⟩ ?_
  rw [e]
  split <;> rename_i h <;> split at h2 <;> omega
theorem placed_no {a : TL} {k : Int} (h : placedB a k = false) {j : Nat} (hj : j < a.fC.length) : ∀ i ∈ (gd a.fC j).fI, i.fc ≠ k := by
  intro i hi he
  unfold placedB at h
  rw [List.any_eq_false] at h
  have h1 := h j (List.mem_range.2 hj)
  unfold usesB at h1
  rw [Bool.not_eq_true, List.any_eq_false] at h1
  obtain ⟨p, hp, rfl⟩ := List.getElem_of_mem hi
  have := h1 p (List.mem_range.2 hp)
  rw [gd_lt hp, eq_true' he] at this
  exact this rfl
theorem placed_of {a : TL} {k : Int} (h : ∀ j, j < a.fC.length -> ∀ i ∈ (gd a.fC j).fI, i.fc ≠ k) : placedB a k = false := by
  unfold placedB
  rw [List.any_eq_false]
  intro j hj
  unfold usesB
  rw [Bool.not_eq_true, List.any_eq_false]
  intro p hp
  rw [eq_false' (h j (List.mem_range.1 hj) _ (gd_mem (List.mem_range.1 hp)))]
  simp
/-- valid cells of names that are all different -/
theorem okLib_mk {l : List TC} (h1 : 1 <= l.length) (h2 : l.length <= 8) (hc : ∀ k : Nat, k < l.length -> CellOk (gd l k) k) (hn : ∀ j k : Nat, j < k -> k < l.length -> std.seq (gd l j).fN (gd l k).fN = false) : okLib ⟨l⟩ = true := by
  refine okLib_of h1 h2 (fun k hk => ⟨okCell_iff.2 (hc k hk), ?_⟩)
  unfold fresh
  rw [List.all_eq_true]
  intro j hj
  rw [hn j k (List.mem_range.1 hj) hk]
  rfl
theorem in_8 (a : TL) (m q : Nat) (name : ByteArray) (shape : TS) (label : TB) (inst : TI) (hc : eCode a ⟨8, m, q, name, shape, label, inst⟩ = 0) :
    okLib (appE a ⟨8, m, q, name, shape, label, inst⟩) = true /\ eCode (appE a ⟨8, m, q, name, shape, label, inst⟩) (invE a ⟨8, m, q, name, shape, label, inst⟩) = 0 /\ appE (appE a ⟨8, m, q, name, shape, label, inst⟩) (invE a ⟨8, m, q, name, shape, label, inst⟩) = a := by
  obtain ⟨hv, he, _⟩ := eCode_zero hc
  obtain ⟨⟨w1, w2⟩, o1, o3, o5, o7⟩ := okEdit_at he
  obtain ⟨on, oq⟩ := o7 (.inr rfl)
  obtain ⟨c1, c2, c3⟩ := eCode_cell hc rfl
  have hl := okLib_len hv
  have hml : m <= a.fC.length := by simp only at c1; omega
  have hm8 : m <= 8 := by simp only at w1; omega
  obtain ⟨L, hL⟩ : ∃ L, L = a.fC.map (shC (m : Int) 1) := ⟨_, rfl⟩
  have hLl : L.length = a.fC.length := by rw [hL, List.length_map]
  obtain ⟨N, hN⟩ : ∃ N : TC, N = ⟨name, [], [], []⟩ := ⟨_, rfl⟩
  have hLg : ∀ k, k < a.fC.length -> gd L k = shC m 1 (gd a.fC k) := fun k hk => by rw [hL, gd_map hk]
  have ea : appE a ⟨8, m, q, name, shape, label, inst⟩ = ⟨insA L m N⟩ := by
    unfold appE
    rw [if_pos rfl, hL, hN]
    rfl
  have ei : invE a ⟨8, m, q, name, shape, label, inst⟩ = ⟨9, m, q, ByteArray.mk #[], zSh, zLa, zIn⟩ := by
    unfold invE
    simp only [Int.reduceEq, if_true, if_false]
  have hlen : (insA L m N).length = a.fC.length + 1 := by rw [insA_len, hLl]
  have hgd : ∀ k, k <= a.fC.length -> gd (insA L m N) k = if k < m then shC m 1 (gd a.fC k) else if k = m then N else shC m 1 (gd a.fC (k - 1)) := by
    intro k hk
    rw [insA_gd (by omega) (by omega)]
    by_cases h1 : k < m
    · rw [if_pos h1, if_pos h1, hLg k (by omega)]
    · rw [if_neg h1, if_neg h1]
      by_cases h2 : k = m
      · rw [if_pos h2, if_pos h2]
      · rw [if_neg h2, if_neg h2, hLg (k - 1) (by omega)]
  have hv2 : okLib ⟨insA L m N⟩ = true := by
    refine okLib_mk (by omega) (by omega) (fun k hk => ?_) (fun j k hjk hk => ?_)
    · rw [hgd k (by omega)]
      by_cases h1 : k < m
      · rw [if_pos h1]
        exact cell_up (okCell_iff.1 (okLib_at hv (show k < a.fC.length by omega)).1) (by omega) (by omega) (by rw [if_pos h1])
      · rw [if_neg h1]
        by_cases h2 : k = m
        · rw [if_pos h2, hN]
          exact ⟨on, by simp, by simp, by simp, by simp, by simp, by simp⟩
        · rw [if_neg h2]
          exact cell_up (okCell_iff.1 (okLib_at hv (show k - 1 < a.fC.length by omega)).1) (by omega) (by omega) (by rw [if_neg (by omega)]; omega)
    · rw [hgd j (by omega), hgd k (by omega)]
      have hN2 : N.fN = name := by rw [hN]
      have hu : ∀ x y : Nat, x < y -> y < a.fC.length -> std.seq (gd a.fC x).fN (gd a.fC y).fN = false := fun x y hxy hy => okLib_fresh hv hy hxy
      have ho : ∀ x : Nat, x < a.fC.length -> std.seq (gd a.fC x).fN N.fN = false := fun x hx => by rw [hN2]; exact othN_false c3 hx (by omega)
      have ho2 : ∀ x : Nat, x < a.fC.length -> std.seq N.fN (gd a.fC x).fN = false := fun x hx => by
        cases hs : std.seq N.fN (gd a.fC x).fN with
        | false => rfl
        | true => have := ho x hx; rw [seq_comm hs] at this; cases this
      by_cases h1 : k < m
      · rw [if_pos h1, if_pos (by omega)]; exact hu j k hjk (by omega)
      · rw [if_neg h1]
        by_cases h2 : k = m
        · rw [if_pos h2, if_pos (by omega)]; exact ho j (by omega)
        · rw [if_neg h2]
          by_cases h3 : j < m
          · rw [if_pos h3]; exact hu j (k - 1) (by omega) (by omega)
          · rw [if_neg h3]
            by_cases h4 : j = m
            · rw [if_pos h4]; exact ho2 (k - 1) (by omega)
            · rw [if_neg h4]; exact hu (j - 1) (k - 1) (by omega) (by omega)
  rw [ea, ei]
  refine ⟨hv2, ?_, ?_⟩
  · have he2 : okEdit ⟨9, m, q, ByteArray.mk #[], zSh, zLa, zIn⟩ = true := by
      unfold okEdit
      rw [Bool.and_eq_true, Bool.and_eq_true, wBi, wBi]
      refine ⟨⟨w1, w2⟩, ?_⟩
      simp only [Int.reduceEq, if_true, if_false, or_self, or_false, false_or, true_or, or_true, zS_z, zL_z, zI_z, seq_self, Bool.and_self, eq_true' oq]
    have hp : placedB ⟨insA L m N⟩ (m : Int) = false := by
      refine placed_of fun j hj i hi => ?_
      have hj2 : j < a.fC.length + 1 := by rw [<- hlen]; exact hj
      have hup : ∀ x : Nat, x < a.fC.length -> ∀ i ∈ (shC m 1 (gd a.fC x)).fI, i.fc ≠ (m : Int) := by
        intro x hx i hi
        obtain ⟨i0, h0, rfl⟩ := List.mem_map.1 hi
        have hr := okInst_rng ((okCell_iff.1 (okLib_at hv hx).1).i i0 h0) (by omega)
        rw [shI_cell1 (by omega) (by omega)]
        split <;> omega
      have hi2 : i ∈ (gd (insA L m N) j).fI := hi
      rw [hgd j (by omega)] at hi2
      by_cases h1 : j < m
      · rw [if_pos h1] at hi2; exact hup j (by omega) i hi2
      · rw [if_neg h1] at hi2
        by_cases h2 : j = m
        · rw [if_pos h2, hN] at hi2; cases hi2
        · rw [if_neg h2] at hi2; exact hup (j - 1) (by omega) i hi2
    have hgm : gd (insA L m N) m = N := by rw [hgd m hml, if_neg (by omega), if_pos rfl]
    unfold eCode
    rw [if_neg (by rw [hv2, he2]; decide), if_neg (show ¬ (9 : Int) = 8 by decide), if_neg (by show ¬ ((insA L m N).length : Int) <= (m : Int); rw [hlen]; omega), if_neg (show ¬ (9 : Int) = 1 by decide), if_neg (show ¬ (9 : Int) = 2 by decide), if_neg (show ¬ (9 : Int) = 3 by decide), if_neg (show ¬ (9 : Int) = 4 by decide), if_neg (show ¬ (9 : Int) = 5 by decide), if_neg (show ¬ (9 : Int) = 6 by decide), if_neg (show ¬ (9 : Int) = 7 by decide)]
    rw [Int.toNat_natCast, hgm, hN]
    rw [hN] at hp hlen
    show (if ((insA L m ⟨name, [], [], []⟩).length : Int) = 1 \/ 0 < ([] : List TS).length + ([] : List TB).length + ([] : List TI).length \/ placedB ⟨insA L m ⟨name, [], [], []⟩⟩ (m : Int) = true then (6 : Int) else 0) = 0
    rw [hp, hlen, if_neg (by simp; omega)]
  · unfold appE
    rw [if_neg (show ¬ (9 : Int) = 8 by decide), if_pos (show (9 : Int) = 9 from rfl)]
    simp only [Int.toNat_natCast]
    rw [del_ins _ _ _ (by omega), hL, List.map_map]
    have : List.map (shC (m : Int) (-1) ∘ shC (m : Int) 1) a.fC = a.fC := by
      refine (List.map_congr_left (fun c hcm => ?_)).trans (List.map_id' _)
      obtain ⟨p, hp, rfl⟩ := List.getElem_of_mem hcm
      refine shC_back m _ (by omega) (fun i hi => ?_)
      rw [<- gd_lt hp] at hi
      have := okInst_rng ((okCell_iff.1 (okLib_at hv hp).1).i i hi) (by omega)
      omega
    rw [this]
theorem in_9 (a : TL) (m q : Nat) (name : ByteArray) (shape : TS) (label : TB) (inst : TI) (hc : eCode a ⟨9, m, q, name, shape, label, inst⟩ = 0) :
    okLib (appE a ⟨9, m, q, name, shape, label, inst⟩) = true /\ eCode (appE a ⟨9, m, q, name, shape, label, inst⟩) (invE a ⟨9, m, q, name, shape, label, inst⟩) = 0 /\ appE (appE a ⟨9, m, q, name, shape, label, inst⟩) (invE a ⟨9, m, q, name, shape, label, inst⟩) = a := by
  obtain ⟨hv, he, hcell⟩ := eCode_zero hc
  obtain ⟨m2, hm2, hlt⟩ := hcell (show (9 : Int) ≠ 8 by decide)
  obtain rfl : m = m2 := by simp only at hm2; omega
  clear hm2 hcell
  obtain ⟨⟨w1, w2⟩, o1, o3, o5, o7⟩ := okEdit_at he
  obtain ⟨c1, c2, c3⟩ := eCode_del hc rfl rfl hlt
  have hl := okLib_len hv
  have oq : (q : Int) = 0 := by
    unfold okEdit at he
    rw [Bool.and_eq_true] at he
    have := he.2
    simp at this
    have h0 := this.1.1.1.1
    rw [s_eq, decide_eq_true_eq] at h0
    exact h0
  obtain ⟨c, hcd⟩ : ∃ c, c = gd a.fC m := ⟨_, rfl⟩
  have hce : c = ⟨c.fN, [], [], []⟩ := by
    rw [<- hcd] at c2
    have s1 : c.fS = [] := List.length_eq_zero_iff.1 (by omega)
    have s2 : c.fL = [] := List.length_eq_zero_iff.1 (by omega)
    have s3 : c.fI = [] := List.length_eq_zero_iff.1 (by omega)
    cases c
    simp only at s1 s2 s3
    rw [s1, s2, s3]
  have hD := delA_len2 (l := a.fC) hlt
  obtain ⟨B, hB⟩ : ∃ B, B = (delA a.fC m).map (shC (m : Int) (-1)) := ⟨_, rfl⟩
  have hBl : B.length + 1 = a.fC.length := by rw [hB, List.length_map]; exact hD
  have ea : appE a ⟨9, m, q, name, shape, label, inst⟩ = ⟨B⟩ := by
    unfold appE
    rw [if_neg (show ¬ (9 : Int) = 8 by decide), if_pos (show (9 : Int) = 9 from rfl), hB]
    rfl
  have ei : invE a ⟨9, m, q, name, shape, label, inst⟩ = ⟨8, m, q, c.fN, zSh, zLa, zIn⟩ := by
    unfold invE
    simp only [Int.reduceEq, if_true, if_false, Int.toNat_natCast, <- hcd]
  have hgd : ∀ k, k + 1 < a.fC.length -> gd B k = shC m (-1) (gd a.fC (if k < m then k else k + 1)) := by
    intro k hk
    rw [hB, gd_map (by omega), delA_gd hlt hk]
    split <;> rfl
  have hv2 : okLib ⟨B⟩ = true := by
    refine okLib_mk (by omega) (by omega) (fun k hk => ?_) (fun j k hjk hk => ?_)
    · rw [hgd k (by omega)]
      by_cases h1 : k < m
      · rw [if_pos h1]
        exact cell_down (okCell_iff.1 (okLib_at hv (show k < a.fC.length by omega)).1) (by omega) (by omega) (by omega) (by rw [if_pos h1]) (placed_no c3 (by omega))
      · rw [if_neg h1]
        exact cell_down (okCell_iff.1 (okLib_at hv (show k + 1 < a.fC.length by omega)).1) (by omega) (by omega) (by omega) (by rw [if_neg (by omega)]; omega) (placed_no c3 (by omega))
    · rw [hgd j (by omega), hgd k (by omega)]
      refine okLib_fresh hv ?_ ?_
      · split <;> omega
      · split <;> split <;> omega
  rw [ea, ei]
  refine ⟨hv2, ?_, ?_⟩
  · have he2 : okEdit ⟨8, m, q, c.fN, zSh, zLa, zIn⟩ = true := by
      unfold okEdit
      rw [Bool.and_eq_true, Bool.and_eq_true, wBi, wBi]
      refine ⟨⟨w1, w2⟩, ?_⟩
      have hn : isName c.fN = true := by rw [hcd]; exact (okCell_iff.1 (okLib_at hv hlt).1).name
      simp only [Int.reduceEq, if_true, if_false, or_self, or_false, false_or, true_or, or_true, zS_z, zL_z, zI_z, Bool.and_self, hn, eq_true' oq]
    have hn2 : othN B (-1) c.fN = false := by
      refine othN_of fun j hj _ => ?_
      rw [hgd j (by omega), hcd]
      show std.seq (gd a.fC (if j < m then j else j + 1)).fN _ = false
      cases hs : std.seq (gd a.fC (if j < m then j else j + 1)).fN (gd a.fC m).fN with
      | false => rfl
      | true =>
        have := name_once hv (show (if j < m then j else j + 1) < a.fC.length by split <;> omega) hlt hs (seq_self _)
        split at this <;> omega
    unfold eCode
    rw [if_neg (by rw [hv2, he2]; decide), if_pos (show (8 : Int) = 8 from rfl)]
    show (if (B.length : Int) < (m : Int) then (5 : Int) else if (B.length : Int) = 8 then 3 else if othN B (-1) c.fN = true then 6 else 0) = 0
    rw [if_neg (by omega), if_neg (by omega), hn2]
    rfl
  · unfold appE
    rw [if_pos (show (8 : Int) = 8 from rfl)]
    simp only [Int.toNat_natCast]
    have : List.map (shC (m : Int) 1) B = delA a.fC m := by
      rw [hB, List.map_map]
      refine (List.map_congr_left (fun x hx => ?_)).trans (List.map_id' _)
      obtain ⟨p, hp, hpe⟩ := List.getElem_of_mem (delA_mem hx)
      subst hpe
      refine shC_forth m _ (by omega) (fun i hi => ?_) (fun i hi => ?_)
      · rw [<- gd_lt hp] at hi
        have := okInst_rng ((okCell_iff.1 (okLib_at hv hp).1).i i hi) (by omega)
        omega
      · rw [<- gd_lt hp] at hi
        exact placed_no c3 hp i hi
    rw [this, <- hce, hcd, ins_del _ _ hlt]
/-- an edit that is possible: the library stays valid, the inverse is possible and restores it -/
theorem inverse_law (a : TL) (e : TE) (hc : eCode a e = 0) : okLib (appE a e) = true /\ eCode (appE a e) (invE a e) = 0 /\ appE (appE a e) (invE a e) = a := by
  obtain ⟨hv, he, _⟩ := eCode_zero hc
  obtain ⟨hk, h1, hi⟩ := okEdit_kind he
  obtain ⟨kind, cell, index, name, shape, label, inst⟩ := e
  simp only at hk h1 hi
  obtain ⟨m, rfl⟩ := Int.eq_ofNat_of_zero_le h1
  obtain ⟨q, rfl⟩ := Int.eq_ofNat_of_zero_le hi
  rcases hk with rfl | rfl | rfl | rfl | rfl | rfl | rfl | rfl | rfl
  · exact in_1 a m q _ _ _ _ hc
  · exact in_2 a m q _ _ _ _ hc
  · exact in_3 a m q _ _ _ _ hc
  · exact in_4 a m q _ _ _ _ hc
  · exact in_5 a m q _ _ _ _ hc
  · exact in_6 a m q _ _ _ _ hc
  · exact in_7 a m q _ _ _ _ hc
  · exact in_8 a m q _ _ _ _ hc
  · exact in_9 a m q _ _ _ _ hc
/- transactions: both sides -/
/-- a transaction's edits one after the other; back: what undoes those that are done -/
def runs (a : TL) (back : List TE) (i : Nat) : List TE -> (Int × Int) ⊕ (List TE × List TC)
  | [] => .inr (back, a.fC)
  | e :: r => if eCode a e = 0 then runs (appE a e) (invE a e :: back) (i + 1) r else .inl (eCode a e, (i : Int))
theorem impl_runs (l : List TE) (hl : l.length <= 8) (hE : ∀ e ∈ l, SmallE e) : ∀ (m i : Nat) (a : TL) (back : List TE), i + m = l.length -> SmallL a -> back.length <= i ->
    whileP (Lq24_x18 l) ((i : Int), back.reverse, a.fC) = some (match runs a back i (l.drop i) with | .inl x => .inl x | .inr y => .inr (y.1.reverse, y.2)) := by
  intro m
  induction m with
  | zero =>
    intro i a back hi ha hb
    have : i = l.length := by omega
    subst this
    rw [whileP_unfold]
    simp only [Lq24_x18, lq]
    rw [ltl_f, br_f, List.drop_length]
    rfl
  | succ m ih =>
    intro i a back hi ha hb
    have hil : i < l.length := by omega
    have hd : l.drop i = gd l i :: l.drop (i + 1) := by rw [List.drop_eq_getElem_cons hil, gd_lt hil]
    have hg := hE _ (gd_mem hil)
    rw [whileP_unfold, hd]
    simp only [Lq24_x18, lq, s_toNn]
    rw [ltl_t hil, br_t, ro_ (inRl hil), show TL.mk a.fC = a from rfl, impl_editCode_ok a _ ha hg, obs]
    unfold runs
    by_cases hc : eCode a (gd l i) = 0
    · rw [if_pos hc, hc, notEq (eq_true' rfl), br_f, impl_inverse_ok a _ hc, obs, ro_ (room_of (by rw [s_nadd, eL_, eL_]; simp only [List.length_cons, List.length_nil, List.length_reverse]; omega) (by omega)), impl_edited_ok a _ ha hg hc, obs]
      have := ih (i + 1) (appE a (gd l i)) (invE a (gd l i) :: back) (by omega) (small_appE a _ ha hg hc) (by simp only [List.length_cons]; omega)
      rw [inc_nat (by omega), <- List.reverse_cons]
      exact this
    · rw [if_neg hc, eq_false' hc, s_not, Bool.not_false, br_t]
/- slices.Reverse -/
def rv {α : Type} [Inhabited α] (l : List α) (k : Nat) : List α := (List.range l.length).map fun p => if p < k \/ l.length <= p + k then gd l (l.length - 1 - p) else gd l p
theorem rv_len {α : Type} [Inhabited α] (l : List α) (k : Nat) : (rv l k).length = l.length := by simp [rv]
theorem rv_gd {α : Type} [Inhabited α] {l : List α} {k p : Nat} (h : p < l.length) : gd (rv l k) p = if p < k \/ l.length <= p + k then gd l (l.length - 1 - p) else gd l p := by
  rw [gd_lt (show p < (rv l k).length by rw [rv_len]; exact h)]
  simp [rv]
theorem rv_zero {α : Type} [Inhabited α] (l : List α) : rv l 0 = l := by
  apply List.ext_getElem (rv_len l 0)
  intro p h1 h2
  rw [<- gd_lt h1, rv_gd h2, if_neg (by omega), gd_lt h2]
theorem rv_end {α : Type} [Inhabited α] (l : List α) (k : Nat) (h : l.length <= 2 * k + 1) : rv l k = l.reverse := by
  apply List.ext_getElem (by rw [rv_len, List.length_reverse])
  intro p h1 h2
  have h3 : p < l.length := by rw [rv_len] at h1; exact h1
  rw [<- gd_lt h1, rv_gd h3, List.getElem_reverse, <- gd_lt (show l.length - 1 - p < l.length by omega)]
  by_cases hc : p < k \/ l.length <= p + k
  · rw [if_pos hc]
  · rw [if_neg hc]
    have : l.length - 1 - p = p := by omega
    rw [this]
theorem rv_step {α : Type} [Inhabited α] (l : List α) (k : Nat) (h : 2 * k + 2 <= l.length) : List.set (List.set (rv l k) k (gd (rv l k) (l.length - 1 - k))) (l.length - 1 - k) (gd (rv l k) k) = rv l (k + 1) := by
  apply List.ext_getElem (by rw [List.length_set, List.length_set, rv_len, rv_len])
  intro p h1 h2
  have h3 : p < l.length := by rw [rv_len] at h2; exact h2
  have h4 : p < (rv l k).length := by rw [rv_len]; exact h3
  rw [List.getElem_set, List.getElem_set, <- gd_lt h2, <- gd_lt h4, rv_gd h3, rv_gd h3, rv_gd (show l.length - 1 - k < l.length by omega), rv_gd (show k < l.length by omega)]
  rw [if_neg (show ¬ (l.length - 1 - k < k \/ l.length <= l.length - 1 - k + k) by omega), if_neg (show ¬ (k < k \/ l.length <= k + k) by omega)]
  by_cases c1 : l.length - 1 - k = p
  · rw [if_pos c1, if_pos (by omega), show l.length - 1 - p = k by omega]
  · rw [if_neg c1]
    by_cases c2 : k = p
    · rw [if_pos c2, if_pos (by omega), c2]
    · rw [if_neg c2]
      by_cases c3 : p < k \/ l.length <= p + k
      · rw [if_pos c3, if_pos (by omega)]
      · rw [if_neg c3, if_neg (by omega)]
theorem reverse_ok (l : List TE) (hl : l.length <= 1000000) : Fq29 l = some l.reverse := by
  unfold Fq29
  have hw : whileP (Lq29_x4 l) (0, std.sub .i64 (std.ofN (len l)) 1, l) = some l.reverse := by
    by_cases h0 : l.length = 0
    · rw [List.length_eq_zero_iff.1 h0]
      rw [whileP_unfold]
      rfl
    · refine while_from (fun k => ((k : Int), ((l.length - 1 - k : Nat) : Int), rv l k)) (l.length / 2) ?_ (fun k hk => ?_) ?_
      · rw [s_ofN, eL_, sub_id (by omega) (by omega), rv_zero]
        refine Prod.ext rfl (Prod.ext ?_ rfl)
        show (l.length : Int) - 1 = ((l.length - 1 - 0 : Nat) : Int)
        omega
      · have hk2 : 2 * k + 2 <= l.length := by omega
        simp only [Lq29_x4, lq, s_toNn, s_nadd, Nat.zero_add]
        have i1 : std.inR (k : Int) (len l) := inRl (by omega)
        have i2 : std.inR ((l.length - 1 - k : Nat) : Int) (len l) := inRl (by omega)
        rw [lt_true (by omega), br_t, ro_ i2, ro_ i1, ro_ i1, ro_ (by rw [eL_, eL_, rv_len]), ro_ i2, ro_ (by rw [eL_, eL_, List.length_set, rv_len]), rv_step l k hk2, inc_nat (by omega), sub_id (by omega) (by omega)]
        have e : ((l.length - 1 - k : Nat) : Int) - 1 = ((l.length - 1 - (k + 1) : Nat) : Int) := by omega
        rw [e]
      · simp only [Lq29_x4, lq]
        rw [lt_false (by omega), br_f, rv_end l _ (by omega)]
  rw [hw, obs]
  simp only [lq]
  rw [ro_ (by rw [eL_, eL_, List.length_reverse])]
/- ApplyEdits: both sides -/
/-- the library, what undoes the transaction, a code, the index of the edit that fails -/
def allR (a : TL) (l : List TE) : TL × List TE × Int × Int :=
  if okLib a = true then (if 1 <= l.length /\ l.length <= 8 then (match runs a [] 0 l with | .inl x => (⟨[]⟩, [], x.1, x.2) | .inr y => (⟨y.2⟩, y.1, 0, -1)) else (⟨[]⟩, [], 3, -1)) else (⟨[]⟩, [], 1, -1)
theorem impl_applyAll_ok (a : TL) (l : List TE) (h : SmallL a) (hE : ∀ e ∈ l, SmallE e) : Fq24 a l = some (allR a l) := by
  unfold Fq24 allR
  rw [impl_IsValidLibrary_ok a h, obs]
  cases hv : okLib a with
  | false => rfl
  | true =>
    rw [if_pos rfl, Bool.not_true, br_f, s_ofN, eL_]
    by_cases hl : 1 <= l.length /\ l.length <= 8
    · have hback : ∀ (r : List TE) (i : Nat) (a : TL) (back : List TE) (y : List TE × List TC), back.length <= i -> runs a back i r = .inr y -> y.1.length <= i + r.length := by
        intro r
        induction r with
        | nil => intro i a back y hb hy; unfold runs at hy; injection hy with hy; subst hy; simpa using hb
        | cons e r ih =>
          intro i a back y hb hy
          unfold runs at hy
          split at hy
          · have := ih (i + 1) _ _ y (by simp only [List.length_cons]; omega) hy
            simp only [List.length_cons]; omega
          · cases hy
      rw [if_pos hl, lt_false (by omega), br_f, lt_false (by omega), obs, lq, br_f, impl_copyLibrary_ok a h, obs]
      simp only [lq]
      have hr := impl_runs l hl.2 hE l.length 0 a [] (by omega) h (by simp)
      rw [List.reverse_nil, show ((0 : Nat) : Int) = 0 from rfl] at hr
      rw [hr, obs, List.drop_zero]
      cases hrr : runs a [] 0 l with
      | inl x => rfl
      | inr y =>
        have hy := hback l 0 a [] y (by simp) hrr
        simp only
        rw [reverse_ok _ (by rw [List.length_reverse]; omega), obs, ro_ (by simp [eL_]), ro_ (by simp [eL_]), List.reverse_reverse]
    · rw [if_neg hl]
      by_cases h1 : l.length < 1
      · rw [lt_true (by omega), br_t]; rfl
      · rw [lt_false (by omega), br_f, lt_true (by omega)]; rfl
theorem small_runs (l : List TE) (hE : ∀ e ∈ l, SmallE e) : ∀ (a : TL) (back : List TE) (i : Nat) (y : List TE × List TC), SmallL a -> runs a back i l = .inr y -> SmallL ⟨y.2⟩ := by
  induction l with
  | nil => intro a back i y h hy; unfold runs at hy; injection hy with hy; subst hy; exact h
  | cons e r ih =>
    intro a back i y h hy
    unfold runs at hy
    split at hy
    · rename_i hc
      exact ih (fun x hx => hE x (by simp [hx])) _ _ _ y (small_appE a e h (hE e (by simp)) hc) hy
    · cases hy
theorem allR_small (a : TL) (l : List TE) (h : SmallL a) (hE : ∀ e ∈ l, SmallE e) : SmallL (allR a l).1 := by
  have hz : SmallL ⟨[]⟩ := ⟨by simp, fun c hc => by cases hc⟩
  unfold allR
  split
  · split
    · cases hrr : runs a [] 0 l with
      | inl x => exact hz
      | inr y => exact small_runs l hE a [] 0 y h hrr
    · exact hz
  · exact hz
/- stacks of edits, editors: how great they are -/
structure SmallSS (a : List (List TE)) : Prop where
  len : a.length <= 1048576
  row : ∀ x ∈ a, x.length <= 1048576 /\ ∀ e ∈ x, SmallE e
structure SmallD (a : TD_) : Prop where
  cur : SmallL a.fr_
  und : SmallSS a.fU
  red : SmallSS a.fD
def wfES (l : List TE) : Prop := l.length <= maxLen /\ ∀ e ∈ l, e.fN.size <= maxLen /\ e.fl_.fN.size <= maxLen
def wfESS (l : List (List TE)) : Prop := l.length <= maxLen /\ ∀ x ∈ l, wfES x
/- transactions and stacks that are valid; copies; what is pushed -/
def okTrans (l : List TE) : Bool := (decide (1 <= l.length) && decide (l.length <= 8)) && l.all okEdit
theorem le_one (n : Nat) : std.le 1 (std.ofN n) = decide (1 <= n) := by
  rw [s_le, s_ofN]; congr 1; simp; omega
theorem le_lit (n k : Nat) : std.le (std.ofN n) (k : Int) = decide (n <= k) := by
  rw [s_le, s_ofN]; congr 1; simp
theorem le_eight (n : Nat) : std.le (std.ofN n) 8 = decide (n <= 8) := le_lit n 8
theorem containsEdit (l : List TE) (h : l.length <= 10000000) (hs : ∀ e ∈ l, SmallE e) : Fq84 l = some (!l.all okEdit) := by
  have hb := maxLen_eq
  unfold Fq84 Fq35
  rw [bind_of (scan_first (p := fun i => !okEdit (gd l i)) (n := l.length) (fun i hi => ?_) ?_)]
  · rw [<- range_any okEdit l, <- firstI_any]
    unfold firstI
    cases (List.range l.length).find? (fun i => !okEdit (gd l i)) <;> rfl
  · simp only [Lq35_x2, lq]
    rw [ltl_f, br_f]
  · have := hs _ (gd_mem hi)
    simp only [Lq35_x2, lq, s_toNn, Fq111]
    rw [ltl_t hi, br_t, ro_ (inRl hi), impl_IsValidEdit_ok _ (show (gd l i).fN.size <= maxLen by have := this.name; omega) (show (gd l i).fl_.fN.size <= maxLen by have := this.lname; omega), obs, obs, inc_nat (by omega)]
    show br (!okEdit (gd l i)) _ _ = _
    cases okEdit (gd l i) <;> rfl
theorem impl_isTransaction_ok (l : List TE) (h : l.length <= 10000000) (hs : ∀ e ∈ l, SmallE e) : Fq26 l = some (okTrans l) := by
  unfold Fq26 okTrans
  rw [containsEdit l h hs]
  simp only [eL_, le_one, le_eight, lq]
  cases decide (1 <= l.length) <;> cases decide (l.length <= 8) <;> cases l.all okEdit <;> rfl
def okStack (l : List (List TE)) : Bool := decide (l.length <= 6) && l.all okTrans
theorem containsTrans (l : List (List TE)) (h : SmallSS l) : Fq97 l = some (!l.all okTrans) := by
  have hl := h.len
  unfold Fq97 Fq51
  rw [bind_of (scan_first (p := fun i => !okTrans (gd l i)) (n := l.length) (fun i hi => ?_) ?_)]
  · rw [<- range_any okTrans l, <- firstI_any]
    unfold firstI
    cases (List.range l.length).find? (fun i => !okTrans (gd l i)) <;> rfl
  · simp only [Lq51_x2, lq]
    rw [ltl_f, br_f]
  · obtain ⟨r1, r2⟩ := h.row _ (gd_mem hi)
    simp only [Lq51_x2, lq, s_toNn, Fq114]
    rw [ltl_t hi, br_t, ro_ (inRl hi), impl_isTransaction_ok _ (by omega) r2, obs, obs, inc_nat (by omega)]
    show br (!okTrans (gd l i)) _ _ = _
    cases okTrans (gd l i) <;> rfl
theorem impl_validHistory_ok (l : List (List TE)) (h : SmallSS l) : Fq18 l = some (okStack l) := by
  unfold Fq18 okStack
  rw [containsTrans l h]
  simp only [eL_, le_lit l.length 6, lq, show (6 : Int) = ((6 : Nat) : Int) from rfl]
  cases decide (l.length <= 6) <;> cases l.all okTrans <;> rfl
def okD (a : TD_) : Bool := okLib a.fr_ && (okStack a.fU && okStack a.fD)
theorem impl_validEditor_ok (a : TD_) (h : SmallD a) : Fq20 a = some (okD a) := by
  unfold Fq20 okD
  rw [impl_IsValidLibrary_ok _ h.cur, impl_validHistory_ok _ h.und, impl_validHistory_ok _ h.red]
  cases okLib a.fr_ <;> cases okStack a.fU <;> cases okStack a.fD <;> rfl
theorem okStack_len {l : List (List TE)} (h : okStack l = true) : l.length <= 6 := by
  unfold okStack at h
  simp only [Bool.and_eq_true, decide_eq_true_eq] at h
  exact h.1
theorem okStack_row {l : List (List TE)} (h : okStack l = true) : ∀ x ∈ l, okTrans x = true := by
  unfold okStack at h
  simp only [Bool.and_eq_true] at h
  exact List.all_eq_true.1 h.2
/-- copies -/
theorem cloneEdit_ok (l : List TE) (h : l.length <= 10000000) : Fq80 l = some l := by
  unfold Fq80 nilB
  have e : (letO ([] : List TE) fun l1 => req (std.room (std.nadd (len l1) (len l)) 184) <| letO (l1 ++ l) fun l3 => some l3) = some l := by
    simp only [lq]
    rw [ro_ (roomC (by rw [s_nadd, eL_, eL_]; simp; omega) (by omega)), List.nil_append]
  rw [e]
  by_cases h0 : l.length = 0
  · rw [List.length_eq_zero_iff.1 h0]; simp
  · rw [if_neg (by rw [eL_]; omega)]
theorem take_push {α : Type} [Inhabited α] (l : List α) (i : Nat) (h : i < l.length) : l.take i ++ [gd l i] = l.take (i + 1) := by
  rw [List.take_add_one, gd_lt h, List.getElem?_eq_getElem h]; rfl
theorem impl_copyHistory_ok (a : List (List TE)) (h : SmallSS a) : Fq25 a = some a := by
  have hl := h.len
  unfold Fq25
  refine Eq.trans (bind_of (while_from (r := a) (fun i => ((i : Int), a.take i)) a.length (by simp) (fun i hi => ?_) ?_)) rfl
  · obtain ⟨r1, r2⟩ := h.row _ (gd_mem hi)
    simp only [Lq25_x4, lq, s_toNn]
    rw [ltl_t hi, br_t, ro_ (inRl hi), cloneEdit_ok _ (show (gd a i).length <= 10000000 by omega), obs, ro_ (roomC (by rw [s_nadd, eL_, eL_]; simp; omega) (by omega)), obs, take_push a i hi, inc_nat (by omega)]
  · simp only [Lq25_x4, lq]
    rw [ltl_f, br_f, List.take_length]
/-- what is pushed; the oldest goes when there are too many -/
def pushR (s : List (List TE)) (t : List TE) : List (List TE) := if 6 < s.length + 1 then (s ++ [t]).drop 1 else s ++ [t]
theorem impl_push_ok (s : List (List TE)) (t : List TE) (h : SmallSS s) : Fq37 s t = some (pushR s t) := by
  have hl := h.len
  unfold Fq37 pushR
  rw [impl_copyHistory_ok s h]
  simp only [obs, lq]
  rw [ro_ (roomC (by simp only [s_nadd, eL_, List.length_cons, List.length_nil]; omega) (by omega)), obs, br_bool, s_ofN, eL_, s_lt]
  have e : (s ++ [t]).length = s.length + 1 := by simp
  by_cases h6 : 6 < s.length + 1
  · rw [if_pos (by rw [decide_eq_true_eq, e]; omega), if_pos h6]
    rw [ro_ (by rw [e]; exact ⟨by omega, by omega⟩), ro_ (by rw [e, s_toNn]; exact ⟨by omega, by omega⟩), ro_ (by rw [e]; exact ⟨by omega, by omega⟩)]
    simp only [e, s_toNn, s_nadd, s_nsub, show std.toN 1 = 1 from rfl, Nat.zero_add, Nat.add_sub_cancel, eL_, List.length_take, List.length_drop]
    rw [ro_ (by omega), ro_ (by omega), obs, List.take_of_length_le (by simp)]
  · rw [if_neg (by rw [decide_eq_true_eq, e]; omega), if_neg h6]
    rfl
/-- small inverses -/
theorem small_invE (a : TL) (e : TE) (h : SmallL a) (g : SmallE e) (hc : eCode a e = 0) : SmallE (invE a e) := by
  have hz : (ByteArray.mk #[]).size <= 1048576 := by decide
  have hz2 : zLa.fN.size <= 1048576 := by decide
  obtain ⟨hv, he, hcell⟩ := eCode_zero hc
  have hn : ∀ (h8 : e.fk_ ≠ 8), (gd a.fC e.fc.toNat).fN.size <= 1048576 := fun h8 => by
    obtain ⟨m, hm, hlt⟩ := hcell h8
    rw [hm, Int.toNat_natCast]
    exact (h.cell _ (gd_mem hlt)).name
  have hk := (okEdit_kind he).1
  unfold invE
  split
  · exact ⟨hz, hz2⟩
  split
  · exact ⟨hz, hz2⟩
  split
  · exact ⟨hz, hz2⟩
  split
  · rename_i h4
    have h8 : e.fk_ ≠ 8 := by omega
    obtain ⟨m, hm, hlt⟩ := hcell h8
    obtain ⟨i2, i4, i6⟩ := eCode_index hc hm hlt
    obtain ⟨q, hq, hq2⟩ := i4 h4
    refine ⟨hz, ?_⟩
    show (gd (gd a.fC e.fc.toNat).fL e.fx.toNat).fN.size <= 1048576
    rw [hm, hq, Int.toNat_natCast, Int.toNat_natCast]
    exact (h.cell _ (gd_mem hlt)).lnames _ (gd_mem hq2)
  split
  · exact ⟨hz, hz2⟩
  split
  · exact ⟨hz, hz2⟩
  split
  · rename_i h7; exact ⟨hn (by omega), hz2⟩
  split
  · exact ⟨hz, hz2⟩
  · rename_i h8; exact ⟨hn h8, hz2⟩
theorem small_back (l : List TE) (hE : ∀ e ∈ l, SmallE e) : ∀ (a : TL) (back : List TE) (i : Nat) (y : List TE × List TC), SmallL a -> (∀ e ∈ back, SmallE e) -> runs a back i l = .inr y -> (∀ e ∈ y.1, SmallE e) /\ y.1.length = back.length + l.length := by
  induction l with
  | nil => intro a back i y h hb hy; unfold runs at hy; injection hy with hy; subst hy; exact ⟨hb, by simp⟩
  | cons e r ih =>
    intro a back i y h hb hy
    unfold runs at hy
    split at hy
    · rename_i hc
      have hg := hE e (by simp)
      obtain ⟨g1, g2⟩ := ih (fun x hx => hE x (by simp [hx])) _ _ _ y (small_appE a e h hg hc) (fun x hx => by
        rcases List.mem_cons.1 hx with rfl | hx
        · exact small_invE a e h hg hc
        · exact hb x hx) hy
      exact ⟨g1, by rw [g2]; simp only [List.length_cons]; omega⟩
    · cases hy
theorem allR_back (a : TL) (l : List TE) (h : SmallL a) (hE : ∀ e ∈ l, SmallE e) : (∀ e ∈ (allR a l).2.1, SmallE e) /\ (allR a l).2.1.length <= 8 := by
  have hz : (∀ e ∈ ([] : List TE), SmallE e) /\ ([] : List TE).length <= 8 := ⟨fun e he => (by cases he), by simp⟩
  unfold allR
  split
  · split
    · rename_i hl
      cases hrr : runs a [] 0 l with
      | inl x => exact hz
      | inr y =>
        obtain ⟨g1, g2⟩ := small_back l hE a [] 0 y h (fun e he => by cases he) hrr
        exact ⟨g1, by show y.1.length <= 8; rw [g2]; simp only [List.length_nil]; omega⟩
    · exact hz
  · exact hz
theorem small_push {s : List (List TE)} {t : List TE} (h : SmallSS s) (hs : s.length <= 1000) (h1 : t.length <= 1048576) (h2 : ∀ e ∈ t, SmallE e) : SmallSS (pushR s t) := by
  have g : SmallSS (s ++ [t]) := ⟨by simp; omega, fun x hx => by
    rcases List.mem_append.1 hx with hx | hx
    · exact h.row x hx
    · rw [List.mem_singleton.1 hx]; exact ⟨h1, h2⟩⟩
  unfold pushR
  split
  · exact ⟨by have := g.len; rw [List.length_drop]; omega, fun x hx => g.row x (List.mem_of_mem_drop hx)⟩
  · exact g
/-- one transaction back: the library, the stack that it is taken from, the stack that it goes to, a code -/
def backR (a : TL) (u r : List (List TE)) : TL × List (List TE) × List (List TE) × Int :=
  if u.length = 0 then (⟨[]⟩, [], [], 5) else
  if (allR a (gd u (u.length - 1))).2.2.1 = 0 then ((allR a (gd u (u.length - 1))).1, u.take (u.length - 1), pushR r (allR a (gd u (u.length - 1))).2.1, 0) else (⟨[]⟩, [], [], (allR a (gd u (u.length - 1))).2.2.1)
theorem small_take {u : List (List TE)} (h : SmallSS u) (n : Nat) : SmallSS (u.take n) := ⟨by have := h.len; rw [List.length_take]; omega, fun x hx => h.row x (List.mem_of_mem_take hx)⟩
theorem impl_back_ok (a : TL) (u r : List (List TE)) (h : SmallL a) (hu : SmallSS u) (hr : SmallSS r) : Fq50 a u r = some (backR a u r) := by
  have hl := hu.len
  unfold Fq50 backR
  rw [br_bool, s_ofN, eL_]
  by_cases h0 : u.length = 0
  · rw [if_pos (by rw [h0]; exact eq_true' rfl), if_pos h0]
  · rw [if_neg (by rw [eq_false' (by omega)]; simp), if_neg h0]
    have e1 : std.sub .i64 (u.length : Int) 1 = ((u.length - 1 : Nat) : Int) := by rw [sub_id (by omega) (by omega)]; omega
    have hlt : u.length - 1 < u.length := by omega
    obtain ⟨r1, r2⟩ := hu.row _ (gd_mem hlt)
    rw [e1, ro_ (show std.inR ((u.length - 1 : Nat) : Int) u.length from inRl hlt), s_toNn, impl_applyAll_ok a _ h r2, obs, br_bool, s_not]
    by_cases hc : (allR a (gd u (u.length - 1))).2.2.1 = 0
    · rw [if_pos hc, hc, if_neg (by rw [eq_true' rfl]; simp), ro_ ⟨by omega, by omega⟩, ro_ ⟨by omega, by omega⟩]
      simp only [lq]
      have e2 : subL u (std.toN 0) (u.length - 1) = u.take (u.length - 1) := by unfold subL; simp [show std.toN 0 = 0 from rfl]
      rw [e2, impl_copyHistory_ok _ (small_take hu _), obs, impl_push_ok _ _ hr, obs]
    · rw [if_neg hc, if_pos (by rw [eq_false' hc]; rfl)]
theorem small_nil : SmallSS [] := ⟨by simp, fun x hx => (by cases hx)⟩
theorem small_nilL : SmallL ⟨[]⟩ := ⟨by simp, fun x hx => (by cases hx)⟩
theorem backR_small (a : TL) (u r : List (List TE)) (h : SmallL a) (hu : SmallSS u) (hr : SmallSS r) (hr6 : r.length <= 1000) : SmallL (backR a u r).1 /\ SmallSS (backR a u r).2.1 /\ SmallSS (backR a u r).2.2.1 := by
  unfold backR
  split
  · exact ⟨small_nilL, small_nil, small_nil⟩
  · rename_i h0
    obtain ⟨r1, r2⟩ := hu.row _ (gd_mem (show u.length - 1 < u.length by omega))
    split
    · obtain ⟨g1, g2⟩ := allR_back a _ h r2
      exact ⟨allR_small a _ h r2, small_take hu _, small_push hr hr6 (by omega) g1⟩
    · exact ⟨small_nilL, small_nil, small_nil⟩
/- what is drawn for edits, for transactions -/
/-- a library that edits can be drawn for -/
structure Nice (a : TL) : Prop where
  ne : 1 <= a.fC.length
  le : a.fC.length <= 1000
  row : ∀ c ∈ a.fC, c.fS.length <= 1000 /\ c.fL.length <= 1000 /\ c.fI.length <= 1000
  small : SmallL a
theorem nice_ok {a : TL} (h : SmallL a) (hv : okLib a = true) : Nice a := by
  obtain ⟨h1, h2⟩ := okLib_len hv
  refine ⟨h1, by omega, fun c hc => ?_, h⟩
  obtain ⟨i, hi, rfl⟩ := List.getElem_of_mem hc
  rw [<- gd_lt hi]
  obtain ⟨b1, b2, b3⟩ := okLib_cell hv hi
  exact ⟨by omega, by omega, by omega⟩
theorem nice_CB {a : TL} {n : Nat} (hn : n <= 1000) (h1 : 1 <= a.fC.length) (h2 : a.fC.length <= 4) (h3 : ∀ c ∈ a.fC, CB n c) (h4 : n <= 40) : Nice a :=
  ⟨h1, by omega, fun c hc => ⟨by have := (h3 c hc).shapes; omega, by have := (h3 c hc).labels; omega, by have := (h3 c hc).insts; omega⟩, OKl.small ⟨h2, fun c hc => (h3 c hc).le h4, h1⟩⟩
theorem addL {n : Nat} (h : n <= 1000) : std.add .i64 (std.ofN n) 1 <= 1000000 := by
  rw [s_ofN, add_id (by omega) (by omega)]; omega
theorem imaxB {x : Int} (h : x <= 1000) : std.imax x 1 <= 1000000 := by
  unfold std
  simp only
  first | omega | (split <;> omega)
theorem empS : (ByteArray.mk #[]).size <= 1000 := by decide
theorem oneS : (ByteArray.mk #[120]).size <= 1000 := by decide
set_option maxHeartbeats 4000000 in
theorem drawEditB_ok {s : Tl01Source} (hs : OKs s) (a : TL) (ha : Nice a) : Tot (Fq65 s a) fun r => OKs r.2 /\ SmallE r.1 := by
  obtain ⟨a1, a2, a3, _⟩ := ha
  unfold Fq65
  refine nextS hs (by omega) fun v1 _ h _ _ => nextS h (by rw [s_ofN, eL_]; omega) fun v3 s3 h v0 v3b => ?_
  rw [s_ofN, eL_] at v3b
  obtain ⟨j, rfl⟩ := Int.eq_ofNat_of_zero_le v0
  have hj : j < a.fC.length := by omega
  obtain ⟨e1, e2, e3⟩ := a3 _ (gd_mem hj)
  refine Tot.req (inRl hj) ?_
  simp only [s_nadd, s_toNn, Nat.zero_add]
  refine Tot.bind (P := fun y => OKs ⟨y.1, y.2.1, y.2.2.1⟩ /\ y.2.2.2.2.2.2.2.2.2.2.1.size <= 1000 /\ y.2.2.2.2.2.2.2.2.2.2.2.2.2.2.1.size <= 1000) (Tot.br (fun _ => ?_) fun _ => ?_) fun y hy => ?_
  · exact nextS h (addL (by rw [eL_]; omega)) fun _ _ h _ _ => Tot.bind (shape_ok h) fun r hr => Tot.ret ⟨hr, empS, empS⟩
  · refine Tot.bind (P := fun y => OKs ⟨y.1, y.2.1, y.2.2.1⟩ /\ y.2.2.2.2.2.1.size <= 1000 /\ y.2.2.2.2.2.2.2.2.2.1.size <= 1000) (Tot.br (fun _ => ?_) fun _ => ?_) fun y hy => Tot.ret ⟨hy.1, hy.2.1, hy.2.2⟩
    · exact nextS h (addL (by rw [eL_]; omega)) fun _ _ h _ _ => Tot.ret ⟨h, empS, empS⟩
    · refine Tot.bind (P := fun y => OKs ⟨y.1, y.2.1, y.2.2.1⟩ /\ y.2.2.2.2.2.2.2.2.2.1.size <= 1000 /\ y.2.2.2.2.2.2.2.1.size <= 1000) (Tot.br (fun _ => ?_) fun _ => ?_) fun y hy => Tot.ret ⟨hy.1, hy.2.1, hy.2.2⟩
      · exact nextS h (addL (by rw [eL_]; omega)) fun _ _ h _ _ => Tot.bind (label_ok h) fun r hr => Tot.ret ⟨hr.1, empS, by have := hr.2; show r.1.fN.size <= 1000; omega⟩
      · refine Tot.bind (P := fun y => OKs ⟨y.1, y.2.1, y.2.2.1⟩ /\ y.2.2.2.2.2.1.size <= 1000) (Tot.br (fun _ => ?_) fun _ => ?_) fun y hy => Tot.ret ⟨hy.1, hy.2, empS⟩
        · exact nextS h (addL (by rw [eL_]; omega)) fun _ _ h _ _ => Tot.ret ⟨h, empS⟩
        · refine Tot.bind (P := fun y => OKs ⟨y.1, y.2.1, y.2.2.1⟩ /\ y.2.2.2.2.2.2.2.2.2.2.2.2.2.size <= 1000) (Tot.br (fun _ => ?_) fun _ => ?_) fun y hy => Tot.ret ⟨hy.1, hy.2⟩
          · exact nextS h (addL (by rw [eL_]; omega)) fun _ _ h _ _ => Tot.bind (inst_ok h (imaxB (by omega))) fun r hr => Tot.ret ⟨hr, empS⟩
          · refine Tot.bind (P := fun y => OKs ⟨y.1, y.2.1, y.2.2.1⟩ /\ y.2.2.2.2.2.size <= 1000) (Tot.br (fun _ => ?_) fun _ => ?_) fun y hy => Tot.ret ⟨hy.1, hy.2⟩
            · exact nextS h (addL (by rw [eL_]; omega)) fun _ _ h _ _ => Tot.ret ⟨h, empS⟩
            · refine Tot.bind (P := fun y => OKs ⟨y.1, y.2.1, y.2.2.1⟩ /\ y.2.2.2.1.size <= 1000) (Tot.br (fun _ => ?_) fun _ => ?_) fun y hy => Tot.ret ⟨hy.1, hy.2⟩
              · exact Tot.bind (name_ok h) fun r hr => Tot.ret ⟨hr.1, by have := hr.2; show r.1.size <= 1000; omega⟩
              · refine Tot.bind (P := fun y => OKs ⟨y.1, y.2.1, y.2.2.1⟩ /\ y.2.2.2.2.size <= 1000) (Tot.br (fun _ => ?_) fun _ => ?_) fun y hy => Tot.ret ⟨hy.1, hy.2⟩
                · exact nextS h (addL (by rw [eL_]; omega)) fun _ _ h _ _ => Tot.bind (name_ok h) fun r hr => Tot.ret ⟨hr.1, by have := hr.2; show r.1.size <= 1000; omega⟩
                · exact Tot.ret ⟨h, empS⟩
  · simp only [lq]
    obtain ⟨y1, y3, y4⟩ := hy
    refine nextS y1 (by omega) fun w sw hw _ _ => ?_
    refine Tot.bind (P := fun z => z.2.2.2.1.size <= 1000 /\ OKs ⟨z.2.2.2.2.1, z.2.2.2.2.2.1, z.2.2.2.2.2.2⟩) (Tot.br (fun _ => Tot.ret ⟨y3, hw⟩) fun _ => ?_) fun z hz => ?_
    · refine Tot.bind (P := fun z => z.2.2.1.size <= 1000 /\ OKs ⟨z.2.2.2.1, z.2.2.2.2.1, z.2.2.2.2.2⟩) (Tot.br (fun _ => Tot.ret ⟨y3, hw⟩) fun _ => ?_) fun z hz => Tot.ret ⟨hz.1, hz.2⟩
      refine Tot.bind (P := fun z => z.1.size <= 1000 /\ OKs ⟨z.2.2.1, z.2.2.2.1, z.2.2.2.2⟩) (Tot.br (fun _ => Tot.ret ⟨oneS, hw⟩) fun _ => ?_) fun z hz => Tot.ret ⟨hz.1, hz.2⟩
      refine Tot.bind (P := fun z => OKs ⟨z.2.1, z.2.2.1, z.2.2.2⟩) (Tot.br (fun _ => nextS hw (by omega) fun _ _ h _ _ => Tot.ret h) fun _ => Tot.ret hw) fun z hz => Tot.ret ⟨y3, hz⟩
    · exact Tot.ret ⟨hz.2, ⟨by have := hz.1; show z.2.2.2.1.size <= 1048576; omega, by show y.2.2.2.2.2.2.2.2.2.2.2.2.2.2.1.size <= 1048576; omega⟩⟩

set_option maxHeartbeats 8000000 in
theorem drawEdits_ok {s : Tl01Source} (hs : OKs s) (a : TL) (ha : Nice a) : Tot (Fq27 s a) fun r => OKs r.2 /\ r.1.length <= 1000 /\ ∀ e ∈ r.1, SmallE e := by
  unfold Fq27
  simp only [lq]
  refine nextS hs (by omega) fun v1 s1 h v0 vb => ?_
  rw [add_id (by omega) (by omega)]
  refine Tot.bind (Tot.whileP (Post := fun r => OKs ⟨r.2.1, r.2.2.1, r.2.2.2⟩ /\ r.1.length <= 1000 /\ ∀ e ∈ r.1, SmallE e) (fun x => 0 <= x.1 /\ x.1 + x.2.2.2.2.1.length <= 10 /\ OKs ⟨x.2.1, x.2.2.1, x.2.2.2.1⟩ /\ (∀ e ∈ x.2.2.2.2.1, SmallE e) /\ Nice ⟨x.2.2.2.2.2⟩) (fun x => x.1.toNat) ⟨by show 0 <= 1 + v1; omega, by show 1 + v1 + ((0 : Nat) : Int) <= 10; omega, h, fun e he => (by cases he), ha⟩ fun x hx => ?_) fun r hr => Tot.ret hr
  obtain ⟨n, cd, at_, sd, l, cs⟩ := x
  obtain ⟨x1, x2, x3, x4, x5⟩ := hx
  simp only at x1 x2 x3 x4 x5
  unfold Lq27_x11
  simp only [lq]
  refine Tot.br (fun hlt => ?_) fun hlt => Tot.ret ⟨x3, by show l.length <= 1000; omega, x4⟩
  have hn := lt_dec hlt
  refine Tot.bind (drawEditB_ok x3 ⟨cs⟩ x5) fun e he => ?_
  refine Tot.bind (P := fun z => OKs ⟨z.1, z.2.1, z.2.2.1⟩ /\ z.2.2.2.2.2.2.1.size <= 1048576 /\ z.2.2.2.2.2.2.2.2.2.2.2.2.2.2.2.1.size <= 1048576) (Tot.whileP (fun x => 0 <= x.1 /\ x.1 <= 3 /\ OKs ⟨x.2.1, x.2.2.1, x.2.2.2.1⟩ /\ x.2.2.2.2.2.2.2.1.size <= 1048576 /\ x.2.2.2.2.2.2.2.2.2.2.2.2.2.2.2.2.1.size <= 1048576) (fun x => (3 - x.1).toNat) ⟨Int.le_refl _, by show (0 : Int) <= 3; omega, he.1, he.2.name, he.2.lname⟩ fun x hx => ?_) fun z hz => ?_
  · obtain ⟨z1, z2, z3, z4, z5⟩ := hx
    unfold Lq27_x50
    simp only [lq]
    refine Tot.bind (P := fun b => b = true -> x.1 < 3) (Tot.br (fun hb => ?_) fun _ => Tot.ret fun h => by cases h) fun b hb => Tot.br (fun h => ?_) fun _ => Tot.ret ⟨z3, z4, z5⟩
    · rw [spec_l13Code_ok ⟨cs⟩ _ x5.small ⟨z4, z5⟩, obs]
      exact Tot.ret fun _ => lt_dec hb
    · have h3 := hb h
      refine Tot.bind (drawEditB_ok z3 ⟨cs⟩ x5) fun e2 he2 => ?_
      rw [add_id (x := x.1) (by omega) (by omega)]
      exact Tot.ret ⟨⟨by show 0 <= x.1 + 1; omega, by show x.1 + 1 <= 3; omega, he2.1, he2.2.name, he2.2.lname⟩, by show (3 - (x.1 + 1)).toNat < (3 - x.1).toNat; omega⟩
  · obtain ⟨z1, z2, z3⟩ := hz
    obtain ⟨E, hE⟩ : ∃ E : TE, E = (TE.mk z.2.2.2.1 z.2.2.2.2.1 z.2.2.2.2.2.1 z.2.2.2.2.2.2.1 (TS.mk z.2.2.2.2.2.2.2.1 (TRect.mk z.2.2.2.2.2.2.2.2.1 z.2.2.2.2.2.2.2.2.2.1 z.2.2.2.2.2.2.2.2.2.2.1 z.2.2.2.2.2.2.2.2.2.2.2.1)) (TB.mk z.2.2.2.2.2.2.2.2.2.2.2.2.1 (TPoint.mk z.2.2.2.2.2.2.2.2.2.2.2.2.2.1 z.2.2.2.2.2.2.2.2.2.2.2.2.2.2.1) z.2.2.2.2.2.2.2.2.2.2.2.2.2.2.2.1) (TI.mk z.2.2.2.2.2.2.2.2.2.2.2.2.2.2.2.2.1 (TM.mk z.2.2.2.2.2.2.2.2.2.2.2.2.2.2.2.2.2.1 z.2.2.2.2.2.2.2.2.2.2.2.2.2.2.2.2.2.2.1 z.2.2.2.2.2.2.2.2.2.2.2.2.2.2.2.2.2.2.2.1) z.2.2.2.2.2.2.2.2.2.2.2.2.2.2.2.2.2.2.2.2.1 z.2.2.2.2.2.2.2.2.2.2.2.2.2.2.2.2.2.2.2.2.2.1 z.2.2.2.2.2.2.2.2.2.2.2.2.2.2.2.2.2.2.2.2.2.2.1 z.2.2.2.2.2.2.2.2.2.2.2.2.2.2.2.2.2.2.2.2.2.2.2)) := ⟨_, rfl⟩
    have hSE : SmallE E := by rw [hE]; exact ⟨z2, z3⟩
    rw [<- hE]
    refine Tot.req (roomS (by rw [s_nadd, eL_, eL_]; simp only [List.length_cons, List.length_nil]; omega) (by omega)) ?_
    rw [spec_l13Code_ok ⟨cs⟩ E x5.small hSE, obs]
    refine Tot.bind (P := fun q => Nice ⟨q⟩) (Tot.br (fun hb => ?_) fun _ => Tot.ret x5) fun q hq => ?_
    · have hc : eCode ⟨cs⟩ E = 0 := by simpa [std] using hb
      rw [spec_Copy_ok ⟨cs⟩ x5.small, obs, spec_l13Do_ok ⟨cs⟩ E x5.small hSE hc, obs]
      exact Tot.ret (nice_ok (small_appE _ E x5.small hSE hc) (inverse_law _ E hc).1)
    · rw [sub_id (x := n) (by omega) (by omega)]
      refine Tot.ret ⟨⟨by show 0 <= n - 1; omega, ?_, z1, ?_, hq⟩, by show (n - 1).toNat < n.toNat; omega⟩
      · show n - 1 + ((l ++ [E]).length : Int) <= 10
        rw [List.length_append]; simp only [List.length_cons, List.length_nil]; omega
      · intro e he
        have he' : e ∈ l ++ [E] := he
        rcases List.mem_append.1 he' with he | he
        · exact x4 e he
        · rw [List.mem_singleton.1 he]; exact hSE
/- transactions that succeed leave a valid library -/
theorem runs_inl (l : List TE) : ∀ (a : TL) (back : List TE) (i : Nat) (x : Int × Int), runs a back i l = .inl x -> x.1 ≠ 0 := by
  induction l with
  | nil => intro a back i x h; unfold runs at h; cases h
  | cons e r ih =>
    intro a back i x h
    unfold runs at h
    split at h
    · exact ih _ _ _ x h
    · rename_i hc
      injection h with h
      subst h
      exact hc
theorem runs_at (l : List TE) : ∀ (a : TL) (back : List TE) (i : Nat) (x : Int × Int), runs a back i l = .inl x -> 0 <= x.2 := by
  induction l with
  | nil => intro a back i x h; unfold runs at h; cases h
  | cons e r ih =>
    intro a back i x h
    unfold runs at h
    split at h
    · exact ih _ _ _ x h
    · injection h with h
      subst h
      exact Int.natCast_nonneg _
theorem runs_valid (l : List TE) : ∀ (a : TL) (back : List TE) (i : Nat) (y : List TE × List TC), okLib a = true -> runs a back i l = .inr y -> okLib ⟨y.2⟩ = true := by
  induction l with
  | nil => intro a back i y ha h; unfold runs at h; injection h with h; subst h; exact ha
  | cons e r ih =>
    intro a back i y ha h
    unfold runs at h
    split at h
    · rename_i hc
      exact ih _ _ _ y (inverse_law a e hc).1 h
    · cases h
theorem allR_valid (a : TL) (l : List TE) (h : (allR a l).2.2.1 = 0) : okLib (allR a l).1 = true := by
  unfold allR at h ⊢
  by_cases h1 : okLib a = true
  · simp only [if_pos h1] at h ⊢
    by_cases h2 : 1 <= l.length /\ l.length <= 8
    · simp only [if_pos h2] at h ⊢
      cases hr : runs a [] 0 l with
      | inl x =>
        rw [hr] at h
        exact absurd h (runs_inl l a [] 0 x hr)
      | inr y => exact runs_valid l a [] 0 y h1 hr
    · simp only [if_neg h2] at h
      exact absurd h (by decide)
  · simp only [if_neg h1] at h
    exact absurd h (by decide)
/- commits, undos and redos: both sides, and what they leave -/
def undoR (a : TD_) : TD_ × Int := if okD a = true then (⟨(backR a.fr_ a.fU a.fD).1, (backR a.fr_ a.fU a.fD).2.1, (backR a.fr_ a.fU a.fD).2.2.1⟩, (backR a.fr_ a.fU a.fD).2.2.2) else (⟨⟨[]⟩, [], []⟩, 1)
theorem back_zero (a : TL) (u r : List (List TE)) (h : (backR a u r).2.2.2 ≠ 0) : backR a u r = (⟨[]⟩, [], [], (backR a u r).2.2.2) := by
  unfold backR at h ⊢
  split
  · rfl
  · rename_i h0
    split
    · rename_i h1
      rw [if_neg h0, if_pos h1] at h
      exact absurd rfl h
    · rfl
theorem impl_Undo_ok (a : TD_) (h : SmallD a) : Fq62 a = some (undoR a) := by
  unfold Fq62 undoR
  change (Fq20 a).bind _ = _
  rw [impl_validEditor_ok a h, obs]
  cases hd : okD a with
  | false => rfl
  | true => rw [if_pos rfl, Bool.not_true, br_f, impl_back_ok _ _ _ h.cur h.und h.red, obs]
theorem okD_len {a : TD_} (h : okD a = true) : a.fU.length <= 6 /\ a.fD.length <= 6 := by
  unfold okD at h
  simp only [Bool.and_eq_true] at h
  exact ⟨okStack_len h.2.1, okStack_len h.2.2⟩
theorem small_zeroD : SmallD ⟨⟨[]⟩, [], []⟩ := ⟨small_nilL, small_nil, small_nil⟩
theorem undoR_small (a : TD_) (h : SmallD a) : SmallD (undoR a).1 := by
  unfold undoR
  split
  · rename_i hd
    obtain ⟨g1, g2⟩ := okD_len hd
    obtain ⟨b1, b2, b3⟩ := backR_small a.fr_ a.fU a.fD h.cur h.und h.red (by omega)
    exact ⟨b1, b2, b3⟩
  · exact small_zeroD
def redoR (a : TD_) : TD_ × Int := if okD a = true then (⟨(backR a.fr_ a.fD a.fU).1, (backR a.fr_ a.fD a.fU).2.2.1, (backR a.fr_ a.fD a.fU).2.1⟩, (backR a.fr_ a.fD a.fU).2.2.2) else (⟨⟨[]⟩, [], []⟩, 1)
theorem impl_Redo_ok (a : TD_) (h : SmallD a) : Fq83 a = some (redoR a) := by
  unfold Fq83 redoR
  change (Fq20 a).bind _ = _
  rw [impl_validEditor_ok a h, obs]
  cases hd : okD a with
  | false => rfl
  | true => rw [if_pos rfl, Bool.not_true, br_f, impl_back_ok _ _ _ h.cur h.red h.und, obs]
theorem redoR_small (a : TD_) (h : SmallD a) : SmallD (redoR a).1 := by
  unfold redoR
  split
  · rename_i hd
    obtain ⟨g1, g2⟩ := okD_len hd
    obtain ⟨b1, b2, b3⟩ := backR_small a.fr_ a.fD a.fU h.cur h.red h.und (by omega)
    exact ⟨b1, b3, b2⟩
  · exact small_zeroD
def comR (a : TD_) (l : List TE) : TD_ × Int := if okD a = true then (if (allR a.fr_ l).2.2.1 = 0 then (⟨(allR a.fr_ l).1, pushR a.fU (allR a.fr_ l).2.1, []⟩, 0) else (⟨⟨[]⟩, [], []⟩, (allR a.fr_ l).2.2.1)) else (⟨⟨[]⟩, [], []⟩, 1)
theorem impl_Commit_ok (a : TD_) (l : List TE) (h : SmallD a) (hE : ∀ e ∈ l, SmallE e) : Fq104 a l = some (comR a l) := by
  unfold Fq104 comR
  change (Fq20 a).bind _ = _
  rw [impl_validEditor_ok a h, obs]
  cases hd : okD a with
  | false => rfl
  | true =>
    rw [if_pos rfl, Bool.not_true, br_f, impl_applyAll_ok _ _ h.cur hE, obs, br_bool, s_not]
    by_cases hc : (allR a.fr_ l).2.2.1 = 0
    · rw [if_pos hc, hc, if_neg (by rw [eq_true' rfl]; simp), impl_push_ok _ _ h.und, obs]
    · rw [if_neg hc, if_pos (by rw [eq_false' hc]; rfl)]
theorem comR_small (a : TD_) (l : List TE) (h : SmallD a) (hE : ∀ e ∈ l, SmallE e) : SmallD (comR a l).1 /\ (comR a l).1.fD = [] := by
  unfold comR
  split
  · rename_i hd
    obtain ⟨g1, g2⟩ := okD_len hd
    obtain ⟨b1, b2⟩ := allR_back a.fr_ l h.cur hE
    split
    · exact ⟨⟨allR_small _ _ h.cur hE, small_push h.und (by omega) (by omega) b1, small_nil⟩, rfl⟩
    · exact ⟨small_zeroD, rfl⟩
  · exact ⟨small_zeroD, rfl⟩
theorem pushR_len (s : List (List TE)) (t : List TE) (h : s.length <= 6) : 0 < (pushR s t).length /\ (pushR s t).length <= 6 := by
  unfold pushR
  split
  · rw [List.length_drop, List.length_append]; simp only [List.length_cons, List.length_nil]; omega
  · rw [List.length_append]; simp only [List.length_cons, List.length_nil]; omega
/-- an editor that is handed back without a code is as it must be -/
def Sound (D : TD_ × Int) : Prop := D.2 = 0 -> okLib D.1.fr_ = true /\ D.1.fU.length <= 6 /\ D.1.fD.length <= 6
theorem back_sound (a : TL) (u r : List (List TE)) (hu : u.length <= 6) (hr : r.length <= 6) (h : (backR a u r).2.2.2 = 0) : okLib (backR a u r).1 = true /\ (backR a u r).2.1.length <= 6 /\ (backR a u r).2.2.1.length <= 6 /\ 0 < (backR a u r).2.2.1.length := by
  unfold backR at h ⊢
  by_cases h0 : u.length = 0
  · simp only [if_pos h0] at h
    exact absurd h (by decide)
  · simp only [if_neg h0] at h ⊢
    by_cases h1 : (allR a (gd u (u.length - 1))).2.2.1 = 0
    · simp only [if_pos h1]
      obtain ⟨p1, p2⟩ := pushR_len r (allR a (gd u (u.length - 1))).2.1 hr
      exact ⟨allR_valid _ _ h1, by rw [List.length_take]; omega, p2, p1⟩
    · simp only [if_neg h1] at h
      exact absurd h h1
theorem undo_sound (a : TD_) : Sound (undoR a) /\ ((undoR a).2 = 0 -> 0 < (undoR a).1.fD.length) := by
  unfold Sound undoR
  by_cases hd : okD a = true
  · simp only [if_pos hd]
    obtain ⟨g1, g2⟩ := okD_len hd
    exact ⟨fun h => by obtain ⟨b1, b2, b3, _⟩ := back_sound _ _ _ g1 g2 h; exact ⟨b1, b2, b3⟩, fun h => (back_sound _ _ _ g1 g2 h).2.2.2⟩
  · simp only [if_neg hd]
    exact ⟨fun h => absurd h (by decide), fun h => absurd h (by decide)⟩
theorem redo_sound (a : TD_) : Sound (redoR a) := by
  unfold Sound redoR
  by_cases hd : okD a = true
  · simp only [if_pos hd]
    obtain ⟨g1, g2⟩ := okD_len hd
    exact fun h => by obtain ⟨b1, b2, b3, _⟩ := back_sound _ _ _ g2 g1 h; exact ⟨b1, b3, b2⟩
  · simp only [if_neg hd]
    exact fun h => absurd h (by decide)
theorem com_sound (a : TD_) (l : List TE) : Sound (comR a l) /\ ((comR a l).2 = 0 -> 0 < (comR a l).1.fU.length) := by
  unfold Sound comR
  by_cases hd : okD a = true
  · simp only [if_pos hd]
    obtain ⟨g1, g2⟩ := okD_len hd
    by_cases hc : (allR a.fr_ l).2.2.1 = 0
    · simp only [if_pos hc]
      obtain ⟨p1, p2⟩ := pushR_len a.fU (allR a.fr_ l).2.1 g1
      exact ⟨fun _ => ⟨allR_valid _ _ hc, p2, by simp⟩, fun _ => p1⟩
    · simp only [if_neg hc]
      exact ⟨fun h => absurd h hc, fun h => absurd h hc⟩
  · simp only [if_neg hd]
    exact ⟨fun h => absurd h (by decide), fun h => absurd h (by decide)⟩
/-- an editor that edits can be drawn for -/
def DrawD (a : TD_) : Prop := SmallD a /\ Nice a.fr_ /\ a.fU.length <= 6 /\ a.fD.length <= 6
theorem drawD_of {D : TD_ × Int} (h : SmallD D.1) (hs : Sound D) (h0 : D.2 = 0) : DrawD D.1 := ⟨h, nice_ok h.cur (hs h0).1, (hs h0).2.1, (hs h0).2.2⟩
theorem wf_byteE {x : Int} (h : wfI .u8 x) : 0 <= x /\ x <= 255 := by
  have h' : (Lit.int .u8 x).wf = true := h
  have e1 : IntKind.min .u8 = 0 := rfl
  have e2 : IntKind.max .u8 = 255 := rfl
  simp [Lit.wf] at h'
  omega
/- libraries compared by the program -/
theorem eqShapes (l : List TS) (h : l.length <= 10000000) : Fq34 l l = some true := by
  unfold Fq34
  rw [notEq (eq_true' rfl), br_f, while_eq (r := .inr ()) l.length (fun i hi => by
    simp only [Lq34_x2, lq, s_toNn, eq_true' rfl, s_band, Bool.and_self, s_not, Bool.not_true]
    rw [ltl_t hi, br_t, ro_ (inRl hi), ro_ (inRl hi), br_f, inc_nat (by omega)]) (by
    simp only [Lq34_x2, lq]
    rw [ltl_f, br_f]), obs]
theorem eqLabels (l : List TB) (h : l.length <= 10000000) : Fq33 l l = some true := by
  unfold Fq33
  rw [notEq (eq_true' rfl), br_f, while_eq (r := .inr ()) l.length (fun i hi => by
    simp only [Lq33_x2, lq, s_toNn, eq_true' rfl, seq_self, s_band, Bool.and_self, s_not, Bool.not_true]
    rw [ltl_t hi, br_t, ro_ (inRl hi), ro_ (inRl hi), br_f, inc_nat (by omega)]) (by
    simp only [Lq33_x2, lq]
    rw [ltl_f, br_f]), obs]
theorem eqInsts (l : List TI) (h : l.length <= 10000000) : Fq32 l l = some true := by
  unfold Fq32
  rw [notEq (eq_true' rfl), br_f, while_eq (r := .inr ()) l.length (fun i hi => by
    simp only [Lq32_x2, lq, s_toNn, eq_true' rfl, s_band, Bool.and_self, s_not, Bool.not_true]
    rw [ltl_t hi, br_t, ro_ (inRl hi), ro_ (inRl hi), br_f, inc_nat (by omega)]) (by
    simp only [Lq32_x2, lq]
    rw [ltl_f, br_f]), obs]
theorem sameCell_ok (c : TC) (h : SmallC c) : Fq78 c c = some true := by
  unfold Fq78
  rw [seq_self, br_t, eqShapes _ (by have := h.shapes; omega), obs, br_t, eqLabels _ (by have := h.labels; omega), obs, br_t, eqInsts _ (by have := h.insts; omega)]
  rfl
theorem impl_SameLibrary_ok (a : TL) (h : SmallL a) (hv : okLib a = true) : Fq59 a a = some true := by
  have h8 := (okLib_len hv).2
  unfold Fq59
  rw [show TL.mk a.fC = a from rfl, impl_IsValidLibrary_ok _ h, obs, hv, br_t, obs, br_t]
  unfold Fq53
  rw [notEq (eq_true' rfl), br_f, while_eq (r := .inr ()) a.fC.length (fun i hi => by
    simp only [Lq53_x2, lq, s_toNn]
    rw [ltl_t hi, br_t, ro_ (inRl hi), ro_ (inRl hi), sameCell_ok _ (h.cell _ (gd_mem hi)), obs, Bool.not_true, br_f, inc_nat (by omega)]) (by
    simp only [Lq53_x2, lq]
    rw [ltl_f, br_f]), obs]
  rfl
/- what is drawn for transactions -/
theorem drawApplyEdits_of {s : Tl01Source} (hs : OKs s) {β : Type} {Q : β -> Prop} {k : TL -> List TE -> Option β} (hk : ∀ a l, SmallL a -> l.length <= 3000 -> (∀ e ∈ l, SmallE e) -> Tot (k a l) Q) :
    Tot ((((
        (Fq5 s).bind fun y14 =>
        some (([] : List TC), y14.2.gcode, y14.2.gat, y14.2.gseed, y14.1.fC)
    ) : Option ((List TC) × (List Int) × Int × Int × (List TC))).bind fun y3 =>
  letO y3.1 fun w9 =>
  letO y3.2.1 fun w10 =>
  letO y3.2.2.1 fun w11 =>
  letO y3.2.2.2.1 fun w12 =>
  letO y3.2.2.2.2 fun w13 =>
  (Fq27 (Tl01Source.mk w10 w11 w12) (TL.mk w13)).bind fun y16 =>
  (Fq0 y16.2 20).bind fun y18 =>
  ((
        br (std.eq y18.1 0)
        (((
              req (std.room (std.nadd (len y16.1) (len y16.1)) 184) <|
              letO (y16.1 ++ y16.1) fun l35 =>
              req (std.room (std.nadd (len l35) (len y16.1)) 184) <|
              letO (l35 ++ y16.1) fun l37 =>
              some l37
          ) : Option ((List TE))).bind fun y27 =>
        letO y27 fun w33 =>
        some w33)
        (some y16.1)
    ) : Option ((List TE))).bind fun y20 =>
  letO y20 fun w26 =>
  k (TL.mk w13) w26)) Q := by
  refine Tot.bind (P := fun y : List TC × List Int × Int × Int × List TC => OKs ⟨y.2.1, y.2.2.1, y.2.2.2.1⟩ /\ Nice ⟨y.2.2.2.2⟩) (Tot.bind (library_ok hs) fun L hL => Tot.ret ⟨hL.1, nice_CB (n := 4) (by omega) hL.2.1 hL.2.2.1 (fun c hc => hL.2.2.2 c hc) (by omega)⟩) fun y hy => ?_
  simp only [lq]
  refine Tot.bind (drawEdits_ok hy.1 _ hy.2) fun l hl => nextS hl.1 (by omega) fun v s1 h _ _ => ?_
  refine Tot.bind (P := fun q : List TE => q.length <= 3000 /\ ∀ e ∈ q, SmallE e) (Tot.br (fun _ => ?_) fun _ => Tot.ret ⟨by omega, hl.2.2⟩) fun q hq => hk _ _ hy.2.small hq.1 hq.2
  refine Tot.bind (P := fun q : List TE => q.length <= 3000 /\ ∀ e ∈ q, SmallE e) (Tot.req (roomC (by rw [s_nadd, eL_]; omega) (by omega)) (Tot.req (roomC (by rw [s_nadd, eL_, eL_, List.length_append]; omega) (by omega)) (Tot.ret ⟨by simp only [List.length_append]; omega, fun e he => ?_⟩))) fun q hq => Tot.ret hq
  rw [List.mem_append, List.mem_append] at he
  rcases he with (he | he) | he <;> exact hl.2.2 e he
theorem drawApplyEdits_ok {c : List Int} (hc : OKc c) : Tot (Fq67 c) fun r => SmallL r.1 /\ r.2.length <= 3000 /\ ∀ e ∈ r.2, SmallE e := by
  unfold Fq67
  exact Tot.bind (from_ok hc) fun s hs => drawApplyEdits_of hs fun a l h1 h2 h3 => Tot.ret ⟨h1, h2, h3⟩
theorem wf_byteU {x : Int} (h : wfI .u8 x) : 0 <= x /\ x <= 255 := by
  have h' : (Lit.int .u8 x).wf = true := h
  have e1 : IntKind.min .u8 = 0 := rfl
  have e2 : IntKind.max .u8 = 255 := rfl
  simp [Lit.wf] at h'
  omega
/- what undoes a transaction, and what undoes that -/
theorem runs_inv (l : List TE) : ∀ (a : TL) (back : List TE) (i : Nat) (y : List TE × List TC), runs a back i l = .inr y ->
    ∃ p, y.1 = p ++ back /\ p.length = l.length /\ (∀ e ∈ p, okEdit e = true) /\ ∀ (b2 : List TE) (j : Nat) (q : List TE), ∃ b3, runs ⟨y.2⟩ b2 j (p ++ q) = runs a b3 (j + l.length) q := by
  induction l with
  | nil =>
    intro a back i y h
    unfold runs at h
    injection h with h
    subst h
    exact ⟨[], rfl, rfl, fun e he => (by cases he), fun b2 j q => ⟨b2, rfl⟩⟩
  | cons e r ih =>
    intro a back i y h
    unfold runs at h
    split at h
    · rename_i hc
      obtain ⟨i1, i2, i3⟩ := inverse_law a e hc
      obtain ⟨p, h1, h2, h3, h4⟩ := ih _ _ _ y h
      refine ⟨p ++ [invE a e], by rw [h1, List.append_assoc]; rfl, by simp [h2], fun x hx => ?_, fun b2 j q => ?_⟩
      · rcases List.mem_append.1 hx with hx | hx
        · exact h3 x hx
        · rw [List.mem_singleton.1 hx]; exact (eCode_zero i2).2.1
      · obtain ⟨b3, hb⟩ := h4 b2 j (invE a e :: q)
        refine ⟨invE (appE a e) (invE a e) :: b3, ?_⟩
        rw [List.append_assoc]
        refine hb.trans ?_
        conv => lhs; unfold runs
        rw [if_pos i2, i3]
        have e1 : j + r.length + 1 = j + (e :: r).length := by simp only [List.length_cons]; omega
        rw [e1]
    · cases h
theorem allR_inv (a : TL) (l : List TE) (h : (allR a l).2.2.1 = 0) : okTrans (allR a l).2.1 = true /\ (allR (allR a l).1 (allR a l).2.1).2.2.1 = 0 /\ (allR (allR a l).1 (allR a l).2.1).1 = a := by
  have hval := allR_valid a l h
  unfold allR at h
  by_cases h1 : okLib a = true
  · by_cases h2 : 1 <= l.length /\ l.length <= 8
    · simp only [if_pos h1, if_pos h2] at h
      cases hr : runs a [] 0 l with
      | inl x =>
        rw [hr] at h
        exact absurd h (runs_inl l a [] 0 x hr)
      | inr y =>
        have e : allR a l = (⟨y.2⟩, y.1, 0, -1) := by
          unfold allR
          rw [if_pos h1, if_pos h2, hr]
        rw [e] at hval ⊢
        simp only at hval ⊢
        obtain ⟨p, p1, p2, p3, p4⟩ := runs_inv l a [] 0 y hr
        rw [List.append_nil] at p1
        rw [p1]
        obtain ⟨b3, hb⟩ := p4 [] 0 []
        rw [List.append_nil] at hb
        have hn : 1 <= p.length /\ p.length <= 8 := by omega
        refine ⟨?_, ?_⟩
        · unfold okTrans
          rw [decide_eq_true hn.1, decide_eq_true hn.2, List.all_eq_true.2 p3]
          rfl
        · unfold allR
          rw [if_pos hval, if_pos hn, hb]
          unfold runs
          exact ⟨rfl, rfl⟩
    · simp only [if_pos h1, if_neg h2] at h
      exact absurd h (by decide)
  · simp only [if_neg h1] at h
    exact absurd h (by decide)
/-- b leads from s to t -/
def Edge (s : TL) (b : List TE) (t : TL) : Prop := okTrans b = true /\ (allR s b).2.2.1 = 0 /\ (allR s b).1 = t
theorem Edge.back {s t : TL} {b : List TE} (h : Edge s b t) : Edge t (allR s b).2.1 s := by
  obtain ⟨h1, h2, h3⟩ := h
  obtain ⟨i1, i2, i3⟩ := allR_inv s b h2
  rw [h3] at i2 i3
  exact ⟨i1, i2, i3⟩
/-- the editor stands at state k of S -/
structure At (S : List TL) (k : Nat) (E : TD_) : Prop where
  len : S.length <= 6
  lt : k < S.length
  ok : ∀ s ∈ S, okLib s = true
  sm : SmallD E
  cur : E.fr_ = gd S k
  ul : E.fU.length = k
  un : ∀ j, j < k -> Edge (gd S (j + 1)) (gd E.fU j) (gd S j)
  rl : E.fD.length + k + 1 = S.length
  re : ∀ j, j < E.fD.length -> Edge (gd S (S.length - 2 - j)) (gd E.fD j) (gd S (S.length - 1 - j))
theorem okStack_of {l : List (List TE)} (h1 : l.length <= 6) (h2 : ∀ j, j < l.length -> okTrans (gd l j) = true) : okStack l = true := by
  unfold okStack
  rw [decide_eq_true h1, Bool.true_and, List.all_eq_true]
  intro x hx
  obtain ⟨j, hj, rfl⟩ := List.getElem_of_mem hx
  rw [<- gd_lt hj]
  exact h2 j hj
theorem At.okD {S : List TL} {k : Nat} {E : TD_} (h : At S k E) : okD E = true := by
  have h1 := h.len; have h2 := h.lt; have h3 := h.rl; have h4 := h.ul
  unfold Go.Proofs.YtfoefnkbiofejaaGreat.AM.okD
  rw [h.cur, h.ok _ (gd_mem h.lt), okStack_of (by omega) (fun j hj => (h.un j (by omega)).1), okStack_of (by omega) (fun j hj => (h.re j hj).1)]
  rfl
theorem pushR_eq {s : List (List TE)} {t : List TE} (h : s.length <= 5) : pushR s t = s ++ [t] := by unfold pushR; rw [if_neg (by omega)]
theorem gd_push {α : Type} [Inhabited α] (l : List α) (x : α) : gd (l ++ [x]) l.length = x := by
  rw [gd_lt (by simp)]; simp
theorem gd_push' {α : Type} [Inhabited α] (l : List α) (x : α) {j : Nat} (h : j < l.length) : gd (l ++ [x]) j = gd l j := by
  rw [gd_lt (by simp; omega), gd_lt h, List.getElem_append_left h]
theorem gd_take {α : Type} [Inhabited α] (l : List α) {j n : Nat} (h : j < n) (hn : n <= l.length) : gd (l.take n) j = gd l j := by
  rw [gd_lt (by rw [List.length_take]; omega), gd_lt (show j < l.length by omega), List.getElem_take]
theorem At.undo {S : List TL} {k : Nat} {E : TD_} (h : At S (k + 1) E) : (undoR E).2 = 0 /\ At S k (undoR E).1 := by
  have hsm := undoR_small E h.sm
  have h1 := h.len; have h2 := h.lt; have h3 := h.rl; have h4 := h.ul
  have he := h.un k (by omega)
  have hu : E.fU.length - 1 = k := by omega
  have hb := he.back
  obtain ⟨g1, g2, g3⟩ := he
  have hr : undoR E = (⟨gd S k, E.fU.take k, E.fD ++ [(allR (gd S (k + 1)) (gd E.fU k)).2.1]⟩, 0) := by
    unfold undoR backR
    rw [if_pos h.okD, if_neg (by omega), hu, h.cur, if_pos g2, g3, pushR_eq (by omega)]
  rw [hr] at hsm ⊢
  refine ⟨rfl, h1, by omega, h.ok, hsm, rfl, by show (E.fU.take k).length = k; rw [List.length_take]; omega, fun j hj => ?_, by show (E.fD ++ [_]).length + k + 1 = _; rw [List.length_append]; simp only [List.length_cons, List.length_nil]; omega, fun j hj => ?_⟩
  · show Edge _ (gd (E.fU.take k) j) _
    rw [gd_take _ hj (by omega)]
    exact h.un j (by omega)
  · have hj' : j < E.fD.length + 1 := by simpa using hj
    show Edge _ (gd (E.fD ++ [_]) j) _
    by_cases hq : j < E.fD.length
    · rw [gd_push' _ _ hq]; exact h.re j hq
    · have : j = E.fD.length := by omega
      subst this
      rw [gd_push, show S.length - 2 - E.fD.length = k by omega, show S.length - 1 - E.fD.length = k + 1 by omega]
      exact hb
theorem At.redo {S : List TL} {k : Nat} {E : TD_} (h : At S k E) (hk : k + 1 < S.length) : (redoR E).2 = 0 /\ At S (k + 1) (redoR E).1 := by
  have hsm := redoR_small E h.sm
  have h1 := h.len; have h2 := h.lt; have h3 := h.rl; have h4 := h.ul
  obtain ⟨m, hm⟩ : ∃ m, E.fD.length = m + 1 := ⟨E.fD.length - 1, by omega⟩
  have he := h.re m (by omega)
  rw [show S.length - 2 - m = k by omega, show S.length - 1 - m = k + 1 by omega] at he
  have hu : E.fD.length - 1 = m := by omega
  have hb := he.back
  obtain ⟨g1, g2, g3⟩ := he
  have hr : redoR E = (⟨gd S (k + 1), E.fU ++ [(allR (gd S k) (gd E.fD m)).2.1], E.fD.take m⟩, 0) := by
    unfold redoR backR
    rw [if_pos h.okD, if_neg (by omega), hu, h.cur, if_pos g2, g3, pushR_eq (by omega)]
  rw [hr] at hsm ⊢
  refine ⟨rfl, h1, hk, h.ok, hsm, rfl, by show (E.fU ++ [_]).length = k + 1; rw [List.length_append]; simp only [List.length_cons, List.length_nil]; omega, fun j hj => ?_, by show (E.fD.take m).length + (k + 1) + 1 = _; rw [List.length_take]; omega, fun j hj => ?_⟩
  · show Edge _ (gd (E.fU ++ [_]) j) _
    by_cases hq : j < E.fU.length
    · rw [gd_push' _ _ hq]; exact h.un j (by omega)
    · have : j = E.fU.length := by omega
      subst this
      rw [gd_push, h4]
      exact hb
  · have hj' : j < m := by
      have : j < (E.fD.take m).length := hj
      rw [List.length_take] at this
      omega
    show Edge _ (gd (E.fD.take m) j) _
    rw [gd_take _ hj' (by omega)]
    exact h.re j (by omega)
theorem At.none {S : List TL} {E : TD_} (h : At S 0 E) : (undoR E).2 = 5 := by
  unfold undoR backR
  rw [if_pos h.okD, if_pos h.ul]
theorem At.new {a : TL} (h : SmallL a) (hv : okLib a = true) : At [a] 0 ⟨a, [], []⟩ :=
  ⟨by simp, by simp, fun s hs => by rw [List.mem_singleton.1 hs]; exact hv, ⟨h, small_nil, small_nil⟩, rfl, rfl, fun j hj => by omega, rfl, fun j hj => by cases hj⟩
/-- a commit at the last state -/
theorem At.com {S : List TL} {k : Nat} {E : TD_} (h : At S k E) (hk : k + 1 = S.length) (h5 : S.length <= 5) {l : List TE} (hE : ∀ e ∈ l, SmallE e) (h0 : (comR E l).2 = 0) : At (S ++ [(comR E l).1.fr_]) (k + 1) (comR E l).1 := by
  have h2 := h.lt; have h3 := h.rl; have h4 := h.ul
  have hsm := (comR_small E l h.sm hE).1
  have hc : (allR (gd S k) l).2.2.1 = 0 := by
    unfold comR at h0
    rw [if_pos h.okD, h.cur] at h0
    by_cases hc : (allR (gd S k) l).2.2.1 = 0
    · exact hc
    · rw [if_neg hc] at h0; exact absurd h0 hc
  have hr : comR E l = (⟨(allR (gd S k) l).1, E.fU ++ [(allR (gd S k) l).2.1], []⟩, 0) := by
    unfold comR
    rw [if_pos h.okD, h.cur, if_pos hc, pushR_eq (by omega)]
  have hv := allR_valid _ _ hc
  obtain ⟨i1, i2, i3⟩ := allR_inv _ _ hc
  rw [hr] at hsm ⊢
  generalize allR (gd S k) l = A at *
  refine ⟨by rw [List.length_append]; simp only [List.length_cons, List.length_nil]; omega, by rw [List.length_append]; simp only [List.length_cons, List.length_nil]; omega, fun s hs => ?_, hsm, ?_, by show (E.fU ++ [_]).length = k + 1; rw [List.length_append]; simp only [List.length_cons, List.length_nil]; omega, fun j hj => ?_, by rw [List.length_append]; simp only [List.length_cons, List.length_nil]; omega, fun j hj => by cases hj⟩
  · rcases List.mem_append.1 hs with hs | hs
    · exact h.ok s hs
    · rw [List.mem_singleton.1 hs]; exact hv
  · show A.1 = gd (S ++ [A.1]) (k + 1)
    rw [hk, gd_push]
  · show Edge (gd (S ++ [A.1]) (j + 1)) (gd (E.fU ++ [A.2.1]) j) (gd (S ++ [A.1]) j)
    by_cases hq : j < E.fU.length
    · rw [gd_push' _ _ (show j + 1 < S.length by omega), gd_push' _ _ hq, gd_push' _ _ (show j < S.length by omega)]
      exact h.un j (by omega)
    · have hj2 : j = k := by omega
      subst hj2
      rw [hk, gd_push, gd_push' S _ (show j < S.length by omega)]
      have : gd (E.fU ++ [A.2.1]) j = A.2.1 := by rw [<- h4, gd_push]
      rw [this]
      exact ⟨i1, i2, i3⟩
/- another code -/
theorem other_ok {c : List Int} (h : c.length <= 4096 /\ ∀ b ∈ c, 0 <= b /\ b <= 255) {k : Int} (hk : k = 3 \/ k = 5) : Tot (Fq77 c k) OKc := by
  unfold Fq77
  simp only [lq]
  rw [ro_ (roomC (by simp only [s_nadd, eL_, List.length_cons, List.length_nil]; omega) (by omega))]
  refine Tot.ret ⟨by simp only [List.length_append, List.length_cons, List.length_nil]; omega, fun b hb => ?_⟩
  have e : [k, std.add .u8 k 7, std.mul .u8 3 k] = [3, 10, 9] \/ [k, std.add .u8 k 7, std.mul .u8 3 k] = [5, 12, 15] := by
    rcases hk with rfl | rfl
    · exact .inl rfl
    · exact .inr rfl
  rcases List.mem_append.1 hb with hb | hb
  · rcases e with e | e <;> rw [e] at hb <;> simp only [List.mem_cons, List.not_mem_nil, or_false] at hb <;> rcases hb with rfl | rfl | rfl <;> omega
  · exact h.2 b hb
/- the law of undos and redos -/
theorem impl_NewEditor_ok (a : TL) (h : SmallL a) : Fq76 a = some (if okLib a then (⟨a, [], []⟩, true) else (⟨⟨[]⟩, [], []⟩, false)) := by
  unfold Fq76
  rw [show TL.mk a.fC = a from rfl, impl_IsValidLibrary_ok a h, obs, impl_copyLibrary_ok a h]
  cases okLib a <;> rfl
theorem At.small {S : List TL} {k : Nat} {E : TD_} (h : At S k E) : SmallL (gd S k) := by have := h.sm.cur; rw [h.cur] at this; exact this
theorem sameL {S : List TL} {k : Nat} {E : TD_} (h : At S k E) : Fq59 E.fr_ (gd S k) = some true := by
  rw [h.cur]
  exact impl_SameLibrary_ok _ h.small (h.ok _ (gd_mem h.lt))
theorem com_loop (l : List (List TE)) (hl : l.length = 4) (hE : ∀ x ∈ l, ∀ e ∈ x, SmallE e) : ∀ (m i : Nat) (S : List TL) (k : Nat) (E : TD_), i + m = 4 -> At S k E -> k + 1 = S.length -> S.length <= i + 1 -> E.fD = [] ->
    ∃ S' k' E', whileP (Lq9_x37 l) ((i : Int), E.fr_.fC, E.fU, E.fD, S) = some (E'.fr_.fC, E'.fU, E'.fD, S') /\ At S' k' E' /\ k' + 1 = S'.length := by
  intro m
  induction m with
  | zero =>
    intro i S k E hi hA hk hS hr
    refine ⟨S, k, E, ?_, hA, hk⟩
    have : i = l.length := by omega
    subst this
    rw [whileP_unfold]
    simp only [Lq9_x37, lq]
    rw [ltl_f, br_f]
  | succ m ih =>
    intro i S k E hi hA hk hS hr
    have hil : i < l.length := by omega
    have hg := hE _ (gd_mem hil)
    rw [whileP_unfold]
    simp only [Lq9_x37, lq, s_toNn, s_nadd, Nat.zero_add]
    rw [ltl_t hil, br_t, ro_ (inRl hil), show TD_.mk (TL.mk E.fr_.fC) E.fU E.fD = E from rfl, impl_Commit_ok E _ hA.sm hg]
    simp only [obs]
    have hz := (comR_small E (gd l i) hA.sm hg).2
    by_cases h0 : (comR E (gd l i)).2 = 0
    · have hA' := hA.com hk (by omega) hg h0
      rw [eq_true' h0, br_t, ro_ (roomC (by simp only [s_nadd, eL_, List.length_cons, List.length_nil]; omega) (by omega)), obs]
      simp only
      rw [inc_nat (by omega)]
      have e : TL.mk (comR E (gd l i)).1.fr_.fC = (comR E (gd l i)).1.fr_ := rfl
      rw [e, <- hz]
      exact ih (i + 1) _ (k + 1) _ (by omega) hA' (by rw [List.length_append]; simp only [List.length_cons, List.length_nil]; omega) (by rw [List.length_append]; simp only [List.length_cons, List.length_nil]; omega) hz
    · rw [eq_false' h0, br_f, obs]
      simp only
      rw [inc_nat (by omega)]
      exact ih (i + 1) S k E (by omega) hA hk (by omega) hr
theorem undo_loop (S : List TL) : ∀ (k : Nat) (E : TD_), At S k E ->
    ∃ E', whileP (Lq9_x87 S) ((k : Int) - 1, E.fr_.fC, E.fU, E.fD) = some (.inr (E'.fr_.fC, E'.fU, E'.fD)) /\ At S 0 E' := by
  intro k
  induction k with
  | zero =>
    intro E hA
    refine ⟨E, ?_, hA⟩
    rw [whileP_unfold]
    simp only [Lq9_x87, lq]
    rw [le_false (by omega), br_f]
  | succ k ih =>
    intro E hA
    obtain ⟨u0, uA⟩ := hA.undo
    obtain ⟨E', e1, e2⟩ := ih _ uA
    refine ⟨E', ?_, e2⟩
    have hlt := uA.lt
    have h6 := hA.len
    rw [whileP_unfold]
    have ek : ((k + 1 : Nat) : Int) - 1 = (k : Int) := by omega
    rw [ek]
    simp only [Lq9_x87, lq, s_toNn, s_nadd, Nat.zero_add]
    rw [le_true (by omega), br_t, show TD_.mk (TL.mk E.fr_.fC) E.fU E.fD = E from rfl, impl_Undo_ok E hA.sm]
    simp only [obs]
    rw [u0, notEq (eq_true' rfl), br_f, ro_ (inRl hlt), show TL.mk (undoR E).1.fr_.fC = (undoR E).1.fr_ from rfl, sameL uA]
    simp only [obs]
    rw [Bool.not_true, br_f, sub_id (by omega) (by omega)]
    exact e1
theorem redo_loop (S : List TL) : ∀ (m k : Nat) (E : TD_), k + 1 + m = S.length -> At S k E ->
    whileP (Lq9_x134 S) (((k + 1 : Nat) : Int), E.fr_.fC, E.fU, E.fD) = some (.inr ()) := by
  intro m
  induction m with
  | zero =>
    intro k E hk hA
    rw [whileP_unfold]
    simp only [Lq9_x134, lq]
    rw [show k + 1 = S.length by omega, ltl_f, br_f]
  | succ m ih =>
    intro k E hk hA
    obtain ⟨u0, uA⟩ := hA.redo (by omega)
    have hlt := uA.lt
    have h6 := hA.len
    rw [whileP_unfold]
    simp only [Lq9_x134, lq, s_toNn, s_nadd, Nat.zero_add]
    rw [ltl_t hlt, br_t, show TD_.mk (TL.mk E.fr_.fC) E.fU E.fD = E from rfl, impl_Redo_ok E hA.sm]
    simp only [obs]
    rw [u0, notEq (eq_true' rfl), br_f, ro_ (inRl hlt), sameL uA]
    simp only [obs]
    rw [Bool.not_true, br_f, inc_nat (by omega)]
    exact ih (k + 1) _ (by omega) uA
theorem lawW_Undo (c : List Int) (w : (wfL (wfI .u8)) c) : Fq9 c = some true := by
  unfold Fq9 Fq105
  rw [obs, eL_, s_ofN, s_lt, br_dec]
  by_cases h0 : (4096 : Int) < (c.length : Int)
  · rw [if_pos h0]
  · rw [if_neg h0]
    have hc : c.length <= 4096 /\ ∀ b ∈ c, 0 <= b /\ b <= 255 := ⟨by omega, fun b hb => wf_byteU (w.2 b hb)⟩
    obtain ⟨⟨a, l⟩, hd, ha, hll, hE⟩ := drawApplyEdits_ok (c := c) ⟨by have := hc.1; omega, hc.2⟩
    obtain ⟨c2, hd2, hc2⟩ := other_ok hc (k := 3) (.inl rfl)
    obtain ⟨⟨a2, l2⟩, hd3, ha2, hll2, hE2⟩ := drawApplyEdits_ok hc2
    simp only at ha hll hE hE2
    rw [hd, hd2]
    simp only [obs, lq]
    rw [hd3]
    simp only [obs]
    rw [show TL.mk a.fC = a from rfl, impl_NewEditor_ok a ha, obs]
    cases hv : okLib a with
    | false =>
      simp only [Bool.false_eq_true, if_false]
      rw [Bool.not_false, br_t, spec_IsValidLibrary_ok a ha, obs, hv]
      rfl
    | true =>
      simp only [if_true]
      rw [Bool.not_true, br_f]
      have hx : ∀ x ∈ [l, l2, l, l2], ∀ e ∈ x, SmallE e := fun x hx => by
        simp only [List.mem_cons, List.not_mem_nil, or_false] at hx
        rcases hx with rfl | rfl | rfl | rfl <;> assumption
      obtain ⟨S, k, E, w1, hA, hk⟩ := com_loop [l, l2, l, l2] rfl hx 4 0 [a] 0 ⟨a, [], []⟩ rfl (At.new ha hv) rfl (by simp) rfl
      rw [show ((0 : Nat) : Int) = 0 from rfl] at w1
      rw [w1]
      simp only [obs]
      obtain ⟨E0, w2, hA0⟩ := undo_loop S k E hA
      have h6 := hA.len
      have e1 : std.sub .i64 (std.ofN (len S)) 2 = (k : Int) - 1 := by
        rw [eL_, s_ofN, sub_id (by omega) (by omega)]; omega
      rw [e1, w2]
      simp only [obs]
      rw [show TD_.mk (TL.mk E0.fr_.fC) E0.fU E0.fD = E0 from rfl, impl_Undo_ok E0 hA0.sm]
      simp only [obs]
      have w3 := redo_loop S (S.length - 1) 0 E0 (by have := hA0.lt; omega) hA0
      rw [show ((0 + 1 : Nat) : Int) = 1 from rfl] at w3
      rw [w3]
      simp only [obs]
      rw [eq_true' hA0.none]
end
end Go.Proofs.YtfoefnkbiofejaaGreat.AM
