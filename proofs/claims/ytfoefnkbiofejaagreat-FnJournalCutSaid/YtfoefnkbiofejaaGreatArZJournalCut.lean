/-
  What the functions that the law reaches compute, and that they do. No condition.
-/
import Derived.Test.YtfoefnkbiofejaaGreatArSZ
namespace Go.Proofs.YtfoefnkbiofejaaGreat.AM
noncomputable section
open Go Go.Proofs Go.RowKit
set_option linter.unusedVariables false
set_option linter.unusedSimpArgs false
set_option maxRecDepth 100000

/- an edit and its inverse -/
theorem del_ins {α : Type} (l : List α) (q : Nat) (x : α) (h : q <= l.length) : delA (insA l q x) q = l := by
  have hl : (List.take q l).length = q := by simp; omega
  unfold delA insA
  rw [List.append_assoc, List.take_left' hl]
  have e : List.drop (q + 1) (List.take q l ++ ([x] ++ List.drop q l)) = List.drop q l := by
    rw [<- List.drop_drop, List.drop_left' hl]
    rfl
  rw [e, List.take_append_drop]
theorem ins_del {α : Type} [Inhabited α] (l : List α) (q : Nat) (h : q < l.length) : insA (delA l q) q (gd l q) = l := by
  have hl : (List.take q l).length = q := by simp; omega
  unfold delA insA
  rw [List.take_left' hl, List.drop_left' hl, List.append_assoc, List.singleton_append, gd_lt h, <- List.drop_eq_getElem_cons h, List.take_append_drop]
theorem shI_back (m : Int) (i : TI) (hm : 0 <= m /\ m <= 1000) (hi : 0 <= i.fc /\ i.fc <= 1000) : shI m (-1) (shI m 1 i) = i := by
  unfold shI
  by_cases h : m <= i.fc
  · have e1 : std.add .i64 i.fc 1 = i.fc + 1 := add_id (by omega) (by omega)
    have e2 : std.add .i64 (i.fc + 1) (-1) = i.fc := by rw [add_id (by omega) (by omega)]; omega
    rw [le_true h]
    simp only [cond_true, e1]
    rw [le_true (by omega)]
    simp only [cond_true, e2]
  · rw [le_false h]
    simp only [cond_false]
    rw [le_false h]
    rfl
theorem shI_forth (m : Int) (i : TI) (hm : 0 <= m /\ m <= 1000) (hi : 0 <= i.fc /\ i.fc <= 1000) (hne : i.fc ≠ m) : shI m 1 (shI m (-1) i) = i := by
  unfold shI
  by_cases h : m <= i.fc
  · have e1 : std.add .i64 i.fc (-1) = i.fc - 1 := by rw [add_id (by omega) (by omega)]; omega
    have e2 : std.add .i64 (i.fc - 1) 1 = i.fc := by rw [add_id (by omega) (by omega)]; omega
    rw [le_true h]
    simp only [cond_true, e1]
    rw [le_true (by omega)]
    simp only [cond_true, e2]
  · rw [le_false h]
    simp only [cond_false]
    rw [le_false h]
    rfl
theorem shC_back (m : Int) (c : TC) (hm : 0 <= m /\ m <= 1000) (h : ∀ i ∈ c.fI, 0 <= i.fc /\ i.fc <= 1000) : shC m (-1) (shC m 1 c) = c := by
  unfold shC
  simp only [List.map_map]
  rw [show List.map (shI m (-1) ∘ shI m 1) c.fI = c.fI from (List.map_congr_left (fun i hi => shI_back m i hm (h i hi))).trans (List.map_id' _)]
theorem shC_forth (m : Int) (c : TC) (hm : 0 <= m /\ m <= 1000) (h : ∀ i ∈ c.fI, 0 <= i.fc /\ i.fc <= 1000) (hne : ∀ i ∈ c.fI, i.fc ≠ m) : shC m 1 (shC m (-1) c) = c := by
  unfold shC
  simp only [List.map_map]
  rw [show List.map (shI m 1 ∘ shI m (-1)) c.fI = c.fI from (List.map_congr_left (fun i hi => shI_forth m i hm (h i hi) (hne i hi))).trans (List.map_id' _)]
/-- what a valid library says of its cells -/
theorem okLib_at {a : TL} (hv : okLib a = true) {k : Nat} (hk : k < a.fC.length) : okCell (gd a.fC k) k = true /\ fresh a.fC k = true := by
  unfold okLib at hv
  simp only [Bool.and_eq_true, List.all_eq_true, List.mem_range] at hv
  exact hv.2.2 k hk
theorem okLib_of {a : TL} (h1 : 1 <= a.fC.length) (h2 : a.fC.length <= 8) (h : ∀ k, k < a.fC.length -> okCell (gd a.fC k) k = true /\ fresh a.fC k = true) : okLib a = true := by
  unfold okLib
  simp only [Bool.and_eq_true, List.all_eq_true, List.mem_range, decide_eq_true_eq]
  exact ⟨h1, h2, h⟩
structure CellOk (c : TC) (k : Int) : Prop where
  name : isName c.fN = true
  sn : c.fS.length <= 24
  ln : c.fL.length <= 8
  inn : c.fI.length <= 8
  s : ∀ x ∈ c.fS, okShape x = true
  l : ∀ x ∈ c.fL, okLabel x = true
  i : ∀ x ∈ c.fI, okInst x k = true
theorem okCell_iff {c : TC} {k : Int} : okCell c k = true ↔ CellOk c k := by
  unfold okCell
  simp only [Bool.and_eq_true, decide_eq_true_eq, List.all_eq_true]
  exact ⟨fun ⟨a1, a2, a3, a4, a5, a6, a7⟩ => ⟨a1, a2, a3, a4, a5, a6, a7⟩, fun h => ⟨h.name, h.sn, h.ln, h.inn, h.s, h.l, h.i⟩⟩
theorem okInst_cell {i : TI} {k : Int} (h : okInst i k = true) (hk : 0 <= k /\ k <= 1000) : 0 <= i.fc /\ i.fc < k := by
  unfold okInst at h
  rw [Bool.and_eq_true] at h
  have := (wBi _ _ _).1 h.1
  rw [sub_id (by omega) (by omega)] at this
  omega
/-- the cell's number of an instance, another bound -/
theorem okInst_mv {i j : TI} {k k2 : Int} (h : okInst i k = true) (e : j = ⟨j.fc, i.fp, i.fK, i.fR, i.fu, i.fv⟩) (hk : 0 <= k2 /\ k2 <= 1000) (hj : 0 <= j.fc /\ j.fc < k2) : okInst j k2 = true := by
  unfold okInst at h ⊢
  rw [Bool.and_eq_true] at h ⊢
  refine ⟨(wBi _ _ _).2 (by rw [sub_id (by omega) (by omega)]; omega), ?_⟩
  rw [e]
  exact h.2
/-- both ways of a rename, an insertion and a removal within a cell -/
theorem appE_in {a : TL} {e : TE} (h8 : e.fk_ ≠ 8) (h9 : e.fk_ ≠ 9) {m : Nat} (hm : e.fc = (m : Int)) : appE a e = ⟨a.fC.set m (edC e (gd a.fC m))⟩ := by
  unfold appE
  rw [if_neg h8, if_neg h9, show e.fc.toNat = m by omega]
theorem set_gd_self {α : Type} [Inhabited α] {l : List α} {m : Nat} (h : m < l.length) : l.set m (gd l m) = l := by
  rw [gd_lt h]; simp
/-- a library stays valid where one cell is replaced by a valid one of a name that no other has -/
theorem okLib_set {a : TL} (hv : okLib a = true) {m : Nat} (hm : m < a.fC.length) {c : TC} (hc : CellOk c m) (hn : c.fN = (gd a.fC m).fN \/ othN a.fC (m : Int) c.fN = false) : okLib ⟨a.fC.set m c⟩ = true := by
  have hl := okLib_len hv
  have hnm : ∀ j, j < a.fC.length -> j ≠ m -> std.seq (gd a.fC j).fN c.fN = false := by
    intro j hj hjm
    rcases hn with hn | hn
    · rw [hn]
      cases hs : std.seq (gd a.fC j).fN (gd a.fC m).fN with
      | false => rfl
      | true => exact absurd (name_once hv hj hm hs (seq_self _)) hjm
    · unfold othN at hn
      rw [List.any_eq_false] at hn
      have := hn j (List.mem_range.2 hj)
      rw [eq_false' (by omega)] at this
      simpa [s_not] using this
  refine okLib_of (by rw [List.length_set]; exact hl.1) (by rw [List.length_set]; exact hl.2) (fun k hk => ?_)
  rw [List.length_set] at hk
  obtain ⟨g1, g2⟩ := okLib_at hv hk
  refine ⟨?_, ?_⟩
  · by_cases hkm : m = k
    · subst hkm; rw [gd_set_eq hm]; exact okCell_iff.2 hc
    · rw [gd_set_ne (fun h => hkm h.symm)]; exact g1
  · unfold fresh at g2 ⊢
    rw [List.all_eq_true] at g2 ⊢
    intro j hj
    have hjk := List.mem_range.1 hj
    have := g2 j hj
    by_cases h1 : m = k
    · subst h1
      rw [gd_set_eq hm, gd_set_ne (show j ≠ m by omega), hnm j (by omega) (by omega)]; rfl
    · rw [gd_set_ne (fun h => h1 h.symm)]
      by_cases h2 : m = j
      · subst h2
        rw [gd_set_eq hm]
        cases hs : std.seq c.fN (gd a.fC k).fN with
        | false => rfl
        | true => have := hnm k hk (fun h => h1 h.symm); rw [seq_comm hs] at this; cases this
      · rw [gd_set_ne (fun h => h2 h.symm)]; exact this
/- edits within a cell: what is valid stays valid, the inverse is possible and restores -/
theorem zS_z : zS zSh = true := by simp [zS, zSh, s_eq]
theorem zL_z : zL zLa = true := by simp [zL, zLa, s_eq, seq_self]
theorem zI_z : zI zIn = true := by simp [zI, zIn, s_eq]
theorem okEdit_at {e : TE} (h : okEdit e = true) : ((0 <= e.fc /\ e.fc <= 8) /\ (0 <= e.fx /\ e.fx <= 24)) /\ (e.fk_ = 1 -> okShape e.fs_ = true) /\ (e.fk_ = 3 -> okLabel e.fl_ = true) /\ (e.fk_ = 5 -> okInst e.fi_ 8 = true) /\ (e.fk_ = 7 \/ e.fk_ = 8 -> isName e.fN = true /\ e.fx = 0) := by
  unfold okEdit at h
  rw [Bool.and_eq_true, Bool.and_eq_true, wBi, wBi] at h
  refine ⟨h.1, fun hk => ?_, fun hk => ?_, fun hk => ?_, fun hk => ?_⟩
  · have := h.2; simp only [hk, if_true, Bool.and_eq_true] at this; exact this.1.1.2
  · have := h.2; simp [hk] at this; exact this.1.2
  · have := h.2; simp [hk] at this; exact this.2
  · have := h.2
    rcases hk with hk | hk <;> simp [hk] at this <;> exact ⟨this.1.1.1.2, by have h0 := this.1.1.1.1; rw [s_eq, decide_eq_true_eq] at h0; exact h0⟩
theorem in_1 (a : TL) (m q : Nat) (name : ByteArray) (shape : TS) (label : TB) (inst : TI) (hc : eCode a ⟨1, m, q, name, shape, label, inst⟩ = 0) :
    okLib (appE a ⟨1, m, q, name, shape, label, inst⟩) = true /\ eCode (appE a ⟨1, m, q, name, shape, label, inst⟩) (invE a ⟨1, m, q, name, shape, label, inst⟩) = 0 /\ appE (appE a ⟨1, m, q, name, shape, label, inst⟩) (invE a ⟨1, m, q, name, shape, label, inst⟩) = a := by
  obtain ⟨hv, he, hcell⟩ := eCode_zero hc
  obtain ⟨m2, hm2, hlt⟩ := hcell (show (1 : Int) ≠ 8 by decide)
  obtain rfl : m = m2 := by simp only at hm2; omega
  clear hm2 hcell
  obtain ⟨⟨w1, w2⟩, o1, o3, o5, o7⟩ := okEdit_at he
  have hl := okLib_len hv
  obtain ⟨g1, g2⟩ := okLib_at hv hlt
  have co := okCell_iff.1 g1
  obtain ⟨n1, n3, n5⟩ := eCode_ins hc rfl hlt
  have nx := n1 rfl
  obtain ⟨c, hcd⟩ : ∃ c, c = gd a.fC m := ⟨_, rfl⟩
  rw [<- hcd] at co nx
  have ea : appE a ⟨1, m, q, name, shape, label, inst⟩ = ⟨a.fC.set m ⟨c.fN, insA c.fS q shape, c.fL, c.fI⟩⟩ := by
    rw [appE_in (show (1 : Int) ≠ 8 by decide) (show (1 : Int) ≠ 9 by decide) (m := m) rfl, <- hcd]
    rfl
  have ei : invE a ⟨1, m, q, name, shape, label, inst⟩ = ⟨2, m, q, ByteArray.mk #[], zSh, zLa, zIn⟩ := rfl
  have cn : CellOk ⟨c.fN, insA c.fS q shape, c.fL, c.fI⟩ (m : Int) := ⟨co.name, (by show (insA c.fS q shape).length <= 24; rw [insA_len]; have := co.sn; have := nx.2; omega), co.ln, co.inn, (fun y hy => by rcases insA_mem hy with hy | rfl; exact co.s y hy; exact o1 rfl), co.l, co.i⟩
  have hv2 : okLib ⟨a.fC.set m ⟨c.fN, insA c.fS q shape, c.fL, c.fI⟩⟩ = true := okLib_set hv hlt cn (.inl (by rw [hcd]))
  have hg : gd (a.fC.set m ⟨c.fN, insA c.fS q shape, c.fL, c.fI⟩) m = ⟨c.fN, insA c.fS q shape, c.fL, c.fI⟩ := gd_set_eq hlt
  rw [ea, ei]
  refine ⟨hv2, ?_, ?_⟩
  · have he2 : okEdit ⟨2, m, q, ByteArray.mk #[], zSh, zLa, zIn⟩ = true := by
      unfold okEdit
      rw [Bool.and_eq_true, Bool.and_eq_true, wBi, wBi]
      refine ⟨⟨w1, w2⟩, ?_⟩
      simp only [Int.reduceEq, if_true, if_false, or_self, or_false, false_or, true_or, or_true, zS_z, zL_z, zI_z, seq_self, Bool.and_self]
    unfold eCode
    rw [if_neg (by rw [hv2, he2]; decide), if_neg (show ¬ (2 : Int) = 8 by decide), if_neg (by show ¬ ((a.fC.set m _).length : Int) <= (m : Int); rw [List.length_set]; omega), if_neg (show ¬ (2 : Int) = 1 by decide), if_pos (show (2 : Int) = 2 from rfl)]
    rw [Int.toNat_natCast, hg]
    have hn := insA_len c.fS q shape
    unfold delC
    rw [if_neg (by show ¬ (((insA c.fS q shape).length : Nat) : Int) <= (q : Int); rw [hn]; have := nx.1; simp only at this; omega)]
  · rw [appE_in (show (2 : Int) ≠ 8 by decide) (show (2 : Int) ≠ 9 by decide) (m := m) rfl, hg]
    show (⟨(a.fC.set m _).set m ⟨c.fN, delA (insA c.fS q shape) q, c.fL, c.fI⟩⟩ : TL) = a
    rw [del_ins _ _ _ (by have := nx.1; simp only at this; omega), List.set_set]
    show (⟨a.fC.set m c⟩ : TL) = a
    rw [hcd, set_gd_self hlt]
theorem in_2 (a : TL) (m q : Nat) (name : ByteArray) (shape : TS) (label : TB) (inst : TI) (hc : eCode a ⟨2, m, q, name, shape, label, inst⟩ = 0) :
    okLib (appE a ⟨2, m, q, name, shape, label, inst⟩) = true /\ eCode (appE a ⟨2, m, q, name, shape, label, inst⟩) (invE a ⟨2, m, q, name, shape, label, inst⟩) = 0 /\ appE (appE a ⟨2, m, q, name, shape, label, inst⟩) (invE a ⟨2, m, q, name, shape, label, inst⟩) = a := by
  obtain ⟨hv, he, hcell⟩ := eCode_zero hc
  obtain ⟨m2, hm2, hlt⟩ := hcell (show (2 : Int) ≠ 8 by decide)
  obtain rfl : m = m2 := by simp only at hm2; omega
  clear hm2 hcell
  obtain ⟨⟨w1, w2⟩, o1, o3, o5, o7⟩ := okEdit_at he
  have hl := okLib_len hv
  obtain ⟨g1, g2⟩ := okLib_at hv hlt
  have co := okCell_iff.1 g1
  obtain ⟨d2, d4, d6⟩ := eCode_index hc rfl hlt
  obtain ⟨q2, e1, hq⟩ := d2 rfl
  obtain rfl : q = q2 := by simp only at e1; omega
  obtain ⟨c, hcd⟩ : ∃ c, c = gd a.fC m := ⟨_, rfl⟩
  rw [<- hcd] at co hq
  have ea : appE a ⟨2, m, q, name, shape, label, inst⟩ = ⟨a.fC.set m ⟨c.fN, delA c.fS q, c.fL, c.fI⟩⟩ := by
    rw [appE_in (show (2 : Int) ≠ 8 by decide) (show (2 : Int) ≠ 9 by decide) (m := m) rfl, <- hcd]
    rfl
  have ei : invE a ⟨2, m, q, name, shape, label, inst⟩ = ⟨1, m, q, ByteArray.mk #[], (gd c.fS q), zLa, zIn⟩ := by
    unfold invE
    simp only [Int.reduceEq, if_true, if_false, Int.toNat_natCast, <- hcd]
  have cn : CellOk ⟨c.fN, delA c.fS q, c.fL, c.fI⟩ (m : Int) := ⟨co.name, (by show (delA c.fS q).length <= 24; have := delA_len c.fS q; have := co.sn; omega), co.ln, co.inn, (fun y hy => co.s y (delA_mem hy)), co.l, co.i⟩
  have hv2 : okLib ⟨a.fC.set m ⟨c.fN, delA c.fS q, c.fL, c.fI⟩⟩ = true := okLib_set hv hlt cn (.inl (by rw [hcd]))
  have hg : gd (a.fC.set m ⟨c.fN, delA c.fS q, c.fL, c.fI⟩) m = ⟨c.fN, delA c.fS q, c.fL, c.fI⟩ := gd_set_eq hlt
  rw [ea, ei]
  refine ⟨hv2, ?_, ?_⟩
  · have he2 : okEdit ⟨1, m, q, ByteArray.mk #[], (gd c.fS q), zLa, zIn⟩ = true := by
      unfold okEdit
      rw [Bool.and_eq_true, Bool.and_eq_true, wBi, wBi]
      refine ⟨⟨w1, w2⟩, ?_⟩
      have hx : okShape (gd c.fS q) = true := co.s _ (gd_mem hq)
      simp only [Int.reduceEq, if_true, if_false, or_self, or_false, false_or, true_or, or_true, zS_z, zL_z, zI_z, seq_self, Bool.and_self, hx]
    unfold eCode
    rw [if_neg (by rw [hv2, he2]; decide), if_neg (show ¬ (1 : Int) = 8 by decide), if_neg (by show ¬ ((a.fC.set m _).length : Int) <= (m : Int); rw [List.length_set]; omega), if_pos (show (1 : Int) = 1 from rfl)]
    rw [Int.toNat_natCast, hg]
    have hn : (delA c.fS q).length + 1 = c.fS.length := by unfold delA; simp only [List.length_append, List.length_take, List.length_drop]; omega
    have hmx := co.sn
    have hi : insC (q : Int) (delA c.fS q).length 24 = 0 := by
      unfold insC
      rw [if_neg (by omega), if_neg (by omega)]
    exact hi
  · rw [appE_in (show (1 : Int) ≠ 8 by decide) (show (1 : Int) ≠ 9 by decide) (m := m) rfl, hg]
    show (⟨(a.fC.set m _).set m ⟨c.fN, insA (delA c.fS q) q (gd c.fS q), c.fL, c.fI⟩⟩ : TL) = a
    rw [ins_del _ _ hq, List.set_set]
    show (⟨a.fC.set m c⟩ : TL) = a
    rw [hcd, set_gd_self hlt]
theorem in_3 (a : TL) (m q : Nat) (name : ByteArray) (shape : TS) (label : TB) (inst : TI) (hc : eCode a ⟨3, m, q, name, shape, label, inst⟩ = 0) :
    okLib (appE a ⟨3, m, q, name, shape, label, inst⟩) = true /\ eCode (appE a ⟨3, m, q, name, shape, label, inst⟩) (invE a ⟨3, m, q, name, shape, label, inst⟩) = 0 /\ appE (appE a ⟨3, m, q, name, shape, label, inst⟩) (invE a ⟨3, m, q, name, shape, label, inst⟩) = a := by
  obtain ⟨hv, he, hcell⟩ := eCode_zero hc
  obtain ⟨m2, hm2, hlt⟩ := hcell (show (3 : Int) ≠ 8 by decide)
  obtain rfl : m = m2 := by simp only at hm2; omega
  clear hm2 hcell
  obtain ⟨⟨w1, w2⟩, o1, o3, o5, o7⟩ := okEdit_at he
  have hl := okLib_len hv
  obtain ⟨g1, g2⟩ := okLib_at hv hlt
  have co := okCell_iff.1 g1
  obtain ⟨n1, n3, n5⟩ := eCode_ins hc rfl hlt
  have nx := n3 rfl
  obtain ⟨c, hcd⟩ : ∃ c, c = gd a.fC m := ⟨_, rfl⟩
  rw [<- hcd] at co nx
  have ea : appE a ⟨3, m, q, name, shape, label, inst⟩ = ⟨a.fC.set m ⟨c.fN, c.fS, insA c.fL q label, c.fI⟩⟩ := by
    rw [appE_in (show (3 : Int) ≠ 8 by decide) (show (3 : Int) ≠ 9 by decide) (m := m) rfl, <- hcd]
    rfl
  have ei : invE a ⟨3, m, q, name, shape, label, inst⟩ = ⟨4, m, q, ByteArray.mk #[], zSh, zLa, zIn⟩ := rfl
  have cn : CellOk ⟨c.fN, c.fS, insA c.fL q label, c.fI⟩ (m : Int) := ⟨co.name, co.sn, (by show (insA c.fL q label).length <= 8; rw [insA_len]; have := co.ln; have := nx.2; omega), co.inn, co.s, (fun y hy => by rcases insA_mem hy with hy | rfl; exact co.l y hy; exact o3 rfl), co.i⟩
  have hv2 : okLib ⟨a.fC.set m ⟨c.fN, c.fS, insA c.fL q label, c.fI⟩⟩ = true := okLib_set hv hlt cn (.inl (by rw [hcd]))
  have hg : gd (a.fC.set m ⟨c.fN, c.fS, insA c.fL q label, c.fI⟩) m = ⟨c.fN, c.fS, insA c.fL q label, c.fI⟩ := gd_set_eq hlt
  rw [ea, ei]
  refine ⟨hv2, ?_, ?_⟩
  · have he2 : okEdit ⟨4, m, q, ByteArray.mk #[], zSh, zLa, zIn⟩ = true := by
      unfold okEdit
      rw [Bool.and_eq_true, Bool.and_eq_true, wBi, wBi]
      refine ⟨⟨w1, w2⟩, ?_⟩
      simp only [Int.reduceEq, if_true, if_false, or_self, or_false, false_or, true_or, or_true, zS_z, zL_z, zI_z, seq_self, Bool.and_self]
    unfold eCode
    rw [if_neg (by rw [hv2, he2]; decide), if_neg (show ¬ (4 : Int) = 8 by decide), if_neg (by show ¬ ((a.fC.set m _).length : Int) <= (m : Int); rw [List.length_set]; omega), if_neg (show ¬ (4 : Int) = 1 by decide), if_neg (show ¬ (4 : Int) = 2 by decide), if_neg (show ¬ (4 : Int) = 3 by decide), if_pos (show (4 : Int) = 4 from rfl)]
    rw [Int.toNat_natCast, hg]
    have hn := insA_len c.fL q label
    unfold delC
    rw [if_neg (by show ¬ (((insA c.fL q label).length : Nat) : Int) <= (q : Int); rw [hn]; have := nx.1; simp only at this; omega)]
  · rw [appE_in (show (4 : Int) ≠ 8 by decide) (show (4 : Int) ≠ 9 by decide) (m := m) rfl, hg]
    show (⟨(a.fC.set m _).set m ⟨c.fN, c.fS, delA (insA c.fL q label) q, c.fI⟩⟩ : TL) = a
    rw [del_ins _ _ _ (by have := nx.1; simp only at this; omega), List.set_set]
    show (⟨a.fC.set m c⟩ : TL) = a
    rw [hcd, set_gd_self hlt]
theorem in_4 (a : TL) (m q : Nat) (name : ByteArray) (shape : TS) (label : TB) (inst : TI) (hc : eCode a ⟨4, m, q, name, shape, label, inst⟩ = 0) :
    okLib (appE a ⟨4, m, q, name, shape, label, inst⟩) = true /\ eCode (appE a ⟨4, m, q, name, shape, label, inst⟩) (invE a ⟨4, m, q, name, shape, label, inst⟩) = 0 /\ appE (appE a ⟨4, m, q, name, shape, label, inst⟩) (invE a ⟨4, m, q, name, shape, label, inst⟩) = a := by
  obtain ⟨hv, he, hcell⟩ := eCode_zero hc
  obtain ⟨m2, hm2, hlt⟩ := hcell (show (4 : Int) ≠ 8 by decide)
  obtain rfl : m = m2 := by simp only at hm2; omega
  clear hm2 hcell
  obtain ⟨⟨w1, w2⟩, o1, o3, o5, o7⟩ := okEdit_at he
  have hl := okLib_len hv
  obtain ⟨g1, g2⟩ := okLib_at hv hlt
  have co := okCell_iff.1 g1
  obtain ⟨d2, d4, d6⟩ := eCode_index hc rfl hlt
  obtain ⟨q2, e1, hq⟩ := d4 rfl
  obtain rfl : q = q2 := by simp only at e1; omega
  obtain ⟨c, hcd⟩ : ∃ c, c = gd a.fC m := ⟨_, rfl⟩
  rw [<- hcd] at co hq
  have ea : appE a ⟨4, m, q, name, shape, label, inst⟩ = ⟨a.fC.set m ⟨c.fN, c.fS, delA c.fL q, c.fI⟩⟩ := by
    rw [appE_in (show (4 : Int) ≠ 8 by decide) (show (4 : Int) ≠ 9 by decide) (m := m) rfl, <- hcd]
    rfl
  have ei : invE a ⟨4, m, q, name, shape, label, inst⟩ = ⟨3, m, q, ByteArray.mk #[], zSh, (gd c.fL q), zIn⟩ := by
    unfold invE
    simp only [Int.reduceEq, if_true, if_false, Int.toNat_natCast, <- hcd]
  have cn : CellOk ⟨c.fN, c.fS, delA c.fL q, c.fI⟩ (m : Int) := ⟨co.name, co.sn, (by show (delA c.fL q).length <= 8; have := delA_len c.fL q; have := co.ln; omega), co.inn, co.s, (fun y hy => co.l y (delA_mem hy)), co.i⟩
  have hv2 : okLib ⟨a.fC.set m ⟨c.fN, c.fS, delA c.fL q, c.fI⟩⟩ = true := okLib_set hv hlt cn (.inl (by rw [hcd]))
  have hg : gd (a.fC.set m ⟨c.fN, c.fS, delA c.fL q, c.fI⟩) m = ⟨c.fN, c.fS, delA c.fL q, c.fI⟩ := gd_set_eq hlt
  rw [ea, ei]
  refine ⟨hv2, ?_, ?_⟩
  · have he2 : okEdit ⟨3, m, q, ByteArray.mk #[], zSh, (gd c.fL q), zIn⟩ = true := by
      unfold okEdit
      rw [Bool.and_eq_true, Bool.and_eq_true, wBi, wBi]
      refine ⟨⟨w1, w2⟩, ?_⟩
      have hx : okLabel (gd c.fL q) = true := co.l _ (gd_mem hq)
      simp only [Int.reduceEq, if_true, if_false, or_self, or_false, false_or, true_or, or_true, zS_z, zL_z, zI_z, seq_self, Bool.and_self, hx]
    unfold eCode
    rw [if_neg (by rw [hv2, he2]; decide), if_neg (show ¬ (3 : Int) = 8 by decide), if_neg (by show ¬ ((a.fC.set m _).length : Int) <= (m : Int); rw [List.length_set]; omega), if_neg (show ¬ (3 : Int) = 1 by decide), if_neg (show ¬ (3 : Int) = 2 by decide), if_pos (show (3 : Int) = 3 from rfl)]
    rw [Int.toNat_natCast, hg]
    have hn : (delA c.fL q).length + 1 = c.fL.length := by unfold delA; simp only [List.length_append, List.length_take, List.length_drop]; omega
    have hmx := co.ln
    have hi : insC (q : Int) (delA c.fL q).length 8 = 0 := by
      unfold insC
      rw [if_neg (by omega), if_neg (by omega)]
    exact hi
  · rw [appE_in (show (3 : Int) ≠ 8 by decide) (show (3 : Int) ≠ 9 by decide) (m := m) rfl, hg]
    show (⟨(a.fC.set m _).set m ⟨c.fN, c.fS, insA (delA c.fL q) q (gd c.fL q), c.fI⟩⟩ : TL) = a
    rw [ins_del _ _ hq, List.set_set]
    show (⟨a.fC.set m c⟩ : TL) = a
    rw [hcd, set_gd_self hlt]
theorem in_5 (a : TL) (m q : Nat) (name : ByteArray) (shape : TS) (label : TB) (inst : TI) (hc : eCode a ⟨5, m, q, name, shape, label, inst⟩ = 0) :
    okLib (appE a ⟨5, m, q, name, shape, label, inst⟩) = true /\ eCode (appE a ⟨5, m, q, name, shape, label, inst⟩) (invE a ⟨5, m, q, name, shape, label, inst⟩) = 0 /\ appE (appE a ⟨5, m, q, name, shape, label, inst⟩) (invE a ⟨5, m, q, name, shape, label, inst⟩) = a := by
  obtain ⟨hv, he, hcell⟩ := eCode_zero hc
  obtain ⟨m2, hm2, hlt⟩ := hcell (show (5 : Int) ≠ 8 by decide)
  obtain rfl : m = m2 := by simp only at hm2; omega
  clear hm2 hcell
  obtain ⟨⟨w1, w2⟩, o1, o3, o5, o7⟩ := okEdit_at he
  have hl := okLib_len hv
  obtain ⟨g1, g2⟩ := okLib_at hv hlt
  have co := okCell_iff.1 g1
  obtain ⟨n1, n3, n5⟩ := eCode_ins hc rfl hlt
  have nx := n5 rfl
  obtain ⟨c, hcd⟩ : ∃ c, c = gd a.fC m := ⟨_, rfl⟩
  rw [<- hcd] at co nx
  have ea : appE a ⟨5, m, q, name, shape, label, inst⟩ = ⟨a.fC.set m ⟨c.fN, c.fS, c.fL, insA c.fI q inst⟩⟩ := by
    rw [appE_in (show (5 : Int) ≠ 8 by decide) (show (5 : Int) ≠ 9 by decide) (m := m) rfl, <- hcd]
    rfl
  have ei : invE a ⟨5, m, q, name, shape, label, inst⟩ = ⟨6, m, q, ByteArray.mk #[], zSh, zLa, zIn⟩ := rfl
  have cn : CellOk ⟨c.fN, c.fS, c.fL, insA c.fI q inst⟩ (m : Int) := ⟨co.name, co.sn, co.ln, (by show (insA c.fI q inst).length <= 8; rw [insA_len]; have := co.inn; have := nx.1.2; omega), co.s, co.l, (fun y hy => by rcases insA_mem hy with hy | rfl; exact co.i y hy; exact okInst_mv (o5 rfl) rfl (by omega) ⟨(okInst_cell (o5 rfl) (by omega)).1, by have := nx.2; simp only at this; omega⟩)⟩
  have hv2 : okLib ⟨a.fC.set m ⟨c.fN, c.fS, c.fL, insA c.fI q inst⟩⟩ = true := okLib_set hv hlt cn (.inl (by rw [hcd]))
  have hg : gd (a.fC.set m ⟨c.fN, c.fS, c.fL, insA c.fI q inst⟩) m = ⟨c.fN, c.fS, c.fL, insA c.fI q inst⟩ := gd_set_eq hlt
  rw [ea, ei]
  refine ⟨hv2, ?_, ?_⟩
  · have he2 : okEdit ⟨6, m, q, ByteArray.mk #[], zSh, zLa, zIn⟩ = true := by
      unfold okEdit
      rw [Bool.and_eq_true, Bool.and_eq_true, wBi, wBi]
      refine ⟨⟨w1, w2⟩, ?_⟩
      simp only [Int.reduceEq, if_true, if_false, or_self, or_false, false_or, true_or, or_true, zS_z, zL_z, zI_z, seq_self, Bool.and_self]
    unfold eCode
    rw [if_neg (by rw [hv2, he2]; decide), if_neg (show ¬ (6 : Int) = 8 by decide), if_neg (by show ¬ ((a.fC.set m _).length : Int) <= (m : Int); rw [List.length_set]; omega), if_neg (show ¬ (6 : Int) = 1 by decide), if_neg (show ¬ (6 : Int) = 2 by decide), if_neg (show ¬ (6 : Int) = 3 by decide), if_neg (show ¬ (6 : Int) = 4 by decide), if_neg (show ¬ (6 : Int) = 5 by decide), if_pos (show (6 : Int) = 6 from rfl)]
    rw [Int.toNat_natCast, hg]
    have hn := insA_len c.fI q inst
    unfold delC
    rw [if_neg (by show ¬ (((insA c.fI q inst).length : Nat) : Int) <= (q : Int); rw [hn]; have := nx.1.1; simp only at this; omega)]
  · rw [appE_in (show (6 : Int) ≠ 8 by decide) (show (6 : Int) ≠ 9 by decide) (m := m) rfl, hg]
    show (⟨(a.fC.set m _).set m ⟨c.fN, c.fS, c.fL, delA (insA c.fI q inst) q⟩⟩ : TL) = a
    rw [del_ins _ _ _ (by have := nx.1.1; simp only at this; omega), List.set_set]
    show (⟨a.fC.set m c⟩ : TL) = a
    rw [hcd, set_gd_self hlt]
theorem in_6 (a : TL) (m q : Nat) (name : ByteArray) (shape : TS) (label : TB) (inst : TI) (hc : eCode a ⟨6, m, q, name, shape, label, inst⟩ = 0) :
    okLib (appE a ⟨6, m, q, name, shape, label, inst⟩) = true /\ eCode (appE a ⟨6, m, q, name, shape, label, inst⟩) (invE a ⟨6, m, q, name, shape, label, inst⟩) = 0 /\ appE (appE a ⟨6, m, q, name, shape, label, inst⟩) (invE a ⟨6, m, q, name, shape, label, inst⟩) = a := by
  obtain ⟨hv, he, hcell⟩ := eCode_zero hc
  obtain ⟨m2, hm2, hlt⟩ := hcell (show (6 : Int) ≠ 8 by decide)
  obtain rfl : m = m2 := by simp only at hm2; omega
  clear hm2 hcell
  obtain ⟨⟨w1, w2⟩, o1, o3, o5, o7⟩ := okEdit_at he
  have hl := okLib_len hv
  obtain ⟨g1, g2⟩ := okLib_at hv hlt
  have co := okCell_iff.1 g1
  obtain ⟨d2, d4, d6⟩ := eCode_index hc rfl hlt
  obtain ⟨q2, e1, hq⟩ := d6 rfl
  obtain rfl : q = q2 := by simp only at e1; omega
  obtain ⟨c, hcd⟩ : ∃ c, c = gd a.fC m := ⟨_, rfl⟩
  rw [<- hcd] at co hq
  have ea : appE a ⟨6, m, q, name, shape, label, inst⟩ = ⟨a.fC.set m ⟨c.fN, c.fS, c.fL, delA c.fI q⟩⟩ := by
    rw [appE_in (show (6 : Int) ≠ 8 by decide) (show (6 : Int) ≠ 9 by decide) (m := m) rfl, <- hcd]
    rfl
  have ei : invE a ⟨6, m, q, name, shape, label, inst⟩ = ⟨5, m, q, ByteArray.mk #[], zSh, zLa, (gd c.fI q)⟩ := by
    unfold invE
    simp only [Int.reduceEq, if_true, if_false, Int.toNat_natCast, <- hcd]
  have cn : CellOk ⟨c.fN, c.fS, c.fL, delA c.fI q⟩ (m : Int) := ⟨co.name, co.sn, co.ln, (by show (delA c.fI q).length <= 8; have := delA_len c.fI q; have := co.inn; omega), co.s, co.l, (fun y hy => co.i y (delA_mem hy))⟩
  have hv2 : okLib ⟨a.fC.set m ⟨c.fN, c.fS, c.fL, delA c.fI q⟩⟩ = true := okLib_set hv hlt cn (.inl (by rw [hcd]))
  have hg : gd (a.fC.set m ⟨c.fN, c.fS, c.fL, delA c.fI q⟩) m = ⟨c.fN, c.fS, c.fL, delA c.fI q⟩ := gd_set_eq hlt
  rw [ea, ei]
  refine ⟨hv2, ?_, ?_⟩
  · have he2 : okEdit ⟨5, m, q, ByteArray.mk #[], zSh, zLa, (gd c.fI q)⟩ = true := by
      unfold okEdit
      rw [Bool.and_eq_true, Bool.and_eq_true, wBi, wBi]
      refine ⟨⟨w1, w2⟩, ?_⟩
      have hx : okInst (gd c.fI q) 8 = true := okInst_mv (co.i _ (gd_mem hq)) rfl (by omega) ⟨(okInst_cell (co.i _ (gd_mem hq)) (by omega)).1, by have := (okInst_cell (co.i _ (gd_mem hq)) (by omega)).2; omega⟩
      simp only [Int.reduceEq, if_true, if_false, or_self, or_false, false_or, true_or, or_true, zS_z, zL_z, zI_z, seq_self, Bool.and_self, hx]
    unfold eCode
    rw [if_neg (by rw [hv2, he2]; decide), if_neg (show ¬ (5 : Int) = 8 by decide), if_neg (by show ¬ ((a.fC.set m _).length : Int) <= (m : Int); rw [List.length_set]; omega), if_neg (show ¬ (5 : Int) = 1 by decide), if_neg (show ¬ (5 : Int) = 2 by decide), if_neg (show ¬ (5 : Int) = 3 by decide), if_neg (show ¬ (5 : Int) = 4 by decide), if_pos (show (5 : Int) = 5 from rfl)]
    rw [Int.toNat_natCast, hg]
    have hn : (delA c.fI q).length + 1 = c.fI.length := by unfold delA; simp only [List.length_append, List.length_take, List.length_drop]; omega
    have hmx := co.inn
    have hi : insC (q : Int) (delA c.fI q).length 8 = 0 := by
      unfold insC
      rw [if_neg (by omega), if_neg (by omega)]
    have hlt2 := (okInst_cell (co.i _ (gd_mem hq)) (by omega)).2
    show (if insC (q : Int) (delA c.fI q).length 8 = 0 /\ (m : Int) <= (gd c.fI q).fc then (6 : Int) else insC (q : Int) (delA c.fI q).length 8) = 0
    rw [if_neg (by omega)]
    exact hi
  · rw [appE_in (show (5 : Int) ≠ 8 by decide) (show (5 : Int) ≠ 9 by decide) (m := m) rfl, hg]
    show (⟨(a.fC.set m _).set m ⟨c.fN, c.fS, c.fL, insA (delA c.fI q) q (gd c.fI q)⟩⟩ : TL) = a
    rw [ins_del _ _ hq, List.set_set]
    show (⟨a.fC.set m c⟩ : TL) = a
    rw [hcd, set_gd_self hlt]
/- a rename, an insertion and a removal of a cell -/
theorem othN_false {l : List TC} {k : Int} {s : ByteArray} (h : othN l k s = false) {j : Nat} (hj : j < l.length) (hk : (j : Int) ≠ k) : std.seq (gd l j).fN s = false := by
  unfold othN at h
  rw [List.any_eq_false] at h
  have := h j (List.mem_range.2 hj)
  rw [eq_false' hk] at this
  simpa [s_not] using this
theorem othN_of {l : List TC} {k : Int} {s : ByteArray} (h : ∀ j : Nat, j < l.length -> (j : Int) ≠ k -> std.seq (gd l j).fN s = false) : othN l k s = false := by
  unfold othN
  rw [List.any_eq_false]
  intro j hj
  by_cases hk : (j : Int) = k
  · rw [eq_true' hk]; simp [s_not]
  · rw [eq_false' hk, h j (List.mem_range.1 hj) hk]; simp
theorem eCode_ren {a : TL} {e : TE} {m : Nat} (hc : eCode a e = 0) (hk : e.fk_ = 7) (hm : e.fc = (m : Int)) (hlt : m < a.fC.length) : othN a.fC (m : Int) e.fN = false := by
  obtain ⟨hv, he, _⟩ := eCode_zero hc
  unfold eCode at hc
  rw [if_neg (by rw [hv, he]; decide), if_neg (by omega), if_neg (by omega), if_neg (by omega), if_neg (by omega), if_neg (by omega), if_neg (by omega), if_neg (by omega), if_neg (by omega), if_pos hk, hm] at hc
  cases h : othN a.fC (m : Int) e.fN with
  | false => rfl
  | true => rw [h, if_pos rfl] at hc; exact absurd hc (by decide)
theorem eCode_del {a : TL} {e : TE} {m : Nat} (hc : eCode a e = 0) (hk : e.fk_ = 9) (hm : e.fc = (m : Int)) (hlt : m < a.fC.length) : a.fC.length ≠ 1 /\ (gd a.fC m).fS.length + (gd a.fC m).fL.length + (gd a.fC m).fI.length = 0 /\ placedB a (m : Int) = false := by
  obtain ⟨hv, he, _⟩ := eCode_zero hc
  unfold eCode at hc
  rw [if_neg (by rw [hv, he]; decide), if_neg (by omega), if_neg (by omega), if_neg (by omega), if_neg (by omega), if_neg (by omega), if_neg (by omega), if_neg (by omega), if_neg (by omega), if_neg (by omega), hm, Int.toNat_natCast] at hc
  by_cases h : (a.fC.length : Int) = 1 \/ 0 < (gd a.fC m).fS.length + (gd a.fC m).fL.length + (gd a.fC m).fI.length \/ placedB a (m : Int) = true
  · rw [if_pos h] at hc; exact absurd hc (by decide)
  · refine ⟨by omega, by omega, ?_⟩
    cases hp : placedB a (m : Int) with
    | false => rfl
    | true => exact absurd (.inr (.inr hp)) h
theorem in_7 (a : TL) (m q : Nat) (name : ByteArray) (shape : TS) (label : TB) (inst : TI) (hc : eCode a ⟨7, m, q, name, shape, label, inst⟩ = 0) :
    okLib (appE a ⟨7, m, q, name, shape, label, inst⟩) = true /\ eCode (appE a ⟨7, m, q, name, shape, label, inst⟩) (invE a ⟨7, m, q, name, shape, label, inst⟩) = 0 /\ appE (appE a ⟨7, m, q, name, shape, label, inst⟩) (invE a ⟨7, m, q, name, shape, label, inst⟩) = a := by
  obtain ⟨hv, he, hcell⟩ := eCode_zero hc
  obtain ⟨m2, hm2, hlt⟩ := hcell (show (7 : Int) ≠ 8 by decide)
  obtain rfl : m = m2 := by simp only at hm2; omega
  clear hm2 hcell
  obtain ⟨⟨w1, w2⟩, o1, o3, o5, o7⟩ := okEdit_at he
  obtain ⟨on, oq⟩ := o7 (.inl rfl)
  have ho := eCode_ren hc rfl rfl hlt
  have hl := okLib_len hv
  obtain ⟨g1, g2⟩ := okLib_at hv hlt
  have co := okCell_iff.1 g1
  obtain ⟨c, hcd⟩ : ∃ c, c = gd a.fC m := ⟨_, rfl⟩
  rw [<- hcd] at co
  have ea : appE a ⟨7, m, q, name, shape, label, inst⟩ = ⟨a.fC.set m ⟨name, c.fS, c.fL, c.fI⟩⟩ := by
    rw [appE_in (show (7 : Int) ≠ 8 by decide) (show (7 : Int) ≠ 9 by decide) (m := m) rfl, <- hcd]
    rfl
  have ei : invE a ⟨7, m, q, name, shape, label, inst⟩ = ⟨7, m, q, c.fN, zSh, zLa, zIn⟩ := by
    unfold invE
    simp only [Int.reduceEq, if_true, if_false, Int.toNat_natCast, <- hcd]
  have cn : CellOk ⟨name, c.fS, c.fL, c.fI⟩ (m : Int) := ⟨on, co.sn, co.ln, co.inn, co.s, co.l, co.i⟩
  have hv2 : okLib ⟨a.fC.set m ⟨name, c.fS, c.fL, c.fI⟩⟩ = true := okLib_set hv hlt cn (.inr ho)
  have hg : gd (a.fC.set m ⟨name, c.fS, c.fL, c.fI⟩) m = ⟨name, c.fS, c.fL, c.fI⟩ := gd_set_eq hlt
  rw [ea, ei]
  refine ⟨hv2, ?_, ?_⟩
  · have he2 : okEdit ⟨7, m, q, c.fN, zSh, zLa, zIn⟩ = true := by
      unfold okEdit
      rw [Bool.and_eq_true, Bool.and_eq_true, wBi, wBi]
      refine ⟨⟨w1, w2⟩, ?_⟩
      simp only [Int.reduceEq, if_true, if_false, or_self, or_false, false_or, true_or, or_true, zS_z, zL_z, zI_z, seq_self, Bool.and_self, co.name, eq_true' oq]
    have hn2 : othN (a.fC.set m ⟨name, c.fS, c.fL, c.fI⟩) (m : Int) c.fN = false := by
      refine othN_of fun j hj hjm => ?_
      rw [List.length_set] at hj
      rw [gd_set_ne (show j ≠ m by omega), hcd]
      cases hs : std.seq (gd a.fC j).fN (gd a.fC m).fN with
      | false => rfl
      | true => exact absurd (name_once hv hj hlt hs (seq_self _)) (by omega)
    unfold eCode
    rw [if_neg (by rw [hv2, he2]; decide), if_neg (show ¬ (7 : Int) = 8 by decide), if_neg (by show ¬ ((a.fC.set m _).length : Int) <= (m : Int); rw [List.length_set]; omega), if_neg (show ¬ (7 : Int) = 1 by decide), if_neg (show ¬ (7 : Int) = 2 by decide), if_neg (show ¬ (7 : Int) = 3 by decide), if_neg (show ¬ (7 : Int) = 4 by decide), if_neg (show ¬ (7 : Int) = 5 by decide), if_neg (show ¬ (7 : Int) = 6 by decide), if_pos (show (7 : Int) = 7 from rfl)]
    rw [hn2]
    rfl
  · rw [appE_in (show (7 : Int) ≠ 8 by decide) (show (7 : Int) ≠ 9 by decide) (m := m) rfl, hg]
    show (⟨(a.fC.set m _).set m ⟨c.fN, c.fS, c.fL, c.fI⟩⟩ : TL) = a
    rw [List.set_set]
    show (⟨a.fC.set m c⟩ : TL) = a
    rw [hcd, set_gd_self hlt]
theorem gd_map {α β : Type} [Inhabited α] [Inhabited β] {g : α -> β} {l : List α} {k : Nat} (h : k < l.length) : gd (l.map g) k = g (gd l k) := by
  rw [gd_lt (show k < (l.map g).length by rw [List.length_map]; exact h), gd_lt h, List.getElem_map]
theorem insA_gd {α : Type} [Inhabited α] {l : List α} {m k : Nat} {x : α} (hm : m <= l.length) (hk : k <= l.length) : gd (insA l m x) k = if k < m then gd l k else if k = m then x else gd l (k - 1) := by
  have hl : (List.take m l).length = m := by simp; omega
  rw [gd_lt (show k < (insA l m x).length by rw [insA_len]; omega)]
  unfold insA
  by_cases h1 : k < m
  · rw [if_pos h1, gd_lt (show k < l.length by omega)]
    simp [List.getElem_append, hl, h1]
  · rw [if_neg h1]
    by_cases h2 : k = m
    · subst h2
      rw [if_pos rfl]
      simp [List.getElem_append, hl]
    · rw [if_neg h2, gd_lt (show k - 1 < l.length by omega), List.getElem_append_right (by simp; omega)]
      simp only [List.length_append, hl, List.length_singleton, List.getElem_drop]
      congr 1
      omega
theorem delA_len2 {α : Type} {l : List α} {m : Nat} (hm : m < l.length) : (delA l m).length + 1 = l.length := by
  unfold delA
  simp only [List.length_append, List.length_take, List.length_drop]
  omega
theorem delA_gd {α : Type} [Inhabited α] {l : List α} {m k : Nat} (hm : m < l.length) (hk : k + 1 < l.length) : gd (delA l m) k = if k < m then gd l k else gd l (k + 1) := by
  have hl : (List.take m l).length = m := by simp; omega
  rw [gd_lt (show k < (delA l m).length by have := delA_len2 hm; omega)]
  unfold delA
  by_cases h1 : k < m
  · rw [if_pos h1, gd_lt (show k < l.length by omega), List.getElem_append_left (by omega)]
    simp
  · rw [if_neg h1, gd_lt hk, List.getElem_append_right (by omega)]
    simp only [hl, List.getElem_drop]
    congr 1
    omega
/- a cell is put in or taken out -/
theorem okInst_rng {i : TI} {k : Nat} (h : okInst i k = true) (hk : k <= 1000) : 0 <= i.fc /\ i.fc < (k : Int) := okInst_cell h ⟨by omega, by omega⟩
theorem shI_cell1 {m : Nat} {i : TI} (hm : m <= 1000) (hi : 0 <= i.fc /\ i.fc <= 1000) : (shI m 1 i).fc = if (m : Int) <= i.fc then i.fc + 1 else i.fc := by
  unfold shI
  by_cases h : (m : Int) <= i.fc
  · rw [le_true h, if_pos h]; exact add_id (by omega) (by omega)
  · rw [le_false h, if_neg h]; rfl
theorem shI_cell2 {m : Nat} {i : TI} (hm : m <= 1000) (hi : 0 <= i.fc /\ i.fc <= 1000) : (shI m (-1) i).fc = if (m : Int) <= i.fc then i.fc - 1 else i.fc := by
  unfold shI
  by_cases h : (m : Int) <= i.fc
  · rw [le_true h, if_pos h]; show std.add .i64 i.fc (-1) = _; rw [add_id (by omega) (by omega)]; omega
  · rw [le_false h, if_neg h]; rfl
theorem shI_rest (m b : Int) (i : TI) : shI m b i = ⟨(shI m b i).fc, i.fp, i.fK, i.fR, i.fu, i.fv⟩ := by
  unfold shI
  cases std.le m i.fc <;> rfl
theorem cell_up {c : TC} {m k k2 : Nat} (co : CellOk c k) (hk : k <= 100) (hm : m <= 100) (h2 : k2 = if k < m then k else k + 1) : CellOk (shC m 1 c) k2 := by
  refine ⟨co.name, co.sn, co.ln, by show (c.fI.map _).length <= 8; rw [List.length_map]; exact co.inn, co.s, co.l, fun x hx => ?_⟩
  obtain ⟨i, hi, rfl⟩ := List.mem_map.1 hx
  have hr := okInst_rng (co.i i hi) (by omega)
  have e := shI_cell1 (m := m) (i := i) (by omega) (by omega)
  have hk2 : k2 <= 1000 := by rw [h2]; split <;> omega
  refine okInst_mv (co.i i hi) (shI_rest _ _ _) ⟨by omega, by omega⟩ ?_
  rw [e]
  split <;> rename_i h <;> split at h2 <;> omega
theorem cell_down {c : TC} {m k k2 : Nat} (co : CellOk c k) (hk : k <= 100) (hm : m <= 100) (hkm : k ≠ m) (h2 : k2 = if k < m then k else k - 1) (hp : ∀ i ∈ c.fI, i.fc ≠ (m : Int)) : CellOk (shC m (-1) c) k2 := by
  refine ⟨co.name, co.sn, co.ln, by show (c.fI.map _).length <= 8; rw [List.length_map]; exact co.inn, co.s, co.l, fun x hx => ?_⟩
  obtain ⟨i, hi, rfl⟩ := List.mem_map.1 hx
  have hr := okInst_rng (co.i i hi) (by omega)
  have hne := hp i hi
  have e := shI_cell2 (m := m) (i := i) (by omega) (by omega)
  have hk2 : k2 <= 1000 := by rw [h2]; split <;> omega
  refine okInst_mv (co.i i hi) (shI_rest _ _ _) ⟨by omega, by omega⟩ ?_
  rw [e]
  split <;> rename_i h <;> split at h2 <;> omega
theorem placed_no {a : TL} {k : Int} (h : placedB a k = false) {j : Nat} (hj : j < a.fC.length) : ∀ i ∈ (gd a.fC j).fI, i.fc ≠ k := by
  intro i hi he
  unfold placedB at h
  rw [List.any_eq_false] at h
  have h1 := h j (List.mem_range.2 hj)
  unfold usesB at h1
  rw [Bool.not_eq_true, List.any_eq_false] at h1
  obtain ⟨p, hp, rfl⟩ := List.getElem_of_mem hi
  have := h1 p (List.mem_range.2 hp)
  rw [gd_lt hp, eq_true' he] at this
  exact this rfl
theorem placed_of {a : TL} {k : Int} (h : ∀ j, j < a.fC.length -> ∀ i ∈ (gd a.fC j).fI, i.fc ≠ k) : placedB a k = false := by
  unfold placedB
  rw [List.any_eq_false]
  intro j hj
  unfold usesB
  rw [Bool.not_eq_true, List.any_eq_false]
  intro p hp
  rw [eq_false' (h j (List.mem_range.1 hj) _ (gd_mem (List.mem_range.1 hp)))]
  simp
/-- valid cells of names that are all different -/
theorem okLib_mk {l : List TC} (h1 : 1 <= l.length) (h2 : l.length <= 8) (hc : ∀ k : Nat, k < l.length -> CellOk (gd l k) k) (hn : ∀ j k : Nat, j < k -> k < l.length -> std.seq (gd l j).fN (gd l k).fN = false) : okLib ⟨l⟩ = true := by
  refine okLib_of h1 h2 (fun k hk => ⟨okCell_iff.2 (hc k hk), ?_⟩)
  unfold fresh
  rw [List.all_eq_true]
  intro j hj
  rw [hn j k (List.mem_range.1 hj) hk]
  rfl
theorem in_8 (a : TL) (m q : Nat) (name : ByteArray) (shape : TS) (label : TB) (inst : TI) (hc : eCode a ⟨8, m, q, name, shape, label, inst⟩ = 0) :
    okLib (appE a ⟨8, m, q, name, shape, label, inst⟩) = true /\ eCode (appE a ⟨8, m, q, name, shape, label, inst⟩) (invE a ⟨8, m, q, name, shape, label, inst⟩) = 0 /\ appE (appE a ⟨8, m, q, name, shape, label, inst⟩) (invE a ⟨8, m, q, name, shape, label, inst⟩) = a := by
  obtain ⟨hv, he, _⟩ := eCode_zero hc
  obtain ⟨⟨w1, w2⟩, o1, o3, o5, o7⟩ := okEdit_at he
  obtain ⟨on, oq⟩ := o7 (.inr rfl)
  obtain ⟨c1, c2, c3⟩ := eCode_cell hc rfl
  have hl := okLib_len hv
  have hml : m <= a.fC.length := by simp only at c1; omega
  have hm8 : m <= 8 := by simp only at w1; omega
  obtain ⟨L, hL⟩ : ∃ L, L = a.fC.map (shC (m : Int) 1) := ⟨_, rfl⟩
  have hLl : L.length = a.fC.length := by rw [hL, List.length_map]
  obtain ⟨N, hN⟩ : ∃ N : TC, N = ⟨name, [], [], []⟩ := ⟨_, rfl⟩
  have hLg : ∀ k, k < a.fC.length -> gd L k = shC m 1 (gd a.fC k) := fun k hk => by rw [hL, gd_map hk]
  have ea : appE a ⟨8, m, q, name, shape, label, inst⟩ = ⟨insA L m N⟩ := by
    unfold appE
    rw [if_pos rfl, hL, hN]
    rfl
  have ei : invE a ⟨8, m, q, name, shape, label, inst⟩ = ⟨9, m, q, ByteArray.mk #[], zSh, zLa, zIn⟩ := by
    unfold invE
    simp only [Int.reduceEq, if_true, if_false]
  have hlen : (insA L m N).length = a.fC.length + 1 := by rw [insA_len, hLl]
  have hgd : ∀ k, k <= a.fC.length -> gd (insA L m N) k = if k < m then shC m 1 (gd a.fC k) else if k = m then N else shC m 1 (gd a.fC (k - 1)) := by
    intro k hk
    rw [insA_gd (by omega) (by omega)]
    by_cases h1 : k < m
    · rw [if_pos h1, if_pos h1, hLg k (by omega)]
    · rw [if_neg h1, if_neg h1]
      by_cases h2 : k = m
      · rw [if_pos h2, if_pos h2]
      · rw [if_neg h2, if_neg h2, hLg (k - 1) (by omega)]
  have hv2 : okLib ⟨insA L m N⟩ = true := by
    refine okLib_mk (by omega) (by omega) (fun k hk => ?_) (fun j k hjk hk => ?_)
    · rw [hgd k (by omega)]
      by_cases h1 : k < m
      · rw [if_pos h1]
        exact cell_up (okCell_iff.1 (okLib_at hv (show k < a.fC.length by omega)).1) (by omega) (by omega) (by rw [if_pos h1])
      · rw [if_neg h1]
        by_cases h2 : k = m
        · rw [if_pos h2, hN]
          exact ⟨on, by simp, by simp, by simp, by simp, by simp, by simp⟩
        · rw [if_neg h2]
          exact cell_up (okCell_iff.1 (okLib_at hv (show k - 1 < a.fC.length by omega)).1) (by omega) (by omega) (by rw [if_neg (by omega)]; omega)
    · rw [hgd j (by omega), hgd k (by omega)]
      have hN2 : N.fN = name := by rw [hN]
      have hu : ∀ x y : Nat, x < y -> y < a.fC.length -> std.seq (gd a.fC x).fN (gd a.fC y).fN = false := fun x y hxy hy => okLib_fresh hv hy hxy
      have ho : ∀ x : Nat, x < a.fC.length -> std.seq (gd a.fC x).fN N.fN = false := fun x hx => by rw [hN2]; exact othN_false c3 hx (by omega)
      have ho2 : ∀ x : Nat, x < a.fC.length -> std.seq N.fN (gd a.fC x).fN = false := fun x hx => by
        cases hs : std.seq N.fN (gd a.fC x).fN with
        | false => rfl
        | true => have := ho x hx; rw [seq_comm hs] at this; cases this
      by_cases h1 : k < m
      · rw [if_pos h1, if_pos (by omega)]; exact hu j k hjk (by omega)
      · rw [if_neg h1]
        by_cases h2 : k = m
        · rw [if_pos h2, if_pos (by omega)]; exact ho j (by omega)
        · rw [if_neg h2]
          by_cases h3 : j < m
          · rw [if_pos h3]; exact hu j (k - 1) (by omega) (by omega)
          · rw [if_neg h3]
            by_cases h4 : j = m
            · rw [if_pos h4]; exact ho2 (k - 1) (by omega)
            · rw [if_neg h4]; exact hu (j - 1) (k - 1) (by omega) (by omega)
  rw [ea, ei]
  refine ⟨hv2, ?_, ?_⟩
  · have he2 : okEdit ⟨9, m, q, ByteArray.mk #[], zSh, zLa, zIn⟩ = true := by
      unfold okEdit
      rw [Bool.and_eq_true, Bool.and_eq_true, wBi, wBi]
      refine ⟨⟨w1, w2⟩, ?_⟩
      simp only [Int.reduceEq, if_true, if_false, or_self, or_false, false_or, true_or, or_true, zS_z, zL_z, zI_z, seq_self, Bool.and_self, eq_true' oq]
    have hp : placedB ⟨insA L m N⟩ (m : Int) = false := by
      refine placed_of fun j hj i hi => ?_
      have hj2 : j < a.fC.length + 1 := by rw [<- hlen]; exact hj
      have hup : ∀ x : Nat, x < a.fC.length -> ∀ i ∈ (shC m 1 (gd a.fC x)).fI, i.fc ≠ (m : Int) := by
        intro x hx i hi
        obtain ⟨i0, h0, rfl⟩ := List.mem_map.1 hi
        have hr := okInst_rng ((okCell_iff.1 (okLib_at hv hx).1).i i0 h0) (by omega)
        rw [shI_cell1 (by omega) (by omega)]
        split <;> omega
      have hi2 : i ∈ (gd (insA L m N) j).fI := hi
      rw [hgd j (by omega)] at hi2
      by_cases h1 : j < m
      · rw [if_pos h1] at hi2; exact hup j (by omega) i hi2
      · rw [if_neg h1] at hi2
        by_cases h2 : j = m
        · rw [if_pos h2, hN] at hi2; cases hi2
        · rw [if_neg h2] at hi2; exact hup (j - 1) (by omega) i hi2
    have hgm : gd (insA L m N) m = N := by rw [hgd m hml, if_neg (by omega), if_pos rfl]
    unfold eCode
    rw [if_neg (by rw [hv2, he2]; decide), if_neg (show ¬ (9 : Int) = 8 by decide), if_neg (by show ¬ ((insA L m N).length : Int) <= (m : Int); rw [hlen]; omega), if_neg (show ¬ (9 : Int) = 1 by decide), if_neg (show ¬ (9 : Int) = 2 by decide), if_neg (show ¬ (9 : Int) = 3 by decide), if_neg (show ¬ (9 : Int) = 4 by decide), if_neg (show ¬ (9 : Int) = 5 by decide), if_neg (show ¬ (9 : Int) = 6 by decide), if_neg (show ¬ (9 : Int) = 7 by decide)]
    rw [Int.toNat_natCast, hgm, hN]
    rw [hN] at hp hlen
    show (if ((insA L m ⟨name, [], [], []⟩).length : Int) = 1 \/ 0 < ([] : List TS).length + ([] : List TB).length + ([] : List TI).length \/ placedB ⟨insA L m ⟨name, [], [], []⟩⟩ (m : Int) = true then (6 : Int) else 0) = 0
    rw [hp, hlen, if_neg (by simp; omega)]
  · unfold appE
    rw [if_neg (show ¬ (9 : Int) = 8 by decide), if_pos (show (9 : Int) = 9 from rfl)]
    simp only [Int.toNat_natCast]
    rw [del_ins _ _ _ (by omega), hL, List.map_map]
    have : List.map (shC (m : Int) (-1) ∘ shC (m : Int) 1) a.fC = a.fC := by
      refine (List.map_congr_left (fun c hcm => ?_)).trans (List.map_id' _)
      obtain ⟨p, hp, rfl⟩ := List.getElem_of_mem hcm
      refine shC_back m _ (by omega) (fun i hi => ?_)
      rw [<- gd_lt hp] at hi
      have := okInst_rng ((okCell_iff.1 (okLib_at hv hp).1).i i hi) (by omega)
      omega
    rw [this]
theorem in_9 (a : TL) (m q : Nat) (name : ByteArray) (shape : TS) (label : TB) (inst : TI) (hc : eCode a ⟨9, m, q, name, shape, label, inst⟩ = 0) :
    okLib (appE a ⟨9, m, q, name, shape, label, inst⟩) = true /\ eCode (appE a ⟨9, m, q, name, shape, label, inst⟩) (invE a ⟨9, m, q, name, shape, label, inst⟩) = 0 /\ appE (appE a ⟨9, m, q, name, shape, label, inst⟩) (invE a ⟨9, m, q, name, shape, label, inst⟩) = a := by
  obtain ⟨hv, he, hcell⟩ := eCode_zero hc
  obtain ⟨m2, hm2, hlt⟩ := hcell (show (9 : Int) ≠ 8 by decide)
  obtain rfl : m = m2 := by simp only at hm2; omega
  clear hm2 hcell
  obtain ⟨⟨w1, w2⟩, o1, o3, o5, o7⟩ := okEdit_at he
  obtain ⟨c1, c2, c3⟩ := eCode_del hc rfl rfl hlt
  have hl := okLib_len hv
  have oq : (q : Int) = 0 := by
    unfold okEdit at he
    rw [Bool.and_eq_true] at he
    have := he.2
    simp at this
    have h0 := this.1.1.1.1
    rw [s_eq, decide_eq_true_eq] at h0
    exact h0
  obtain ⟨c, hcd⟩ : ∃ c, c = gd a.fC m := ⟨_, rfl⟩
  have hce : c = ⟨c.fN, [], [], []⟩ := by
    rw [<- hcd] at c2
    have s1 : c.fS = [] := List.length_eq_zero_iff.1 (by omega)
    have s2 : c.fL = [] := List.length_eq_zero_iff.1 (by omega)
    have s3 : c.fI = [] := List.length_eq_zero_iff.1 (by omega)
    cases c
    simp only at s1 s2 s3
    rw [s1, s2, s3]
  have hD := delA_len2 (l := a.fC) hlt
  obtain ⟨B, hB⟩ : ∃ B, B = (delA a.fC m).map (shC (m : Int) (-1)) := ⟨_, rfl⟩
  have hBl : B.length + 1 = a.fC.length := by rw [hB, List.length_map]; exact hD
  have ea : appE a ⟨9, m, q, name, shape, label, inst⟩ = ⟨B⟩ := by
    unfold appE
    rw [if_neg (show ¬ (9 : Int) = 8 by decide), if_pos (show (9 : Int) = 9 from rfl), hB]
    rfl
  have ei : invE a ⟨9, m, q, name, shape, label, inst⟩ = ⟨8, m, q, c.fN, zSh, zLa, zIn⟩ := by
    unfold invE
    simp only [Int.reduceEq, if_true, if_false, Int.toNat_natCast, <- hcd]
  have hgd : ∀ k, k + 1 < a.fC.length -> gd B k = shC m (-1) (gd a.fC (if k < m then k else k + 1)) := by
    intro k hk
    rw [hB, gd_map (by omega), delA_gd hlt hk]
    split <;> rfl
  have hv2 : okLib ⟨B⟩ = true := by
    refine okLib_mk (by omega) (by omega) (fun k hk => ?_) (fun j k hjk hk => ?_)
    · rw [hgd k (by omega)]
      by_cases h1 : k < m
      · rw [if_pos h1]
        exact cell_down (okCell_iff.1 (okLib_at hv (show k < a.fC.length by omega)).1) (by omega) (by omega) (by omega) (by rw [if_pos h1]) (placed_no c3 (by omega))
      · rw [if_neg h1]
        exact cell_down (okCell_iff.1 (okLib_at hv (show k + 1 < a.fC.length by omega)).1) (by omega) (by omega) (by omega) (by rw [if_neg (by omega)]; omega) (placed_no c3 (by omega))
    · rw [hgd j (by omega), hgd k (by omega)]
      refine okLib_fresh hv ?_ ?_
      · split <;> omega
      · split <;> split <;> omega
  rw [ea, ei]
  refine ⟨hv2, ?_, ?_⟩
  · have he2 : okEdit ⟨8, m, q, c.fN, zSh, zLa, zIn⟩ = true := by
      unfold okEdit
      rw [Bool.and_eq_true, Bool.and_eq_true, wBi, wBi]
      refine ⟨⟨w1, w2⟩, ?_⟩
      have hn : isName c.fN = true := by rw [hcd]; exact (okCell_iff.1 (okLib_at hv hlt).1).name
      simp only [Int.reduceEq, if_true, if_false, or_self, or_false, false_or, true_or, or_true, zS_z, zL_z, zI_z, Bool.and_self, hn, eq_true' oq]
    have hn2 : othN B (-1) c.fN = false := by
      refine othN_of fun j hj _ => ?_
      rw [hgd j (by omega), hcd]
      show std.seq (gd a.fC (if j < m then j else j + 1)).fN _ = false
      cases hs : std.seq (gd a.fC (if j < m then j else j + 1)).fN (gd a.fC m).fN with
      | false => rfl
      | true =>
        have := name_once hv (show (if j < m then j else j + 1) < a.fC.length by split <;> omega) hlt hs (seq_self _)
        split at this <;> omega
    unfold eCode
    rw [if_neg (by rw [hv2, he2]; decide), if_pos (show (8 : Int) = 8 from rfl)]
    show (if (B.length : Int) < (m : Int) then (5 : Int) else if (B.length : Int) = 8 then 3 else if othN B (-1) c.fN = true then 6 else 0) = 0
    rw [if_neg (by omega), if_neg (by omega), hn2]
    rfl
  · unfold appE
    rw [if_pos (show (8 : Int) = 8 from rfl)]
    simp only [Int.toNat_natCast]
    have : List.map (shC (m : Int) 1) B = delA a.fC m := by
      rw [hB, List.map_map]
      refine (List.map_congr_left (fun x hx => ?_)).trans (List.map_id' _)
      obtain ⟨p, hp, hpe⟩ := List.getElem_of_mem (delA_mem hx)
      subst hpe
      refine shC_forth m _ (by omega) (fun i hi => ?_) (fun i hi => ?_)
      · rw [<- gd_lt hp] at hi
        have := okInst_rng ((okCell_iff.1 (okLib_at hv hp).1).i i hi) (by omega)
        omega
      · rw [<- gd_lt hp] at hi
        exact placed_no c3 hp i hi
    rw [this, <- hce, hcd, ins_del _ _ hlt]
/-- an edit that is possible: the library stays valid, the inverse is possible and restores it -/
theorem inverse_law (a : TL) (e : TE) (hc : eCode a e = 0) : okLib (appE a e) = true /\ eCode (appE a e) (invE a e) = 0 /\ appE (appE a e) (invE a e) = a := by
  obtain ⟨hv, he, _⟩ := eCode_zero hc
  obtain ⟨hk, h1, hi⟩ := okEdit_kind he
  obtain ⟨kind, cell, index, name, shape, label, inst⟩ := e
  simp only at hk h1 hi
  obtain ⟨m, rfl⟩ := Int.eq_ofNat_of_zero_le h1
  obtain ⟨q, rfl⟩ := Int.eq_ofNat_of_zero_le hi
  rcases hk with rfl | rfl | rfl | rfl | rfl | rfl | rfl | rfl | rfl
  · exact in_1 a m q _ _ _ _ hc
  · exact in_2 a m q _ _ _ _ hc
  · exact in_3 a m q _ _ _ _ hc
  · exact in_4 a m q _ _ _ _ hc
  · exact in_5 a m q _ _ _ _ hc
  · exact in_6 a m q _ _ _ _ hc
  · exact in_7 a m q _ _ _ _ hc
  · exact in_8 a m q _ _ _ _ hc
  · exact in_9 a m q _ _ _ _ hc
/- transactions: both sides -/
/-- a transaction's edits one after the other; back: what undoes those that are done -/
def runs (a : TL) (back : List TE) (i : Nat) : List TE -> (Int × Int) ⊕ (List TE × List TC)
  | [] => .inr (back, a.fC)
  | e :: r => if eCode a e = 0 then runs (appE a e) (invE a e :: back) (i + 1) r else .inl (eCode a e, (i : Int))
theorem spec_runs (l : List TE) (hl : l.length <= 8) (hE : ∀ e ∈ l, SmallE e) : ∀ (m i : Nat) (a : TL) (back : List TE), i + m = l.length -> SmallL a -> back.length <= i ->
    whileP (Lq38_x12 l) ((i : Int), back, a.fC) = some (match runs a back i (l.drop i) with | .inl x => .inl x | .inr y => .inr y) := by
  intro m
  induction m with
  | zero =>
    intro i a back hi ha hb
    have : i = l.length := by omega
    subst this
    rw [whileP_unfold]
    simp only [Lq38_x12, lq]
    rw [ltl_f, br_f, List.drop_length]
    rfl
  | succ m ih =>
    intro i a back hi ha hb
    have hil : i < l.length := by omega
    have hd : l.drop i = gd l i :: l.drop (i + 1) := by rw [List.drop_eq_getElem_cons hil, gd_lt hil]
    have hg := hE _ (gd_mem hil)
    rw [whileP_unfold, hd]
    simp only [Lq38_x12, lq, s_toNn]
    rw [ltl_t hil, br_t, ro_ (inRl hil), show TL.mk a.fC = a from rfl, spec_l13Code_ok a _ ha hg, obs]
    unfold runs
    by_cases hc : eCode a (gd l i) = 0
    · rw [if_pos hc, hc, notEq (eq_true' rfl), br_f, ro_ (inRl hil), spec_inverse_ok a _ hc, obs, ro_ (room_of (by rw [s_nadd, eL_, eL_]; simp only [List.length_cons, List.length_nil]; omega) (by omega)), ro_ (inRl hil), spec_l13Do_ok a _ ha hg hc, obs]
      have := ih (i + 1) (appE a (gd l i)) (invE a (gd l i) :: back) (by omega) (small_appE a _ ha hg hc) (by simp only [List.length_cons]; omega)
      rw [inc_nat (by omega)]
      exact this
    · rw [if_neg hc, eq_false' hc, s_not, Bool.not_false, br_t]
theorem impl_runs (l : List TE) (hl : l.length <= 8) (hE : ∀ e ∈ l, SmallE e) : ∀ (m i : Nat) (a : TL) (back : List TE), i + m = l.length -> SmallL a -> back.length <= i ->
    whileP (Lq41_x18 l) ((i : Int), back.reverse, a.fC) = some (match runs a back i (l.drop i) with | .inl x => .inl x | .inr y => .inr (y.1.reverse, y.2)) := by
  intro m
  induction m with
  | zero =>
    intro i a back hi ha hb
    have : i = l.length := by omega
    subst this
    rw [whileP_unfold]
    simp only [Lq41_x18, lq]
    rw [ltl_f, br_f, List.drop_length]
    rfl
  | succ m ih =>
    intro i a back hi ha hb
    have hil : i < l.length := by omega
    have hd : l.drop i = gd l i :: l.drop (i + 1) := by rw [List.drop_eq_getElem_cons hil, gd_lt hil]
    have hg := hE _ (gd_mem hil)
    rw [whileP_unfold, hd]
    simp only [Lq41_x18, lq, s_toNn]
    rw [ltl_t hil, br_t, ro_ (inRl hil), show TL.mk a.fC = a from rfl, impl_editCode_ok a _ ha hg, obs]
    unfold runs
    by_cases hc : eCode a (gd l i) = 0
    · rw [if_pos hc, hc, notEq (eq_true' rfl), br_f, impl_inverse_ok a _ hc, obs, ro_ (room_of (by rw [s_nadd, eL_, eL_]; simp only [List.length_cons, List.length_nil, List.length_reverse]; omega) (by omega)), impl_edited_ok a _ ha hg hc, obs]
      have := ih (i + 1) (appE a (gd l i)) (invE a (gd l i) :: back) (by omega) (small_appE a _ ha hg hc) (by simp only [List.length_cons]; omega)
      rw [inc_nat (by omega), <- List.reverse_cons]
      exact this
    · rw [if_neg hc, eq_false' hc, s_not, Bool.not_false, br_t]
/- slices.Reverse -/
def rv {α : Type} [Inhabited α] (l : List α) (k : Nat) : List α := (List.range l.length).map fun p => if p < k \/ l.length <= p + k then gd l (l.length - 1 - p) else gd l p
theorem rv_len {α : Type} [Inhabited α] (l : List α) (k : Nat) : (rv l k).length = l.length := by simp [rv]
theorem rv_gd {α : Type} [Inhabited α] {l : List α} {k p : Nat} (h : p < l.length) : gd (rv l k) p = if p < k \/ l.length <= p + k then gd l (l.length - 1 - p) else gd l p := by
  rw [gd_lt (show p < (rv l k).length by rw [rv_len]; exact h)]
  simp [rv]
theorem rv_zero {α : Type} [Inhabited α] (l : List α) : rv l 0 = l := by
  apply List.ext_getElem (rv_len l 0)
  intro p h1 h2
  rw [<- gd_lt h1, rv_gd h2, if_neg (by omega), gd_lt h2]
theorem rv_end {α : Type} [Inhabited α] (l : List α) (k : Nat) (h : l.length <= 2 * k + 1) : rv l k = l.reverse := by
  apply List.ext_getElem (by rw [rv_len, List.length_reverse])
  intro p h1 h2
  have h3 : p < l.length := by rw [rv_len] at h1; exact h1
  rw [<- gd_lt h1, rv_gd h3, List.getElem_reverse, <- gd_lt (show l.length - 1 - p < l.length by omega)]
  by_cases hc : p < k \/ l.length <= p + k
  · rw [if_pos hc]
  · rw [if_neg hc]
    have : l.length - 1 - p = p := by omega
    rw [this]
theorem rv_step {α : Type} [Inhabited α] (l : List α) (k : Nat) (h : 2 * k + 2 <= l.length) : List.set (List.set (rv l k) k (gd (rv l k) (l.length - 1 - k))) (l.length - 1 - k) (gd (rv l k) k) = rv l (k + 1) := by
  apply List.ext_getElem (by rw [List.length_set, List.length_set, rv_len, rv_len])
  intro p h1 h2
  have h3 : p < l.length := by rw [rv_len] at h2; exact h2
  have h4 : p < (rv l k).length := by rw [rv_len]; exact h3
  rw [List.getElem_set, List.getElem_set, <- gd_lt h2, <- gd_lt h4, rv_gd h3, rv_gd h3, rv_gd (show l.length - 1 - k < l.length by omega), rv_gd (show k < l.length by omega)]
  rw [if_neg (show ¬ (l.length - 1 - k < k \/ l.length <= l.length - 1 - k + k) by omega), if_neg (show ¬ (k < k \/ l.length <= k + k) by omega)]
  by_cases c1 : l.length - 1 - k = p
  · rw [if_pos c1, if_pos (by omega), show l.length - 1 - p = k by omega]
  · rw [if_neg c1]
    by_cases c2 : k = p
    · rw [if_pos c2, if_pos (by omega), c2]
    · rw [if_neg c2]
      by_cases c3 : p < k \/ l.length <= p + k
      · rw [if_pos c3, if_pos (by omega)]
      · rw [if_neg c3, if_neg (by omega)]
theorem reverse_ok (l : List TE) (hl : l.length <= 1000000) : Fq39 l = some l.reverse := by
  unfold Fq39
  have hw : whileP (Lq39_x4 l) (0, std.sub .i64 (std.ofN (len l)) 1, l) = some l.reverse := by
    by_cases h0 : l.length = 0
    · rw [List.length_eq_zero_iff.1 h0]
      rw [whileP_unfold]
      rfl
    · refine while_from (fun k => ((k : Int), ((l.length - 1 - k : Nat) : Int), rv l k)) (l.length / 2) ?_ (fun k hk => ?_) ?_
      · rw [s_ofN, eL_, sub_id (by omega) (by omega), rv_zero]
        refine Prod.ext rfl (Prod.ext ?_ rfl)
        show (l.length : Int) - 1 = ((l.length - 1 - 0 : Nat) : Int)
        omega
      · have hk2 : 2 * k + 2 <= l.length := by omega
        simp only [Lq39_x4, lq, s_toNn, s_nadd, Nat.zero_add]
        have i1 : std.inR (k : Int) (len l) := inRl (by omega)
        have i2 : std.inR ((l.length - 1 - k : Nat) : Int) (len l) := inRl (by omega)
        rw [lt_true (by omega), br_t, ro_ i2, ro_ i1, ro_ i1, ro_ (by rw [eL_, eL_, rv_len]), ro_ i2, ro_ (by rw [eL_, eL_, List.length_set, rv_len]), rv_step l k hk2, inc_nat (by omega), sub_id (by omega) (by omega)]
        have e : ((l.length - 1 - k : Nat) : Int) - 1 = ((l.length - 1 - (k + 1) : Nat) : Int) := by omega
        rw [e]
      · simp only [Lq39_x4, lq]
        rw [lt_false (by omega), br_f, rv_end l _ (by omega)]
  rw [hw, obs]
  simp only [lq]
  rw [ro_ (by rw [eL_, eL_, List.length_reverse])]
/- ApplyEdits: both sides -/
/-- the library, what undoes the transaction, a code, the index of the edit that fails -/
def allR (a : TL) (l : List TE) : TL × List TE × Int × Int :=
  if okLib a = true then (if 1 <= l.length /\ l.length <= 8 then (match runs a [] 0 l with | .inl x => (⟨[]⟩, [], x.1, x.2) | .inr y => (⟨y.2⟩, y.1, 0, -1)) else (⟨[]⟩, [], 3, -1)) else (⟨[]⟩, [], 1, -1)
theorem spec_l13All_ok (a : TL) (l : List TE) (h : SmallL a) (hE : ∀ e ∈ l, SmallE e) : Fq38 a l = some (allR a l) := by
  unfold Fq38 allR
  rw [spec_IsValidLibrary_ok a h, obs]
  cases hv : okLib a with
  | false => rfl
  | true =>
    rw [if_pos rfl, Bool.not_true, br_f, spec_l09In_ok, obs, s_ofN, eL_]
    by_cases hl : 1 <= l.length /\ l.length <= 8
    · rw [if_pos hl, (wBi _ _ _).2 (by omega), Bool.not_true, br_f, spec_Copy_ok a h, obs]
      simp only [lq]
      have hr := spec_runs l hl.2 hE l.length 0 a [] (by omega) h (by simp)
      rw [show ((0 : Nat) : Int) = 0 from rfl] at hr
      rw [hr, obs, List.drop_zero]
      cases runs a [] 0 l with
      | inl x => rfl
      | inr y => rfl
    · have hb : wB (l.length : Int) 1 8 = false := by
        cases hq : wB (l.length : Int) 1 8 with
        | false => rfl
        | true => exact absurd ((wBi _ _ _).1 hq) (by omega)
      rw [if_neg hl, hb, Bool.not_false, br_t]
theorem impl_applyAll_ok (a : TL) (l : List TE) (h : SmallL a) (hE : ∀ e ∈ l, SmallE e) : Fq41 a l = some (allR a l) := by
  unfold Fq41 allR
  rw [impl_IsValidLibrary_ok a h, obs]
  cases hv : okLib a with
  | false => rfl
  | true =>
    rw [if_pos rfl, Bool.not_true, br_f, s_ofN, eL_]
    by_cases hl : 1 <= l.length /\ l.length <= 8
    · have hback : ∀ (r : List TE) (i : Nat) (a : TL) (back : List TE) (y : List TE × List TC), back.length <= i -> runs a back i r = .inr y -> y.1.length <= i + r.length := by
        intro r
        induction r with
        | nil => intro i a back y hb hy; unfold runs at hy; injection hy with hy; subst hy; simpa using hb
        | cons e r ih =>
          intro i a back y hb hy
          unfold runs at hy
          split at hy
          · have := ih (i + 1) _ _ y (by simp only [List.length_cons]; omega) hy
            simp only [List.length_cons]; omega
          · cases hy
      rw [if_pos hl, lt_false (by omega), br_f, lt_false (by omega), obs, lq, br_f, impl_copyLibrary_ok a h, obs]
      simp only [lq]
      have hr := impl_runs l hl.2 hE l.length 0 a [] (by omega) h (by simp)
      rw [List.reverse_nil, show ((0 : Nat) : Int) = 0 from rfl] at hr
      rw [hr, obs, List.drop_zero]
      cases hrr : runs a [] 0 l with
      | inl x => rfl
      | inr y =>
        have hy := hback l 0 a [] y (by simp) hrr
        simp only
        rw [reverse_ok _ (by rw [List.length_reverse]; omega), obs, ro_ (by simp [eL_]), ro_ (by simp [eL_]), List.reverse_reverse]
    · rw [if_neg hl]
      by_cases h1 : l.length < 1
      · rw [lt_true (by omega), br_t]; rfl
      · rw [lt_false (by omega), br_f, lt_true (by omega)]; rfl
theorem small_runs (l : List TE) (hE : ∀ e ∈ l, SmallE e) : ∀ (a : TL) (back : List TE) (i : Nat) (y : List TE × List TC), SmallL a -> runs a back i l = .inr y -> SmallL ⟨y.2⟩ := by
  induction l with
  | nil => intro a back i y h hy; unfold runs at hy; injection hy with hy; subst hy; exact h
  | cons e r ih =>
    intro a back i y h hy
    unfold runs at hy
    split at hy
    · rename_i hc
      exact ih (fun x hx => hE x (by simp [hx])) _ _ _ y (small_appE a e h (hE e (by simp)) hc) hy
    · cases hy
theorem allR_small (a : TL) (l : List TE) (h : SmallL a) (hE : ∀ e ∈ l, SmallE e) : SmallL (allR a l).1 := by
  have hz : SmallL ⟨[]⟩ := ⟨by simp, fun c hc => by cases hc⟩
  unfold allR
  split
  · split
    · cases hrr : runs a [] 0 l with
      | inl x => exact hz
      | inr y => exact small_runs l hE a [] 0 y h hrr
    · exact hz
  · exact hz
/- what is drawn for edits, for transactions -/
/-- a library that edits can be drawn for -/
structure Nice (a : TL) : Prop where
  ne : 1 <= a.fC.length
  le : a.fC.length <= 1000
  row : ∀ c ∈ a.fC, c.fS.length <= 1000 /\ c.fL.length <= 1000 /\ c.fI.length <= 1000
  small : SmallL a
theorem nice_ok {a : TL} (h : SmallL a) (hv : okLib a = true) : Nice a := by
  obtain ⟨h1, h2⟩ := okLib_len hv
  refine ⟨h1, by omega, fun c hc => ?_, h⟩
  obtain ⟨i, hi, rfl⟩ := List.getElem_of_mem hc
  rw [<- gd_lt hi]
  obtain ⟨b1, b2, b3⟩ := okLib_cell hv hi
  exact ⟨by omega, by omega, by omega⟩
theorem nice_CB {a : TL} {n : Nat} (hn : n <= 1000) (h1 : 1 <= a.fC.length) (h2 : a.fC.length <= 4) (h3 : ∀ c ∈ a.fC, CB n c) (h4 : n <= 40) : Nice a :=
  ⟨h1, by omega, fun c hc => ⟨by have := (h3 c hc).shapes; omega, by have := (h3 c hc).labels; omega, by have := (h3 c hc).insts; omega⟩, OKl.small ⟨h2, fun c hc => (h3 c hc).le h4, h1⟩⟩
theorem addL {n : Nat} (h : n <= 1000) : std.add .i64 (std.ofN n) 1 <= 1000000 := by
  rw [s_ofN, add_id (by omega) (by omega)]; omega
theorem imaxB {x : Int} (h : x <= 1000) : std.imax x 1 <= 1000000 := by
  unfold std
  simp only
  first | omega | (split <;> omega)
theorem empS : (ByteArray.mk #[]).size <= 1000 := by decide
theorem oneS : (ByteArray.mk #[120]).size <= 1000 := by decide
set_option maxHeartbeats 4000000 in
theorem drawEditB_ok {s : Tl01Source} (hs : OKs s) (a : TL) (ha : Nice a) : Tot (Fq76 s a) fun r => OKs r.2 /\ SmallE r.1 := by
  obtain ⟨a1, a2, a3, _⟩ := ha
  unfold Fq76
  refine nextS hs (by omega) fun v1 _ h _ _ => nextS h (by rw [s_ofN, eL_]; omega) fun v3 s3 h v0 v3b => ?_
  rw [s_ofN, eL_] at v3b
  obtain ⟨j, rfl⟩ := Int.eq_ofNat_of_zero_le v0
  have hj : j < a.fC.length := by omega
  obtain ⟨e1, e2, e3⟩ := a3 _ (gd_mem hj)
  refine Tot.req (inRl hj) ?_
  simp only [s_nadd, s_toNn, Nat.zero_add]
  refine Tot.bind (P := fun y => OKs ⟨y.1, y.2.1, y.2.2.1⟩ /\ y.2.2.2.2.2.2.2.2.2.2.1.size <= 1000 /\ y.2.2.2.2.2.2.2.2.2.2.2.2.2.2.1.size <= 1000) (Tot.br (fun _ => ?_) fun _ => ?_) fun y hy => ?_
  · exact nextS h (addL (by rw [eL_]; omega)) fun _ _ h _ _ => Tot.bind (shape_ok h) fun r hr => Tot.ret ⟨hr, empS, empS⟩
  · refine Tot.bind (P := fun y => OKs ⟨y.1, y.2.1, y.2.2.1⟩ /\ y.2.2.2.2.2.1.size <= 1000 /\ y.2.2.2.2.2.2.2.2.2.1.size <= 1000) (Tot.br (fun _ => ?_) fun _ => ?_) fun y hy => Tot.ret ⟨hy.1, hy.2.1, hy.2.2⟩
    · exact nextS h (addL (by rw [eL_]; omega)) fun _ _ h _ _ => Tot.ret ⟨h, empS, empS⟩
    · refine Tot.bind (P := fun y => OKs ⟨y.1, y.2.1, y.2.2.1⟩ /\ y.2.2.2.2.2.2.2.2.2.1.size <= 1000 /\ y.2.2.2.2.2.2.2.1.size <= 1000) (Tot.br (fun _ => ?_) fun _ => ?_) fun y hy => Tot.ret ⟨hy.1, hy.2.1, hy.2.2⟩
      · exact nextS h (addL (by rw [eL_]; omega)) fun _ _ h _ _ => Tot.bind (label_ok h) fun r hr => Tot.ret ⟨hr.1, empS, by have := hr.2; show r.1.fN.size <= 1000; omega⟩
      · refine Tot.bind (P := fun y => OKs ⟨y.1, y.2.1, y.2.2.1⟩ /\ y.2.2.2.2.2.1.size <= 1000) (Tot.br (fun _ => ?_) fun _ => ?_) fun y hy => Tot.ret ⟨hy.1, hy.2, empS⟩
        · exact nextS h (addL (by rw [eL_]; omega)) fun _ _ h _ _ => Tot.ret ⟨h, empS⟩
        · refine Tot.bind (P := fun y => OKs ⟨y.1, y.2.1, y.2.2.1⟩ /\ y.2.2.2.2.2.2.2.2.2.2.2.2.2.size <= 1000) (Tot.br (fun _ => ?_) fun _ => ?_) fun y hy => Tot.ret ⟨hy.1, hy.2⟩
          · exact nextS h (addL (by rw [eL_]; omega)) fun _ _ h _ _ => Tot.bind (inst_ok h (imaxB (by omega))) fun r hr => Tot.ret ⟨hr, empS⟩
          · refine Tot.bind (P := fun y => OKs ⟨y.1, y.2.1, y.2.2.1⟩ /\ y.2.2.2.2.2.size <= 1000) (Tot.br (fun _ => ?_) fun _ => ?_) fun y hy => Tot.ret ⟨hy.1, hy.2⟩
            · exact nextS h (addL (by rw [eL_]; omega)) fun _ _ h _ _ => Tot.ret ⟨h, empS⟩
            · refine Tot.bind (P := fun y => OKs ⟨y.1, y.2.1, y.2.2.1⟩ /\ y.2.2.2.1.size <= 1000) (Tot.br (fun _ => ?_) fun _ => ?_) fun y hy => Tot.ret ⟨hy.1, hy.2⟩
              · exact Tot.bind (name_ok h) fun r hr => Tot.ret ⟨hr.1, by have := hr.2; show r.1.size <= 1000; omega⟩
              · refine Tot.bind (P := fun y => OKs ⟨y.1, y.2.1, y.2.2.1⟩ /\ y.2.2.2.2.size <= 1000) (Tot.br (fun _ => ?_) fun _ => ?_) fun y hy => Tot.ret ⟨hy.1, hy.2⟩
                · exact nextS h (addL (by rw [eL_]; omega)) fun _ _ h _ _ => Tot.bind (name_ok h) fun r hr => Tot.ret ⟨hr.1, by have := hr.2; show r.1.size <= 1000; omega⟩
                · exact Tot.ret ⟨h, empS⟩
  · simp only [lq]
    obtain ⟨y1, y3, y4⟩ := hy
    refine nextS y1 (by omega) fun w sw hw _ _ => ?_
    refine Tot.bind (P := fun z => z.2.2.2.1.size <= 1000 /\ OKs ⟨z.2.2.2.2.1, z.2.2.2.2.2.1, z.2.2.2.2.2.2⟩) (Tot.br (fun _ => Tot.ret ⟨y3, hw⟩) fun _ => ?_) fun z hz => ?_
    · refine Tot.bind (P := fun z => z.2.2.1.size <= 1000 /\ OKs ⟨z.2.2.2.1, z.2.2.2.2.1, z.2.2.2.2.2⟩) (Tot.br (fun _ => Tot.ret ⟨y3, hw⟩) fun _ => ?_) fun z hz => Tot.ret ⟨hz.1, hz.2⟩
      refine Tot.bind (P := fun z => z.1.size <= 1000 /\ OKs ⟨z.2.2.1, z.2.2.2.1, z.2.2.2.2⟩) (Tot.br (fun _ => Tot.ret ⟨oneS, hw⟩) fun _ => ?_) fun z hz => Tot.ret ⟨hz.1, hz.2⟩
      refine Tot.bind (P := fun z => OKs ⟨z.2.1, z.2.2.1, z.2.2.2⟩) (Tot.br (fun _ => nextS hw (by omega) fun _ _ h _ _ => Tot.ret h) fun _ => Tot.ret hw) fun z hz => Tot.ret ⟨y3, hz⟩
    · exact Tot.ret ⟨hz.2, ⟨by have := hz.1; show z.2.2.2.1.size <= 1048576; omega, by show y.2.2.2.2.2.2.2.2.2.2.2.2.2.2.1.size <= 1048576; omega⟩⟩

set_option maxHeartbeats 8000000 in
theorem drawEdits_ok {s : Tl01Source} (hs : OKs s) (a : TL) (ha : Nice a) : Tot (Fq32 s a) fun r => OKs r.2 /\ r.1.length <= 1000 /\ ∀ e ∈ r.1, SmallE e := by
  unfold Fq32
  simp only [lq]
  refine nextS hs (by omega) fun v1 s1 h v0 vb => ?_
  rw [add_id (by omega) (by omega)]
  refine Tot.bind (Tot.whileP (Post := fun r => OKs ⟨r.2.1, r.2.2.1, r.2.2.2⟩ /\ r.1.length <= 1000 /\ ∀ e ∈ r.1, SmallE e) (fun x => 0 <= x.1 /\ x.1 + x.2.2.2.2.1.length <= 10 /\ OKs ⟨x.2.1, x.2.2.1, x.2.2.2.1⟩ /\ (∀ e ∈ x.2.2.2.2.1, SmallE e) /\ Nice ⟨x.2.2.2.2.2⟩) (fun x => x.1.toNat) ⟨by show 0 <= 1 + v1; omega, by show 1 + v1 + ((0 : Nat) : Int) <= 10; omega, h, fun e he => (by cases he), ha⟩ fun x hx => ?_) fun r hr => Tot.ret hr
  obtain ⟨n, cd, at_, sd, l, cs⟩ := x
  obtain ⟨x1, x2, x3, x4, x5⟩ := hx
  simp only at x1 x2 x3 x4 x5
  unfold Lq32_x11
  simp only [lq]
  refine Tot.br (fun hlt => ?_) fun hlt => Tot.ret ⟨x3, by show l.length <= 1000; omega, x4⟩
  have hn := lt_dec hlt
  refine Tot.bind (drawEditB_ok x3 ⟨cs⟩ x5) fun e he => ?_
  refine Tot.bind (P := fun z => OKs ⟨z.1, z.2.1, z.2.2.1⟩ /\ z.2.2.2.2.2.2.1.size <= 1048576 /\ z.2.2.2.2.2.2.2.2.2.2.2.2.2.2.2.1.size <= 1048576) (Tot.whileP (fun x => 0 <= x.1 /\ x.1 <= 3 /\ OKs ⟨x.2.1, x.2.2.1, x.2.2.2.1⟩ /\ x.2.2.2.2.2.2.2.1.size <= 1048576 /\ x.2.2.2.2.2.2.2.2.2.2.2.2.2.2.2.2.1.size <= 1048576) (fun x => (3 - x.1).toNat) ⟨Int.le_refl _, by show (0 : Int) <= 3; omega, he.1, he.2.name, he.2.lname⟩ fun x hx => ?_) fun z hz => ?_
  · obtain ⟨z1, z2, z3, z4, z5⟩ := hx
    unfold Lq32_x50
    simp only [lq]
    refine Tot.bind (P := fun b => b = true -> x.1 < 3) (Tot.br (fun hb => ?_) fun _ => Tot.ret fun h => by cases h) fun b hb => Tot.br (fun h => ?_) fun _ => Tot.ret ⟨z3, z4, z5⟩
    · rw [spec_l13Code_ok ⟨cs⟩ _ x5.small ⟨z4, z5⟩, obs]
      exact Tot.ret fun _ => lt_dec hb
    · have h3 := hb h
      refine Tot.bind (drawEditB_ok z3 ⟨cs⟩ x5) fun e2 he2 => ?_
      rw [add_id (x := x.1) (by omega) (by omega)]
      exact Tot.ret ⟨⟨by show 0 <= x.1 + 1; omega, by show x.1 + 1 <= 3; omega, he2.1, he2.2.name, he2.2.lname⟩, by show (3 - (x.1 + 1)).toNat < (3 - x.1).toNat; omega⟩
  · obtain ⟨z1, z2, z3⟩ := hz
    obtain ⟨E, hE⟩ : ∃ E : TE, E = (TE.mk z.2.2.2.1 z.2.2.2.2.1 z.2.2.2.2.2.1 z.2.2.2.2.2.2.1 (TS.mk z.2.2.2.2.2.2.2.1 (TRect.mk z.2.2.2.2.2.2.2.2.1 z.2.2.2.2.2.2.2.2.2.1 z.2.2.2.2.2.2.2.2.2.2.1 z.2.2.2.2.2.2.2.2.2.2.2.1)) (TB.mk z.2.2.2.2.2.2.2.2.2.2.2.2.1 (TPoint.mk z.2.2.2.2.2.2.2.2.2.2.2.2.2.1 z.2.2.2.2.2.2.2.2.2.2.2.2.2.2.1) z.2.2.2.2.2.2.2.2.2.2.2.2.2.2.2.1) (TI.mk z.2.2.2.2.2.2.2.2.2.2.2.2.2.2.2.2.1 (TM.mk z.2.2.2.2.2.2.2.2.2.2.2.2.2.2.2.2.2.1 z.2.2.2.2.2.2.2.2.2.2.2.2.2.2.2.2.2.2.1 z.2.2.2.2.2.2.2.2.2.2.2.2.2.2.2.2.2.2.2.1) z.2.2.2.2.2.2.2.2.2.2.2.2.2.2.2.2.2.2.2.2.1 z.2.2.2.2.2.2.2.2.2.2.2.2.2.2.2.2.2.2.2.2.2.1 z.2.2.2.2.2.2.2.2.2.2.2.2.2.2.2.2.2.2.2.2.2.2.1 z.2.2.2.2.2.2.2.2.2.2.2.2.2.2.2.2.2.2.2.2.2.2.2)) := ⟨_, rfl⟩
    have hSE : SmallE E := by rw [hE]; exact ⟨z2, z3⟩
    rw [<- hE]
    refine Tot.req (roomS (by rw [s_nadd, eL_, eL_]; simp only [List.length_cons, List.length_nil]; omega) (by omega)) ?_
    rw [spec_l13Code_ok ⟨cs⟩ E x5.small hSE, obs]
    refine Tot.bind (P := fun q => Nice ⟨q⟩) (Tot.br (fun hb => ?_) fun _ => Tot.ret x5) fun q hq => ?_
    · have hc : eCode ⟨cs⟩ E = 0 := by simpa [std] using hb
      rw [spec_Copy_ok ⟨cs⟩ x5.small, obs, spec_l13Do_ok ⟨cs⟩ E x5.small hSE hc, obs]
      exact Tot.ret (nice_ok (small_appE _ E x5.small hSE hc) (inverse_law _ E hc).1)
    · rw [sub_id (x := n) (by omega) (by omega)]
      refine Tot.ret ⟨⟨by show 0 <= n - 1; omega, ?_, z1, ?_, hq⟩, by show (n - 1).toNat < n.toNat; omega⟩
      · show n - 1 + ((l ++ [E]).length : Int) <= 10
        rw [List.length_append]; simp only [List.length_cons, List.length_nil]; omega
      · intro e he
        have he' : e ∈ l ++ [E] := he
        rcases List.mem_append.1 he' with he | he
        · exact x4 e he
        · rw [List.mem_singleton.1 he]; exact hSE
/- transactions that succeed leave a valid library -/
theorem runs_inl (l : List TE) : ∀ (a : TL) (back : List TE) (i : Nat) (x : Int × Int), runs a back i l = .inl x -> x.1 ≠ 0 := by
  induction l with
  | nil => intro a back i x h; unfold runs at h; cases h
  | cons e r ih =>
    intro a back i x h
    unfold runs at h
    split at h
    · exact ih _ _ _ x h
    · rename_i hc
      injection h with h
      subst h
      exact hc
theorem runs_valid (l : List TE) : ∀ (a : TL) (back : List TE) (i : Nat) (y : List TE × List TC), okLib a = true -> runs a back i l = .inr y -> okLib ⟨y.2⟩ = true := by
  induction l with
  | nil => intro a back i y ha h; unfold runs at h; injection h with h; subst h; exact ha
  | cons e r ih =>
    intro a back i y ha h
    unfold runs at h
    split at h
    · rename_i hc
      exact ih _ _ _ y (inverse_law a e hc).1 h
    · cases h
theorem allR_valid (a : TL) (l : List TE) (h : (allR a l).2.2.1 = 0) : okLib (allR a l).1 = true := by
  unfold allR at h ⊢
  by_cases h1 : okLib a = true
  · simp only [if_pos h1] at h ⊢
    by_cases h2 : 1 <= l.length /\ l.length <= 8
    · simp only [if_pos h2] at h ⊢
      cases hr : runs a [] 0 l with
      | inl x =>
        rw [hr] at h
        exact absurd h (runs_inl l a [] 0 x hr)
      | inr y => exact runs_valid l a [] 0 y h1 hr
    · simp only [if_neg h2] at h
      exact absurd h (by decide)
  · simp only [if_neg h1] at h
    exact absurd h (by decide)
/- libraries compared by the program -/
theorem eqShapes (l : List TS) (h : l.length <= 10000000) : Fq43 l l = some true := by
  unfold Fq43
  rw [notEq (eq_true' rfl), br_f, while_eq (r := .inr ()) l.length (fun i hi => by
    simp only [Lq43_x2, lq, s_toNn, eq_true' rfl, s_band, Bool.and_self, s_not, Bool.not_true]
    rw [ltl_t hi, br_t, ro_ (inRl hi), ro_ (inRl hi), br_f, inc_nat (by omega)]) (by
    simp only [Lq43_x2, lq]
    rw [ltl_f, br_f]), obs]
theorem eqLabels (l : List TB) (h : l.length <= 10000000) : Fq44 l l = some true := by
  unfold Fq44
  rw [notEq (eq_true' rfl), br_f, while_eq (r := .inr ()) l.length (fun i hi => by
    simp only [Lq44_x2, lq, s_toNn, eq_true' rfl, seq_self, s_band, Bool.and_self, s_not, Bool.not_true]
    rw [ltl_t hi, br_t, ro_ (inRl hi), ro_ (inRl hi), br_f, inc_nat (by omega)]) (by
    simp only [Lq44_x2, lq]
    rw [ltl_f, br_f]), obs]
theorem eqInsts (l : List TI) (h : l.length <= 10000000) : Fq45 l l = some true := by
  unfold Fq45
  rw [notEq (eq_true' rfl), br_f, while_eq (r := .inr ()) l.length (fun i hi => by
    simp only [Lq45_x2, lq, s_toNn, eq_true' rfl, s_band, Bool.and_self, s_not, Bool.not_true]
    rw [ltl_t hi, br_t, ro_ (inRl hi), ro_ (inRl hi), br_f, inc_nat (by omega)]) (by
    simp only [Lq45_x2, lq]
    rw [ltl_f, br_f]), obs]
theorem sameCell_ok (c : TC) (h : SmallC c) : Fq93 c c = some true := by
  unfold Fq93
  rw [seq_self, br_t, eqShapes _ (by have := h.shapes; omega), obs, br_t, eqLabels _ (by have := h.labels; omega), obs, br_t, eqInsts _ (by have := h.insts; omega)]
  rfl
theorem impl_SameLibrary_ok (a : TL) (h : SmallL a) (hv : okLib a = true) : Fq73 a a = some true := by
  have h8 := (okLib_len hv).2
  unfold Fq73
  rw [show TL.mk a.fC = a from rfl, impl_IsValidLibrary_ok _ h, obs, hv, br_t, obs, br_t]
  unfold Fq47
  rw [notEq (eq_true' rfl), br_f, while_eq (r := .inr ()) a.fC.length (fun i hi => by
    simp only [Lq47_x2, lq, s_toNn]
    rw [ltl_t hi, br_t, ro_ (inRl hi), ro_ (inRl hi), sameCell_ok _ (h.cell _ (gd_mem hi)), obs, Bool.not_true, br_f, inc_nat (by omega)]) (by
    simp only [Lq47_x2, lq]
    rw [ltl_f, br_f]), obs]
  rfl
def apsR (a : TL) (l : List TE) : TL × Int × Int := ((allR a l).1, (allR a l).2.2.1, (allR a l).2.2.2)
theorem spec_ApplyEdits_ok (a : TL) (l : List TE) (h : SmallL a) (hE : ∀ e ∈ l, SmallE e) : Fq87 a l = some (apsR a l) := by
  unfold Fq87 apsR
  rw [spec_l13All_ok a l h hE]
  rfl
theorem impl_ApplyEdits_ok (a : TL) (l : List TE) (h : SmallL a) (hE : ∀ e ∈ l, SmallE e) : Fq109 a l = some (apsR a l) := by
  unfold Fq109 apsR
  rw [impl_applyAll_ok a l h hE]
  rfl
/- what is drawn for transactions -/
theorem drawApplyEdits_of {s : Tl01Source} (hs : OKs s) {β : Type} {Q : β -> Prop} {k : TL -> List TE -> Option β} (hk : ∀ a l, SmallL a -> l.length <= 3000 -> (∀ e ∈ l, SmallE e) -> Tot (k a l) Q) :
    Tot ((((
        (Fq10 s).bind fun y14 =>
        some (([] : List TC), y14.2.gcode, y14.2.gat, y14.2.gseed, y14.1.fC)
    ) : Option ((List TC) × (List Int) × Int × Int × (List TC))).bind fun y3 =>
  letO y3.1 fun w9 =>
  letO y3.2.1 fun w10 =>
  letO y3.2.2.1 fun w11 =>
  letO y3.2.2.2.1 fun w12 =>
  letO y3.2.2.2.2 fun w13 =>
  (Fq32 (Tl01Source.mk w10 w11 w12) (TL.mk w13)).bind fun y16 =>
  (Fq0 y16.2 20).bind fun y18 =>
  ((
        br (std.eq y18.1 0)
        (((
              req (std.room (std.nadd (len y16.1) (len y16.1)) 184) <|
              letO (y16.1 ++ y16.1) fun l35 =>
              req (std.room (std.nadd (len l35) (len y16.1)) 184) <|
              letO (l35 ++ y16.1) fun l37 =>
              some l37
          ) : Option ((List TE))).bind fun y27 =>
        letO y27 fun w33 =>
        some w33)
        (some y16.1)
    ) : Option ((List TE))).bind fun y20 =>
  letO y20 fun w26 =>
  k (TL.mk w13) w26)) Q := by
  refine Tot.bind (P := fun y : List TC × List Int × Int × Int × List TC => OKs ⟨y.2.1, y.2.2.1, y.2.2.2.1⟩ /\ Nice ⟨y.2.2.2.2⟩) (Tot.bind (library_ok hs) fun L hL => Tot.ret ⟨hL.1, nice_CB (n := 4) (by omega) hL.2.1 hL.2.2.1 (fun c hc => hL.2.2.2 c hc) (by omega)⟩) fun y hy => ?_
  simp only [lq]
  refine Tot.bind (drawEdits_ok hy.1 _ hy.2) fun l hl => nextS hl.1 (by omega) fun v s1 h _ _ => ?_
  refine Tot.bind (P := fun q : List TE => q.length <= 3000 /\ ∀ e ∈ q, SmallE e) (Tot.br (fun _ => ?_) fun _ => Tot.ret ⟨by omega, hl.2.2⟩) fun q hq => hk _ _ hy.2.small hq.1 hq.2
  refine Tot.bind (P := fun q : List TE => q.length <= 3000 /\ ∀ e ∈ q, SmallE e) (Tot.req (roomC (by rw [s_nadd, eL_]; omega) (by omega)) (Tot.req (roomC (by rw [s_nadd, eL_, eL_, List.length_append]; omega) (by omega)) (Tot.ret ⟨by simp only [List.length_append]; omega, fun e he => ?_⟩))) fun q hq => Tot.ret hq
  rw [List.mem_append, List.mem_append] at he
  rcases he with (he | he) | he <;> exact hl.2.2 e he
theorem drawApplyEdits_ok {c : List Int} (hc : OKc c) : Tot (Fq78 c) fun r => SmallL r.1 /\ r.2.length <= 3000 /\ ∀ e ∈ r.2, SmallE e := by
  unfold Fq78
  exact Tot.bind (from_ok hc) fun s hs => drawApplyEdits_of hs fun a l h1 h2 h3 => Tot.ret ⟨h1, h2, h3⟩
theorem wf_byteU {x : Int} (h : wfI .u8 x) : 0 <= x /\ x <= 255 := by
  have h' : (Lit.int .u8 x).wf = true := h
  have e1 : IntKind.min .u8 = 0 := rfl
  have e2 : IntKind.max .u8 = 255 := rfl
  simp [Lit.wf] at h'
  omega
/- another code -/
theorem other_ok {c : List Int} (h : c.length <= 4096 /\ ∀ b ∈ c, 0 <= b /\ b <= 255) {k : Int} (hk : k = 3 \/ k = 5) : Tot (Fq98 c k) OKc := by
  unfold Fq98
  simp only [lq]
  rw [ro_ (roomC (by simp only [s_nadd, eL_, List.length_cons, List.length_nil]; omega) (by omega))]
  refine Tot.ret ⟨by simp only [List.length_append, List.length_cons, List.length_nil]; omega, fun b hb => ?_⟩
  have e : [k, std.add .u8 k 7, std.mul .u8 3 k] = [3, 10, 9] \/ [k, std.add .u8 k 7, std.mul .u8 3 k] = [5, 12, 15] := by
    rcases hk with rfl | rfl
    · exact .inl rfl
    · exact .inr rfl
  rcases List.mem_append.1 hb with hb | hb
  · rcases e with e | e <;> rw [e] at hb <;> simp only [List.mem_cons, List.not_mem_nil, or_false] at hb <;> rcases hb with rfl | rfl | rfl <;> omega
  · exact h.2 b hb
/- journal records -/
def okTrans (l : List TE) : Bool := (decide (1 <= l.length) && decide (l.length <= 8)) && l.all okEdit
theorem le_one (n : Nat) : std.le 1 (std.ofN n) = decide (1 <= n) := by
  rw [s_le, s_ofN]; congr 1; simp; omega
theorem le_eight (n : Nat) : std.le (std.ofN n) 8 = decide (n <= 8) := by
  rw [s_le, s_ofN]; congr 1; simp; omega
theorem containsEdit (l : List TE) (h : l.length <= 10000000) (hs : ∀ e ∈ l, SmallE e) : Fq105 l = some (!l.all okEdit) := by
  have hb := maxLen_eq
  unfold Fq105 Fq60
  rw [bind_of (scan_first (p := fun i => !okEdit (gd l i)) (n := l.length) (fun i hi => ?_) ?_)]
  · have e := range_all okEdit l
    cases hf : (List.range l.length).find? (fun i => !okEdit (gd l i)) with
    | none =>
      rw [List.find?_eq_none] at hf
      have : l.all okEdit = true := by
        rw [<- e, List.all_eq_true]; intro i hi; have := hf i hi; simpa using this
      rw [this]
      show some (std.le 0 (-1)) = some false
      rw [le_false (by omega)]
    | some i =>
      have h1 := List.find?_some hf
      have h2 := List.mem_of_find?_eq_some hf
      have : l.all okEdit = false := by
        rw [<- e, Bool.eq_false_iff]; intro hc; rw [List.all_eq_true] at hc; have := hc i h2; simp [this] at h1
      rw [this]
      show some (std.le 0 (i : Int)) = some true
      rw [le_true (by omega)]
  · simp only [Lq60_x2, lq]
    rw [ltl_f, br_f]
  · have := hs _ (gd_mem hi)
    simp only [Lq60_x2, lq, s_toNn, Fq119]
    rw [ltl_t hi, br_t, ro_ (inRl hi), impl_IsValidEdit_ok _ (show (gd l i).fN.size <= maxLen by have := this.name; omega) (show (gd l i).fl_.fN.size <= maxLen by have := this.lname; omega), obs, obs, inc_nat (by omega)]
    show br (!okEdit (gd l i)) _ _ = _
    cases okEdit (gd l i) <;> rfl
theorem impl_isTransaction_ok (l : List TE) (h : l.length <= 10000000) (hs : ∀ e ∈ l, SmallE e) : Fq31 l = some (okTrans l) := by
  unfold Fq31 okTrans
  rw [containsEdit l h hs]
  simp only [eL_, le_one, le_eight, lq]
  cases decide (1 <= l.length) <;> cases decide (l.length <= 8) <;> cases l.all okEdit <;> rfl
/-- an edit's bytes -/
def edR (a : TE) : ByteArray := if okEdit a then ofL (editB a) else ByteArray.mk #[]
theorem editB_le {a : TE} (h : okEdit a = true) : (editB a).length <= 2000 := by
  unfold editB
  rw [List.length_append, show (headB a).length = 3 from rfl]
  split
  · rw [shapeB_len]; omega
  · split
    · rename_i h3; rw [labelB_len]; have := okEdit_label h h3; omega
    · split
      · rw [instB_len]; omega
      · split
        · rename_i h7; rw [nameB_len]; have := okEdit_name h h7; omega
        · simp
theorem edR_le (a : TE) : (edR a).size <= 2000 := by
  unfold edR
  split
  · rename_i h; rw [ofL_size]; exact editB_le h
  · show 0 <= 2000; omega
def bodyR (l : List TE) : ByteArray := catN (ByteArray.mk #[]) (fun i => edR (gd l i)) l.length
def journalR (l : List TE) : ByteArray :=
  let s := std.scat (std.scat (std.scat (ByteArray.mk #[84]) (ofL (oneB (std.ofN (len l))))) (ofL (twoR (std.ofN (std.slen (bodyR l)))))) (bodyR l)
  std.scat s (ofL (twoR (ck s)))
theorem okTrans_le {l : List TE} (h : okTrans l = true) : l.length <= 8 := by
  unfold okTrans at h
  simp only [Bool.and_eq_true, decide_eq_true_eq] at h
  exact h.1.2
theorem bodyR_le {l : List TE} (h : okTrans l = true) : (bodyR l).size <= 16000 := by
  have h1 := catN_size (ByteArray.mk #[]) (fun i => edR (gd l i)) 2000 l.length fun i _ => edR_le _
  have h2 : l.length * 2000 <= 8 * 2000 := Nat.mul_le_mul_right _ (okTrans_le h)
  have h3 : (ByteArray.mk #[]).size = 0 := rfl
  unfold bodyR; omega
theorem impl_JournalRecord_ok (l : List TE) (h : l.length <= 10000000) (hs : ∀ e ∈ l, SmallE e) : Fq28 l = some (if okTrans l then journalR l else ByteArray.mk #[]) := by
  have hb := maxLen_eq
  unfold Fq28
  rw [impl_isTransaction_ok l h hs, obs]
  cases ht : okTrans l with
  | false => rfl
  | true =>
    have hB := bodyR_le ht
    have h3 : (ByteArray.mk #[]).size = 0 := rfl
    have hl := okTrans_le ht
    have eL : ∀ l : List Int, std.ofBytes (len l) (fun i => gd l (0 + i)) = ofL l := fun _ => rfl
    simp only [Bool.not_true, br_f, if_true]
    rw [bind_of (while_cat (st := Lq28_x5 l) (ByteArray.mk #[]) (fun i => edR (gd l i)) 2000 l.length (fun i _ => edR_le _) (fun i hi v hv => by
      have := hs _ (gd_mem hi)
      have h2 : l.length * 2000 <= 8 * 2000 := Nat.mul_le_mul_right _ hl
      have h5 := edR_le (gd l i)
      unfold edR at h5
      simp only [Lq28_x5, lq, s_toNn]
      rw [ltl_t hi, br_t, ro_ (inRl hi), impl_EditBytes_ok _ (by have := this.name; omega) (by have := this.lname; omega), obs, ro_ (room1 (by rw [s_slen, s_slen]; omega)), inc_nat (by omega)]
      rfl) (fun v => by
      simp only [Lq28_x5, lq]
      rw [ltl_f, br_f]))]
    have eB : catN (ByteArray.mk #[]) (fun i => edR (gd l i)) l.length = bodyR l := rfl
    simp only [lq, eB, eL]
    rw [impl_two_ok _ _ (by simp), obs, ro_ (room1 (by rw [eL_, s_slen, List.length_append, twoR_len]; simp only [List.length_cons, List.length_nil]; omega))]
    have e1 : ofL (([84, std.conv .u8 (std.ofN (len l))] ++ twoR (std.ofN (std.slen (bodyR l)))) ++ strL (bodyR l)) = std.scat (std.scat (std.scat (ByteArray.mk #[84]) (ofL (oneB (std.ofN (len l))))) (ofL (twoR (std.ofN (std.slen (bodyR l)))))) (bodyR l) := by
      have e84 : ofL [84] = ByteArray.mk #[84] := bytes_ext (by rw [ofL_data]; rfl)
      rw [ofL_cat, <- ofL_app, <- e84, ofL_app]
      rfl
    rw [e1, impl_Checksum16_ok _ (by simp only [scat_size, ofL_size, one_len, twoR_len]; have h84 : (ByteArray.mk #[84]).size = 1 := rfl; omega), obs, impl_two_ok _ _ (by simp only [List.length_append, twoR_len, strL_length, List.length_cons, List.length_nil]; omega), obs, <- ofL_app, e1]
    rfl
/- reading fields that were written -/
theorem ofL_sat {l : List Int} {i : Nat} (h : i < l.length) (hb : 0 <= gd l i /\ gd l i <= 255) : std.sat (ofL l) i = gd l i := by
  have hs : i < (ofL l).size := by rw [ofL_size]; exact h
  rw [sat_get hs]
  have e : (ofL l)[i] = UInt8.ofNat (gd l i).toNat := by
    show ((((List.range (len l)).map fun i => UInt8.ofNat (gd l (0 + i)).toNat).toArray))[i]'_ = _
    simp
  rw [e]
  simp
  omega
theorem ck_rng (s : ByteArray) (h : s.size <= 1000000000) : 0 <= ck s /\ ck s < 65536 := by
  obtain ⟨c, h1, h2, h3⟩ := impl_Checksum16_ex s h
  unfold ck
  rw [h1]
  exact ⟨h2, by show c < 65536; omega⟩
theorem conv64 {x : Int} (h : -1000000000 <= x /\ x <= 1000000000) : std.conv .i64 x = x := wrap_id (by omega) (by omega)
theorem num2 {a b : Int} (ha : 0 <= a /\ a <= 1000) (hb : 0 <= b /\ b <= 1000) : std.add .i64 (std.shl .i64 (std.conv .i64 a) 8) (std.conv .i64 b) = a * 256 + b := by
  rw [conv64 (by omega), conv64 (by omega), shl8 (by omega), add_id (by omega) (by omega)]
theorem wB_iff' (a b c : Int) : wB a b c = true ↔ b <= a /\ a <= c := by
  unfold wB
  rw [s_le, s_le, Bool.and_eq_true, decide_eq_true_eq, decide_eq_true_eq]
theorem oneB_id {x : Int} (h : 0 <= x /\ x <= 255) : oneB x = [x] := by
  show [std.conv .u8 x] = [x]
  rw [conv8_eq, Int.emod_eq_of_lt (by omega) (by omega)]
theorem rd_byte {b : Int} (hb : 0 <= b /\ b <= 255) (l : List Int) (z : Bool) : Fq2 ⟨ofL (b :: l), z⟩ = some (b, ⟨ofL l, z⟩) := by
  unfold Fq2
  have hl : std.slen (ofL (b :: l)) = l.length + 1 := by rw [ofL_len]; rfl
  have g0 : gd (b :: l) 0 = b := rfl
  have hs : std.sat (ofL (b :: l)) 0 = b := by rw [ofL_sat (by simp) (by rw [g0]; exact hb), g0]
  have he : std.ssub (ofL (b :: l)) 1 (std.slen (ofL (b :: l))) = ofL l := by
    have h1 := ssub_app (ofL [b]) (ofL l)
    rw [ofL_app, ofL_size] at h1
    exact h1
  simp only
  rw [hl, lt_false (by rw [s_ofN]; omega), br_f, ro_ (show std.inR 0 (l.length + 1) from ⟨by omega, by omega⟩), ro_ (show std.upTo 1 (l.length + 1) from ⟨by omega, by omega⟩), show std.toN 0 = 0 from rfl, show std.toN 1 = 1 from rfl, hs, conv64 (by omega), <- hl, he]
theorem rd_one {x : Int} (h : 0 <= x /\ x <= 255) (l : List Int) (z : Bool) : Fq2 ⟨ofL (oneB x ++ l), z⟩ = some (x, ⟨ofL l, z⟩) := by
  rw [oneB_id h]; exact rd_byte h l z
theorem shr8' {x : Int} : std.shr .i64 x 8 = x / 256 := shr8 x
theorem rd_two {x : Int} (h : 0 <= x /\ x <= 65535) (l : List Int) (z : Bool) : Fq25 ⟨ofL (twoR x ++ l), z⟩ = some (x, ⟨ofL l, z⟩) := by
  have e : twoR x = [x / 256, x % 256] := by
    unfold twoR
    rw [conv8_eq, conv8_eq, shr8', Int.emod_eq_of_lt (show 0 <= x / 256 by omega) (by omega)]
  unfold Fq25
  rw [e, List.cons_append, List.cons_append, List.nil_append, rd_byte (by omega), obs]
  simp only
  rw [ro_ (by rw [s_nneg]; omega), rd_byte (by omega), obs]
  have := num2 (a := x / 256) (b := x % 256) (by omega) (by omega)
  rw [conv64 (by omega), conv64 (by omega)] at this
  simp only [this]
  rw [show x / 256 * 256 + x % 256 = x by omega]
theorem rd_coord {x : Int} (h : -32768 <= x /\ x <= 32767) (l : List Int) (z : Bool) : Fq5 ⟨ofL (twoB x ++ l), z⟩ = some (x, ⟨ofL l, z⟩) := by
  unfold Fq5 twoB
  rw [add_id (by omega) (by omega), rd_two (by omega), obs]
  simp only
  rw [sub_id (by omega) (by omega), show x + 32768 - 32768 = x by omega]
theorem rd_name {s : ByteArray} (h : s.size <= 255) (l : List Int) (z : Bool) : Fq36 ⟨ofL (nameB s ++ l), z⟩ = some (s, ⟨ofL l, z⟩) := by
  unfold Fq36 nameB
  rw [List.append_assoc, s_ofN, s_slen, rd_one (by omega), obs]
  simp only
  have e : ofL (strL s ++ l) = std.scat s (ofL l) := by rw [<- ofL_app, ofL_str]
  rw [e]
  have hl : std.slen (std.scat s (ofL l)) = s.size + l.length := by rw [s_slen, scat_size, ofL_size]
  have hu : std.upTo ((s.size : Nat) : Int) (std.slen (std.scat s (ofL l))) := ⟨by omega, by rw [hl]; omega⟩
  rw [lt_false (by rw [s_ofN, hl]; omega), br_f, ro_ hu, ro_ hu, s_toNn, ssub_tail, ssub_head]
theorem rd_shape {s : TS} (h : okShape s = true) (l : List Int) (z : Bool) : Fq68 ⟨ofL (shapeB s ++ l), z⟩ = some (s, ⟨ofL l, z⟩) := by
  unfold okShape okRect at h
  simp only [Bool.and_eq_true, wB_iff', s_le, s_lt, decide_eq_true_eq] at h
  unfold Fq68 shapeB
  simp only [List.flatMap_cons, List.flatMap_nil, List.append_nil, List.append_assoc]
  rw [rd_one (by omega), obs]
  simp only
  rw [rd_coord (by omega), obs]
  simp only
  rw [rd_coord (by omega), obs]
  simp only
  rw [rd_coord (by omega), obs]
  simp only
  rw [rd_coord (by omega), obs]
theorem rd_label {s : TB} (h : okLabel s = true) (l : List Int) (z : Bool) : Fq72 ⟨ofL (labelB s ++ l), z⟩ = some (s, ⟨ofL l, z⟩) := by
  unfold okLabel okPoint at h
  simp only [Bool.and_eq_true, wB_iff'] at h
  have hn := isName_size h.2.2
  unfold Fq72 labelB
  simp only [List.flatMap_cons, List.flatMap_nil, List.append_nil, List.append_assoc]
  rw [rd_one (by omega), obs]
  simp only
  rw [rd_coord (by omega), obs]
  simp only
  rw [rd_coord (by omega), obs]
  simp only
  rw [rd_name (by omega), obs]
theorem rd_place {x : TI} {k : Int} (hk : 0 <= k /\ k <= 1000) (h : okInst x k = true) (l : List Int) (z : Bool) : Fq70 ⟨ofL (placeB x ++ l), z⟩ = some (⟨0, x.fp, x.fK, x.fR, x.fu, x.fv⟩, ⟨ofL l, z⟩) := by
  unfold okInst okTr at h
  simp only [Bool.and_eq_true, wB_iff'] at h
  unfold Fq70 placeB
  simp only [List.flatMap_cons, List.flatMap_nil, List.append_nil, List.append_assoc]
  rw [rd_one (by omega), obs]
  simp only
  rw [rd_coord (by omega), obs]
  simp only
  rw [rd_coord (by omega), obs]
  simp only
  rw [rd_one (by omega), obs]
  simp only
  rw [rd_one (by omega), obs]
  simp only
  rw [rd_coord (by omega), obs]
  simp only
  rw [rd_coord (by omega), obs]
/- dice -/
theorem bit24 (x : Int) : 0 <= std.bitand .u64 x 16777215 /\ std.bitand .u64 x 16777215 <= 16777215 := by
  show 0 <= IntKind.u64.wrap ((BitVec.ofInt 64 x &&& BitVec.ofInt 64 16777215).toNat : Int) /\ IntKind.u64.wrap ((BitVec.ofInt 64 x &&& BitVec.ofInt 64 16777215).toNat : Int) <= 16777215
  have h1 : (BitVec.ofInt 64 x &&& BitVec.ofInt 64 16777215).toNat <= 16777215 := by
    rw [BitVec.toNat_and]
    exact Nat.and_le_right
  generalize (BitVec.ofInt 64 x &&& BitVec.ofInt 64 16777215).toNat = n at h1 ⊢
  simp only [IntKind.wrap, IntKind.signed, IntKind.bits]
  simp
  omega
theorem roll_ok {c : List Int} (hc : OKc c) (n : Int) : Tot (Fq63 c n) fun d => d.gb = c /\ d.gi = 0 := by
  unfold Fq63
  refine Tot.bind (P := fun _ => True) (Tot.whileP (fun x : Int × Int => 0 <= x.1 /\ x.1 <= c.length) (fun x => (c.length - x.1).toNat) ⟨Int.le_refl _, by omega⟩ fun x hx => ?_) fun y _ => Tot.ret ⟨rfl, rfl⟩
  obtain ⟨i, h⟩ := x
  simp only at hx
  simp only [Lq63_x3, lq]
  refine Tot.br (fun hk => ?_) fun _ => Tot.ret trivial
  have hk' := lt_dec hk
  rw [s_ofN, eL_] at hk'
  have hl := hc.1
  refine Tot.req ⟨hx.1, by rw [eL_]; exact hk'⟩ (Tot.ret ?_)
  rw [add_id (by omega) (by omega)]
  exact ⟨⟨by simp only; omega, by simp only; omega⟩, by simp only; omega⟩
theorem below_ok {c : List Int} (hc : OKc c) {d : Tdice} (hd : d.gb = c /\ d.gi = 0) {m : Int} (hm : 0 < m /\ m <= 1000000000) : Tot (Fq85 d m) fun r => 0 <= r.1 /\ r.1 < m := by
  unfold Fq85
  rw [ro_ (by rw [s_nneg]; omega)]
  have hb := bit24 (std.shr .u64 (std.add .u64 (std.mul .u64 d.gh 6364136223846793005) 1442695040888963407) 33)
  obtain ⟨B, hB⟩ : ∃ B, B = std.bitand .u64 (std.shr .u64 (std.add .u64 (std.mul .u64 d.gh 6364136223846793005) 1442695040888963407) 33) 16777215 := ⟨_, rfl⟩
  rw [<- hB] at hb ⊢
  have hcB : std.conv .i64 B = B := conv64 (by omega)
  refine Tot.bind (P := fun y : Int × Int => 0 <= y.1) (Tot.br (fun hk => ?_) fun _ => Tot.ret (by rw [hcB]; exact hb.1)) fun y hy => ?_
  · have hk' := lt_dec hk
    rw [hd.1, hd.2, s_ofN, eL_] at hk'
    refine Tot.req (by rw [hd.1, hd.2]; exact ⟨by omega, by rw [eL_]; omega⟩) (Tot.ret ?_)
    have hg := gd_byte hc (i := 0) (by omega) hk'
    rw [hd.1, hd.2, hcB, conv64 (by omega), add_id (by omega) (by omega)]
    simp only; omega
  · refine Tot.req (by show m ≠ 0; omega) (Tot.ret ?_)
    exact remB hy hm.1
/- reading what was written, whole and cut -/
theorem zS_eq {a : TS} (h : zS a = true) : a = zSh := by
  obtain ⟨l, x, y, z, w⟩ := a
  simp [zS, s_eq] at h
  obtain ⟨rfl, rfl, rfl, rfl, rfl⟩ := h
  rfl
theorem zL_eq {a : TB} (h : zL a = true) : a = zLa := by
  obtain ⟨l, ⟨x, y⟩, n⟩ := a
  simp [zL, s_eq, seq_iff] at h
  obtain ⟨rfl, ⟨rfl, rfl⟩, rfl⟩ := h
  rfl
theorem zI_eq {a : TI} (h : zI a = true) : a = zIn := by
  obtain ⟨c, ⟨o, x, y⟩, k, r, sx, sy⟩ := a
  simp [zI, s_eq] at h
  obtain ⟨rfl, ⟨rfl, rfl, rfl⟩, h⟩ := h
  simp only [zIn]
  congr 1 <;> omega
theorem okInst8 {x : TI} (h : okInst x 8 = true) : 0 <= x.fc /\ x.fc <= 8 := by
  have := okInst_cell h ⟨by omega, by omega⟩
  omega
set_option maxHeartbeats 4000000 in
theorem rd_edit {e : TE} (h : okEdit e = true) (l : List Int) (z : Bool) : Fq69 ⟨ofL (editB e ++ l), z⟩ = some (e, ⟨ofL l, z⟩) := by
  obtain ⟨hk, h1, h2⟩ := okEdit_kind h
  have hr : e.fc <= 8 /\ e.fx <= 24 := by
    have := (okEdit_at h).1
    omega
  have hid : ∀ x : Int, 0 <= x /\ x <= 255 -> std.conv .u8 x = x := fun x hx => by rw [conv8_eq]; omega
  unfold Fq69 editB headB
  rw [hid _ (by omega), hid _ (by omega), hid _ (by omega)]
  simp only [List.append_assoc, List.cons_append, List.nil_append]
  rw [rd_byte (by omega), obs]
  simp only
  rw [rd_byte (by omega), obs]
  simp only
  rw [rd_byte (by omega), obs]
  simp only
  obtain ⟨kind, cell, index, name, shape, label, inst⟩ := e
  unfold okEdit at h
  simp only at h hk ⊢
  rw [Bool.and_eq_true] at h
  have h' := h.2
  clear h
  have q : ∀ {x y : Int}, x ≠ y -> std.eq x y = false := fun h => eq_false' h
  rcases hk with rfl | rfl | rfl | rfl | rfl | rfl | rfl | rfl | rfl
  · simp only [if_true, Bool.and_eq_true, seq_iff] at h'
    obtain ⟨⟨⟨n, o⟩, a⟩, b⟩ := h'
    rw [n, zL_eq a, zI_eq b, if_pos rfl, eq_true' rfl, br_t, rd_shape o, obs]
    rfl
  · rw [if_neg (by decide), if_neg (by decide), if_neg (by decide), if_pos (.inl rfl)] at h'
    simp only [Bool.and_eq_true, seq_iff] at h'
    obtain ⟨⟨⟨n, o⟩, a⟩, b⟩ := h'
    rw [n, zS_eq o, zL_eq a, zI_eq b, if_neg (by decide), if_neg (by decide), if_neg (by decide), if_neg (by decide), q (by decide), q (by decide), q (by decide), q (by decide), q (by decide)]
    rfl
  · rw [if_neg (by decide), if_pos rfl] at h'
    simp only [Bool.and_eq_true, seq_iff] at h'
    obtain ⟨⟨⟨n, o⟩, a⟩, b⟩ := h'
    rw [n, zS_eq o, zI_eq b, if_neg (by decide), if_pos rfl, q (by decide), eq_true' rfl, br_f, br_t, rd_label a, obs]
    rfl
  · rw [if_neg (by decide), if_neg (by decide), if_neg (by decide), if_pos (.inr (.inl rfl))] at h'
    simp only [Bool.and_eq_true, seq_iff] at h'
    obtain ⟨⟨⟨n, o⟩, a⟩, b⟩ := h'
    rw [n, zS_eq o, zL_eq a, zI_eq b, if_neg (by decide), if_neg (by decide), if_neg (by decide), if_neg (by decide), q (by decide), q (by decide), q (by decide), q (by decide), q (by decide)]
    rfl
  · rw [if_neg (by decide), if_neg (by decide), if_pos rfl] at h'
    simp only [Bool.and_eq_true, seq_iff] at h'
    obtain ⟨⟨⟨n, o⟩, a⟩, b⟩ := h'
    have hc := okInst8 b
    rw [n, zS_eq o, zL_eq a, if_neg (by decide), if_neg (by decide), if_pos rfl, q (by decide), q (by decide), eq_true' rfl, br_f, br_f, br_t]
    unfold instB
    rw [List.append_assoc, rd_one (by omega), obs]
    simp only
    rw [rd_place (k := 8) ⟨by omega, by omega⟩ b]
    rfl
  · rw [if_neg (by decide), if_neg (by decide), if_neg (by decide), if_pos (.inr (.inr rfl))] at h'
    simp only [Bool.and_eq_true, seq_iff] at h'
    obtain ⟨⟨⟨n, o⟩, a⟩, b⟩ := h'
    rw [n, zS_eq o, zL_eq a, zI_eq b, if_neg (by decide), if_neg (by decide), if_neg (by decide), if_neg (by decide), q (by decide), q (by decide), q (by decide), q (by decide), q (by decide)]
    rfl
  · rw [if_neg (by decide), if_neg (by decide), if_neg (by decide), if_neg (by decide), if_pos (.inl rfl)] at h'
    simp only [Bool.and_eq_true] at h'
    obtain ⟨⟨⟨⟨_, n⟩, o⟩, a⟩, b⟩ := h'
    have hs := isName_size n
    rw [zS_eq o, zL_eq a, zI_eq b, if_neg (by decide), if_neg (by decide), if_neg (by decide), if_pos (.inl rfl), q (by decide), q (by decide), q (by decide), eq_true' (show (7 : Int) = 7 from rfl), br_f, br_f, br_f, br_t]
    simp only [obs, lq]
    rw [br_t, rd_name (by omega)]
    rfl
  · rw [if_neg (by decide), if_neg (by decide), if_neg (by decide), if_neg (by decide), if_pos (.inr rfl)] at h'
    simp only [Bool.and_eq_true] at h'
    obtain ⟨⟨⟨⟨_, n⟩, o⟩, a⟩, b⟩ := h'
    have hs := isName_size n
    rw [zS_eq o, zL_eq a, zI_eq b, if_neg (by decide), if_neg (by decide), if_neg (by decide), if_pos (.inr rfl), q (by decide), q (by decide), q (by decide), q (by decide), br_f, br_f, br_f, br_f, eq_true' (show (8 : Int) = 8 from rfl)]
    simp only [obs, lq]
    rw [br_t, rd_name (by omega)]
    rfl
  · rw [if_neg (by decide), if_neg (by decide), if_neg (by decide), if_neg (by decide), if_neg (by decide), if_pos rfl] at h'
    simp only [Bool.and_eq_true, seq_iff] at h'
    obtain ⟨⟨⟨⟨_, n⟩, o⟩, a⟩, b⟩ := h'
    rw [n, zS_eq o, zL_eq a, zI_eq b, if_neg (by decide), if_neg (by decide), if_neg (by decide), if_neg (by decide), q (by decide), q (by decide), q (by decide), q (by decide), q (by decide)]
    rfl
/- what is read of a string that is cut: something is missing, or the same as of the whole -/
def Byt (p : List Int) : Prop := ∀ b ∈ p, 0 <= b /\ b <= 255
def Rda {α : Type} (q : List Int) (z : Bool) (P : α -> Prop) (x y : Option (α × TbyteReader)) : Prop :=
  ∃ v p z', x = some (v, ⟨ofL p, z'⟩) /\ Byt p /\ (z = true -> z' = true) /\ (z' = false -> y = some (v, ⟨ofL (p ++ q), false⟩)) /\ P v
theorem Rda.ret {α : Type} {q p : List Int} {z : Bool} {P : α -> Prop} {v : α} (hp : Byt p) (h : P v) : Rda q z P (some (v, ⟨ofL p, z⟩)) (some (v, ⟨ofL (p ++ q), false⟩)) := ⟨v, p, z, rfl, hp, id, fun _ => rfl, h⟩
theorem Rda.bind {α β : Type} {q : List Int} {z : Bool} {P : α -> Prop} {Q : β -> Prop} {x y : Option (α × TbyteReader)} {f g : α × TbyteReader -> Option (β × TbyteReader)} (h : Rda q z P x y)
    (k : ∀ v p z', Byt p -> P v -> Rda q z' Q (f (v, ⟨ofL p, z'⟩)) (g (v, ⟨ofL (p ++ q), false⟩))) : Rda q z Q (x.bind f) (y.bind g) := by
  obtain ⟨v, p, z1, e1, hp, m1, w1, hv⟩ := h
  obtain ⟨u, p2, z2, e2, hp2, m2, w2, hu⟩ := k v p z1 hp hv
  refine ⟨u, p2, z2, by rw [e1]; exact e2, hp2, fun h => m2 (m1 h), fun h => ?_, hu⟩
  have : z1 = false := by
    cases hz : z1 with
    | false => rfl
    | true => have := m2 hz; rw [h] at this; cases this
  rw [w1 this]
  exact w2 h
def byteV (v : Int) : Prop := 0 <= v /\ v <= 255
theorem rd_none (z : Bool) : Fq2 ⟨ofL [], z⟩ = some (0, ⟨ofL [], true⟩) := by
  unfold Fq2
  simp only
  have hl : std.slen (ofL []) = 0 := by rw [ofL_len]; rfl
  rw [hl, lt_true (by rw [s_ofN]; omega), br_t]
theorem rda_one (q p : List Int) (z : Bool) (hp : Byt p) : Rda q z byteV (Fq2 ⟨ofL p, z⟩) (Fq2 ⟨ofL (p ++ q), false⟩) := by
  cases p with
  | nil => exact ⟨0, [], true, rd_none z, hp, fun _ => rfl, fun h => (by cases h), ⟨Int.le_refl _, by omega⟩⟩
  | cons b l =>
    have hb := hp b (by simp)
    exact ⟨b, l, z, rd_byte hb l z, fun x hx => hp x (by simp [hx]), id, fun _ => rd_byte hb (l ++ q) false, hb⟩
theorem rda_two (q p : List Int) (z : Bool) (hp : Byt p) : Rda q z (fun _ => True) (Fq25 ⟨ofL p, z⟩) (Fq25 ⟨ofL (p ++ q), false⟩) := by
  unfold Fq25
  refine Rda.bind (rda_one q p z hp) fun v p z hp hv => ?_
  simp only
  rw [ro_ (by rw [s_nneg]; omega), ro_ (by rw [s_nneg]; omega)]
  exact Rda.bind (rda_one q p z hp) fun u p z hp hu => Rda.ret hp trivial
theorem rda_coord (q p : List Int) (z : Bool) (hp : Byt p) : Rda q z (fun _ => True) (Fq5 ⟨ofL p, z⟩) (Fq5 ⟨ofL (p ++ q), false⟩) := by
  unfold Fq5
  exact Rda.bind (rda_two q p z hp) fun v p z hp hv => Rda.ret hp trivial
theorem cutL (p q : List Int) (z : Bool) {n : Nat} (h : n <= p.length) : (br (std.lt (std.ofN (std.slen (ofL (p ++ q)))) (n : Int)) (some ((ByteArray.mk #[]), (TbyteReader.mk (ofL (p ++ q)) true)))
    (req (std.upTo (n : Int) (std.slen (ofL (p ++ q)))) <| req (std.upTo (n : Int) (std.slen (ofL (p ++ q)))) <| some (std.ssub (ofL (p ++ q)) 0 (std.toN (n : Int)), (TbyteReader.mk (std.ssub (ofL (p ++ q)) (std.toN (n : Int)) (std.slen (ofL (p ++ q)))) z)))) = some (ofL (p.take n), ⟨ofL (p.drop n ++ q), z⟩) := by
  have hs : (ofL (p.take n)).size = n := by rw [ofL_size, List.length_take]; omega
  have e : ofL (p ++ q) = std.scat (ofL (p.take n)) (ofL (p.drop n ++ q)) := by
    rw [ofL_app, <- List.append_assoc, List.take_append_drop]
  have hl : std.slen (ofL (p ++ q)) = p.length + q.length := by rw [ofL_len, List.length_append]
  have hu : std.upTo (n : Int) (std.slen (ofL (p ++ q))) := ⟨by omega, by rw [hl]; omega⟩
  rw [lt_false (by rw [s_ofN, hl]; omega), br_f, ro_ hu, ro_ hu, s_toNn, e]
  have h1 := @ssub_tail (ofL (p.take n)) (ofL (p.drop n ++ q))
  have h2 := @ssub_head (ofL (p.take n)) (ofL (p.drop n ++ q))
  rw [hs] at h1 h2
  rw [h1, h2]
theorem rda_name (q p : List Int) (z : Bool) (hp : Byt p) : Rda q z (fun _ => True) (Fq36 ⟨ofL p, z⟩) (Fq36 ⟨ofL (p ++ q), false⟩) := by
  unfold Fq36
  refine Rda.bind (rda_one q p z hp) fun v p z hp hv => ?_
  obtain ⟨n, rfl⟩ : ∃ n : Nat, v = (n : Int) := ⟨v.toNat, by have := hv.1; omega⟩
  simp only
  by_cases h : n <= p.length
  · have h1 := cutL p [] z h
    rw [List.append_nil, List.append_nil] at h1
    rw [h1, cutL p q false h]
    exact Rda.ret (fun b hb => hp b (List.mem_of_mem_drop hb)) trivial
  · have hl : std.slen (ofL p) = p.length := ofL_len p
    rw [lt_true (by rw [s_ofN, hl]; omega), br_t]
    exact ⟨_, p, true, rfl, hp, fun _ => rfl, fun h => (by cases h), tv⟩
theorem rda_shape (q p : List Int) (z : Bool) (hp : Byt p) : Rda q z (fun _ => True) (Fq68 ⟨ofL p, z⟩) (Fq68 ⟨ofL (p ++ q), false⟩) := by
  unfold Fq68
  exact Rda.bind (rda_one q p z hp) fun _ p z hp _ => Rda.bind (rda_coord q p z hp) fun _ p z hp _ => Rda.bind (rda_coord q p z hp) fun _ p z hp _ => Rda.bind (rda_coord q p z hp) fun _ p z hp _ => Rda.bind (rda_coord q p z hp) fun _ p z hp _ => Rda.ret hp trivial
theorem rda_label (q p : List Int) (z : Bool) (hp : Byt p) : Rda q z (fun _ => True) (Fq72 ⟨ofL p, z⟩) (Fq72 ⟨ofL (p ++ q), false⟩) := by
  unfold Fq72
  exact Rda.bind (rda_one q p z hp) fun _ p z hp _ => Rda.bind (rda_coord q p z hp) fun _ p z hp _ => Rda.bind (rda_coord q p z hp) fun _ p z hp _ => Rda.bind (rda_name q p z hp) fun _ p z hp _ => Rda.ret hp trivial
theorem rda_inst (q p : List Int) (z : Bool) (hp : Byt p) : Rda q z (fun _ => True) (Fq70 ⟨ofL p, z⟩) (Fq70 ⟨ofL (p ++ q), false⟩) := by
  unfold Fq70
  exact Rda.bind (rda_one q p z hp) fun _ p z hp _ => Rda.bind (rda_coord q p z hp) fun _ p z hp _ => Rda.bind (rda_coord q p z hp) fun _ p z hp _ => Rda.bind (rda_one q p z hp) fun _ p z hp _ => Rda.bind (rda_one q p z hp) fun _ p z hp _ => Rda.bind (rda_coord q p z hp) fun _ p z hp _ => Rda.bind (rda_coord q p z hp) fun _ p z hp _ => Rda.ret hp trivial
set_option maxHeartbeats 4000000 in
theorem rda_edit (q p : List Int) (z : Bool) (hp : Byt p) : Rda q z (fun _ => True) (Fq69 ⟨ofL p, z⟩) (Fq69 ⟨ofL (p ++ q), false⟩) := by
  unfold Fq69
  refine Rda.bind (rda_one q p z hp) fun k p z hp _ => Rda.bind (rda_one q p z hp) fun c p z hp _ => Rda.bind (rda_one q p z hp) fun ix p z hp _ => ?_
  simp only
  by_cases h1 : k = 1
  · simp only [eq_true' h1, br_t, Option.bind_assoc, obs, lq]
    exact Rda.bind (rda_shape q p z hp) fun v p z hp _ => Rda.ret hp trivial
  by_cases h3 : k = 3
  · simp only [eq_false' h1, eq_true' h3, br_t, br_f, Option.bind_assoc, obs, lq]
    exact Rda.bind (rda_label q p z hp) fun v p z hp _ => Rda.ret hp trivial
  by_cases h5 : k = 5
  · simp only [eq_false' h1, eq_false' h3, eq_true' h5, br_t, br_f, Option.bind_assoc, obs, lq]
    exact Rda.bind (rda_one q p z hp) fun _ p z hp _ => Rda.bind (rda_inst q p z hp) fun v p z hp _ => Rda.ret hp trivial
  by_cases h7 : k = 7
  · simp only [eq_false' h1, eq_false' h3, eq_false' h5, eq_true' h7, br_t, br_f, Option.bind_assoc, obs, lq]
    exact Rda.bind (rda_name q p z hp) fun v p z hp _ => Rda.ret hp trivial
  by_cases h8 : k = 8
  · simp only [eq_false' h1, eq_false' h3, eq_false' h5, eq_false' h7, eq_true' h8, br_t, br_f, Option.bind_assoc, obs, lq]
    exact Rda.bind (rda_name q p z hp) fun v p z hp _ => Rda.ret hp trivial
  · simp only [eq_false' h1, eq_false' h3, eq_false' h5, eq_false' h7, eq_false' h8, br_t, br_f, Option.bind_assoc, obs, lq]
    exact Rda.ret hp trivial
/-- the edits of a record that is cut -/
theorem rda_edits (q : List Int) : ∀ (m : Nat) (acc : List TE) (p : List Int) (z : Bool), Byt p -> acc.length + m <= 8 ->
    ∃ l p' z', whileP Lq8_x15 ((m : Int), ofL p, z, acc) = some (ofL p', z', l) /\ Byt p' /\ (z = true -> z' = true) /\ (z' = false -> whileP Lq8_x15 ((m : Int), ofL (p ++ q), false, acc) = some (ofL (p' ++ q), false, l)) := by
  intro m
  induction m with
  | zero =>
    intro acc p z hp ha
    have key : ∀ s b, whileP Lq8_x15 (((0 : Nat) : Int), s, b, acc) = some (s, b, acc) := fun s b => by
      rw [whileP_unfold]
      simp only [Lq8_x15, lq]
      rw [lt_false (by omega), br_f, obs, br_f]
    exact ⟨acc, p, z, key _ _, hp, id, fun _ => key _ _⟩
  | succ m ih =>
    intro acc p z hp ha
    cases z with
    | true =>
      refine ⟨acc, p, true, ?_, hp, id, fun h => (by cases h)⟩
      rw [whileP_unfold]
      simp only [Lq8_x15, lq]
      rw [lt_true (by omega), br_t, obs, Bool.not_true, br_f]
    | false =>
      obtain ⟨v, p1, z1, e1, hp1, m1, w1, _⟩ := rda_edit q p false hp
      obtain ⟨l, p', z', g1, g2, g3, g4⟩ := ih (acc ++ [v]) p1 z1 hp1 (by simp only [List.length_append, List.length_cons, List.length_nil]; omega)
      have hroom : std.room (std.nadd (len acc) (len [v])) 184 := roomC (by simp only [s_nadd, eL_, List.length_cons, List.length_nil]; omega) (by omega)
      have hsub : std.sub .i64 ((m + 1 : Nat) : Int) 1 = (m : Int) := by rw [sub_id (by omega) (by omega)]; omega
      refine ⟨l, p', z', ?_, g2, fun h => (by cases h), fun h => ?_⟩
      · rw [whileP_unfold]
        simp only [Lq8_x15, lq]
        rw [lt_true (by omega), br_t, Bool.not_false, obs, br_t, e1, obs, ro_ hroom, hsub]
        exact g1
      · have hz : z1 = false := by
          cases hz : z1 with
          | false => rfl
          | true => have := g3 hz; rw [h] at this; cases this
        rw [whileP_unfold]
        simp only [Lq8_x15, lq]
        rw [lt_true (by omega), br_t, Bool.not_false, obs, br_t, w1 hz, obs, ro_ hroom, hsub]
        exact g4 h
/- a record, whole and cut -/
theorem take_more {α : Type} [Inhabited α] (l : List α) (i : Nat) (h : i < l.length) : l.take (i + 1) = l.take i ++ [gd l i] := by
  rw [List.take_add_one, gd_lt h, List.getElem?_eq_getElem h]; rfl
theorem body_list {l : List TE} (h : ∀ e ∈ l, okEdit e = true) : bodyR l = ofL (l.flatMap editB) := by
  have key : ∀ n, n <= l.length -> catN (ByteArray.mk #[]) (fun i => edR (gd l i)) n = ofL ((l.take n).flatMap editB) := by
    intro n
    induction n with
    | zero => intro _; rfl
    | succ n ih =>
      intro hn
      have he := h _ (gd_mem (show n < l.length by omega))
      have e1 : edR (gd l n) = ofL (editB (gd l n)) := by unfold edR; rw [if_pos he]
      show std.scat (catN _ _ n) (edR (gd l n)) = _
      rw [ih (by omega), e1, ofL_app, take_more l n (by omega), List.flatMap_append]
      simp
  have := key l.length (Nat.le_refl _)
  rw [List.take_length] at this
  exact this
theorem rd_edits : ∀ (l : List TE) (acc : List TE) (r : List Int), (∀ e ∈ l, okEdit e = true) -> acc.length + l.length <= 8 ->
    whileP Lq8_x15 ((l.length : Int), ofL (l.flatMap editB ++ r), false, acc) = some (ofL r, false, acc ++ l) := by
  intro l
  induction l with
  | nil =>
    intro acc r _ _
    rw [whileP_unfold]
    simp only [Lq8_x15, lq, List.length_nil]
    rw [lt_false (by omega), br_f, obs, br_f, List.append_nil]
    rfl
  | cons e l ih =>
    intro acc r h ha
    simp only [List.length_cons] at ha ⊢
    rw [whileP_unfold]
    simp only [Lq8_x15, lq, List.flatMap_cons, List.append_assoc]
    rw [lt_true (by omega), br_t, Bool.not_false, obs, br_t, rd_edit (h e (by simp)), obs, ro_ (roomC (by simp only [s_nadd, eL_, List.length_cons, List.length_nil]; omega) (by omega)), sub_id (by omega) (by omega)]
    have e1 : ((l.length + 1 : Nat) : Int) - 1 = (l.length : Int) := by omega
    simp only [e1]
    rw [ih (acc ++ [e]) r (fun x hx => h x (by simp [hx])) (by simp only [List.length_append, List.length_cons, List.length_nil]; omega), List.append_assoc]
    rfl
def jL (l : List TE) : List Int := strL (journalR l)
theorem jL_ofL (l : List TE) : ofL (jL l) = journalR l := ofL_str _
theorem jL_byt (l : List TE) : Byt (jL l) := by
  intro b hb
  unfold jL strL at hb
  obtain ⟨u, _, rfl⟩ := List.mem_map.1 hb
  have := u.toNat_lt
  omega
def preJ (l : List TE) : ByteArray := std.scat (std.scat (std.scat (ByteArray.mk #[84]) (ofL (oneB (std.ofN (len l))))) (ofL (twoR (std.ofN (std.slen (bodyR l)))))) (bodyR l)
def recL (l : List TE) (r : List Int) : List Int := 84 :: (oneB (std.ofN (len l)) ++ (twoR (std.ofN (std.slen (bodyR l))) ++ (l.flatMap editB ++ (twoR (ck (preJ l)) ++ r))))
theorem recL_ofL {l : List TE} (h : ∀ e ∈ l, okEdit e = true) (r : List Int) : ofL (jL l ++ r) = ofL (recL l r) := by
  have e84 : ofL [84] = ByteArray.mk #[84] := bytes_ext (by rw [ofL_data]; rfl)
  have hb := body_list h
  rw [<- ofL_app, jL_ofL]
  unfold journalR recL preJ
  simp only
  generalize ck (preJ l) = C
  generalize std.ofN (std.slen (bodyR l)) = B
  rw [hb, <- e84]
  simp only [ofL_app, List.append_assoc, List.cons_append, List.nil_append]
theorem okT {l : List TE} (h : okTrans l = true) : (1 <= l.length /\ l.length <= 8) /\ ∀ e ∈ l, okEdit e = true := by
  unfold okTrans at h
  simp only [Bool.and_eq_true, decide_eq_true_eq] at h
  exact ⟨h.1, List.all_eq_true.1 h.2⟩
theorem jL_size {l : List TE} (h : okTrans l = true) : 6 <= (jL l).length /\ (jL l).length <= 20000 := by
  have hB := bodyR_le h
  have h84 : (ByteArray.mk #[84]).size = 1 := rfl
  unfold jL
  rw [strL_length]
  unfold journalR
  simp only [scat_size, ofL_size, one_len, twoR_len]
  omega
theorem ckr {l : List TE} (h : okTrans l = true) : 0 <= ck (preJ l) /\ ck (preJ l) <= 65535 := by
  have hB := bodyR_le h
  have h84 : (ByteArray.mk #[84]).size = 1 := rfl
  have := ck_rng (preJ l) (by unfold preJ; simp only [scat_size, ofL_size, one_len, twoR_len]; omega)
  omega
set_option maxHeartbeats 4000000 in
theorem first_ok {l : List TE} (h : okTrans l = true) (hE : ∀ e ∈ l, SmallE e) (r : List Int) (hr : r.length <= 1000000) : Fq8 (ofL (jL l ++ r)) = some (l, ((jL l).length : Int)) := by
  obtain ⟨hn, ho⟩ := okT h
  have hB := bodyR_le h
  have hz := jL_size h
  have hlen : std.slen (ofL (jL l ++ r)) = (jL l).length + r.length := by rw [ofL_len, List.length_append]
  have hck := ckr h
  have hcut : std.ssub (ofL (jL l ++ r)) 0 (jL l).length = journalR l := by
    have e : ofL (jL l ++ r) = std.scat (journalR l) (ofL r) := by rw [<- ofL_app, jL_ofL]
    rw [e, show (jL l).length = (journalR l).size from strL_length _]
    exact ssub_head
  unfold Fq8
  have hsub : std.sub .i64 (std.ofN (std.slen (ofL (jL l ++ r)))) (std.ofN (std.slen (ofL r))) = ((jL l).length : Int) := by
    rw [hlen, ofL_len, s_ofN, s_ofN, sub_id (by omega) (by omega)]; omega
  have hup : std.upTo ((jL l).length : Int) (std.slen (ofL (jL l ++ r))) := ⟨by omega, by rw [hlen]; omega⟩
  have hR := recL_ofL ho r
  obtain ⟨X, hX⟩ : ∃ X, X = oneB (std.ofN (len l)) ++ (twoR (std.ofN (std.slen (bodyR l))) ++ (l.flatMap editB ++ (twoR (ck (preJ l)) ++ r))) := ⟨_, rfl⟩
  have g1 : Fq2 ⟨ofL (jL l ++ r), false⟩ = some (84, ⟨ofL X, false⟩) := by rw [hR, hX]; unfold recL; exact rd_byte (by omega) _ _
  rw [g1, obs]
  simp only
  rw [hX]
  rw [rd_one (x := std.ofN (len l)) (by rw [s_ofN, eL_]; omega), obs]
  simp only
  rw [rd_two (x := std.ofN (std.slen (bodyR l))) (by rw [s_ofN, s_slen]; omega), obs, impl_within_ok, obs, (wBi _ _ _).2 (by rw [s_ofN, eL_]; omega), Bool.not_true, br_f]
  simp only [lq]
  have hl := rd_edits l [] (twoR (ck (preJ l)) ++ r) ho (by simp only [List.length_nil]; omega)
  have hl' : whileP Lq8_x15 (std.ofN (len l), ofL (l.flatMap editB ++ (twoR (ck (preJ l)) ++ r)), false, []) = _ := hl
  rw [hl', obs]
  simp only
  rw [rd_two hck, obs]
  simp only [List.nil_append]
  rw [br_f, hsub, impl_JournalRecord_ok l (by omega) hE, obs, h, ro_ hup, s_toNn, hcut]
  simp only [if_true]
  rw [seq_self, s_not, Bool.not_true, obs, br_f]
theorem first_nil : Fq8 (ofL []) = some ([], 0) := by
  have two : Fq25 ⟨ofL [], true⟩ = some (std.add .i64 (std.shl .i64 0 8) 0, ⟨ofL [], true⟩) := by
    unfold Fq25
    rw [rd_none, obs]
    simp only
    rw [ro_ (by rw [s_nneg]; omega), rd_none, obs]
  unfold Fq8
  rw [rd_none, obs]
  simp only
  rw [rd_none, obs]
  simp only
  rw [two, obs]
  simp only
  rw [impl_within_ok, obs]
  have : wB 0 1 8 = false := by
    cases hq : wB 0 1 8 with
    | false => rfl
    | true => exact absurd ((wBi _ _ _).1 hq) (by omega)
  rw [this, Bool.not_false, br_t]
set_option maxHeartbeats 4000000 in
theorem first_cut {l : List TE} (h : okTrans l = true) {p q : List Int} (hpq : p ++ q = jL l) (hq : q ≠ []) : ∃ l', Fq8 (ofL p) = some (l', 0) := by
  obtain ⟨hn, ho⟩ := okT h
  have hB := bodyR_le h
  have hp : Byt p := fun b hb => jL_byt l b (by rw [<- hpq]; exact List.mem_append_left _ hb)
  have hck := ckr h
  have hR := recL_ofL ho []
  rw [List.append_nil, <- hpq] at hR
  obtain ⟨v1, p1, z1, e1, hp1, m1, w1, _⟩ := rda_one q p false hp
  obtain ⟨v2, p2, z2, e2, hp2, m2, w2, b2⟩ := rda_one q p1 z1 hp1
  obtain ⟨v3, p3, z3, e3, hp3, m3, w3, _⟩ := rda_two q p2 z2 hp2
  unfold Fq8
  rw [e1, obs]
  simp only
  rw [e2, obs]
  simp only
  rw [e3, obs, impl_within_ok, obs]
  cases hw : wB v2 1 8 with
  | false => exact ⟨_, by rw [Bool.not_false, br_t]⟩
  | true =>
    have hv := (wBi _ _ _).1 hw
    obtain ⟨m, rfl⟩ : ∃ m : Nat, v2 = (m : Int) := ⟨v2.toNat, by omega⟩
    obtain ⟨l2, p4, z4, e4, hp4, m4, w4⟩ := rda_edits q m [] p3 z3 hp3 (by simp only [List.length_nil]; omega)
    obtain ⟨v5, p5, z5, e5, hp5, m5, w5, _⟩ := rda_two q p4 z4 hp4
    rw [Bool.not_true, br_f]
    simp only [lq]
    rw [e4, obs]
    simp only
    rw [e5, obs]
    simp only
    cases z5 with
    | true => exact ⟨_, by rw [br_t, obs, br_t]⟩
    | false =>
      have f4 : z4 = false := by cases hz : z4 with | false => rfl | true => have := m5 hz; cases this
      have f3 : z3 = false := by cases hz : z3 with | false => rfl | true => have := m4 hz; rw [f4] at this; cases this
      have f2 : z2 = false := by cases hz : z2 with | false => rfl | true => have := m3 hz; rw [f3] at this; cases this
      have f1 : z1 = false := by cases hz : z1 with | false => rfl | true => have := m2 hz; rw [f2] at this; cases this
      have k1 := w1 f1
      have k2 := w2 f2
      have k3 := w3 f3
      have k4 := w4 f4
      have k5 := w5 rfl
      rw [hR] at k1
      unfold recL at k1
      rw [rd_byte (by omega)] at k1
      injection k1 with k1; injection k1 with _ k1; injection k1 with k1 _
      rw [<- k1, rd_one (x := std.ofN (len l)) (by rw [s_ofN, eL_]; omega)] at k2
      injection k2 with k2; injection k2 with k2a k2; injection k2 with k2 _
      rw [<- k2, rd_two (x := std.ofN (std.slen (bodyR l))) (by rw [s_ofN, s_slen]; omega)] at k3
      injection k3 with k3; injection k3 with _ k3; injection k3 with k3 _
      have hl := rd_edits l [] (twoR (ck (preJ l)) ++ []) ho (by simp only [List.length_nil]; omega)
      rw [<- k3, <- k2a] at k4
      have hl' : whileP Lq8_x15 (std.ofN (len l), ofL (l.flatMap editB ++ (twoR (ck (preJ l)) ++ [])), false, []) = _ := hl
      rw [hl'] at k4
      injection k4 with k4; injection k4 with k4 _
      rw [<- k4, rd_two hck] at k5
      injection k5 with k5; injection k5 with _ k5; injection k5 with k5 _
      have := congrArg ByteArray.size k5
      rw [ofL_size, ofL_size, List.length_append, List.length_nil] at this
      have : q = [] := List.eq_nil_of_length_eq_zero (by omega)
      exact absurd this hq
/- a journal that is cut -/
theorem runs_okE (l : List TE) : ∀ (a : TL) (back : List TE) (i : Nat) (y : List TE × List TC), runs a back i l = .inr y -> ∀ e ∈ l, okEdit e = true := by
  induction l with
  | nil => intro a back i y h e he; cases he
  | cons e r ih =>
    intro a back i y h x hx
    unfold runs at h
    split at h
    · rename_i hc
      rcases List.mem_cons.1 hx with rfl | hx
      · exact (eCode_zero hc).2.1
      · exact ih _ _ _ y h x hx
    · cases h
theorem allR_trans (a : TL) (l : List TE) (h : (allR a l).2.2.1 = 0) : okTrans l = true := by
  unfold allR at h
  by_cases h1 : okLib a = true
  · by_cases h2 : 1 <= l.length /\ l.length <= 8
    · simp only [if_pos h1, if_pos h2] at h
      cases hr : runs a [] 0 l with
      | inl x => rw [hr] at h; exact absurd h (runs_inl l a [] 0 x hr)
      | inr y =>
        unfold okTrans
        rw [decide_eq_true h2.1, decide_eq_true h2.2, List.all_eq_true.2 (runs_okE l a [] 0 y hr)]
        rfl
    · simp only [if_pos h1, if_neg h2] at h
      exact absurd h (by decide)
  · simp only [if_neg h1] at h
    exact absurd h (by decide)
def flatJ (rs : List (List TE)) : List Int := rs.flatMap jL
def finJ (a : TL) (rs : List (List TE)) : TL := rs.foldl (fun s l => (allR s l).1) a
def GoodJ : TL -> List (List TE) -> Prop
  | _, [] => True
  | a, l :: r => (∀ e ∈ l, SmallE e) /\ (allR a l).2.2.1 = 0 /\ GoodJ (allR a l).1 r
theorem good_push : ∀ (rs : List (List TE)) (a : TL) (l : List TE), GoodJ a rs -> (∀ e ∈ l, SmallE e) -> (allR (finJ a rs) l).2.2.1 = 0 -> GoodJ a (rs ++ [l])
  | [], a, l, _, h1, h2 => ⟨h1, h2, tv⟩
  | x :: r, a, l, h, h1, h2 => ⟨h.1, h.2.1, good_push r _ l h.2.2 h1 h2⟩
theorem good_take : ∀ (rs : List (List TE)) (a : TL) (k : Nat), GoodJ a rs -> GoodJ a (rs.take k)
  | [], a, k, h => by rw [List.take_nil]; trivial
  | x :: r, a, 0, h => trivial
  | x :: r, a, k + 1, h => ⟨h.1, h.2.1, good_take r _ k h.2.2⟩
theorem good_fin : ∀ (rs : List (List TE)) (a : TL), GoodJ a rs -> SmallL a -> okLib a = true -> SmallL (finJ a rs) /\ okLib (finJ a rs) = true
  | [], a, h, h1, h2 => ⟨h1, h2⟩
  | x :: r, a, h, h1, h2 => good_fin r _ h.2.2 (allR_small a x h1 h.1) (allR_valid a x h.2.1)
theorem flat_take {rs : List (List TE)} {i j : Nat} (h : i <= j) : (flatJ (rs.take i)).length <= (flatJ (rs.take j)).length := by
  have e : rs.take j = rs.take i ++ (rs.take j).drop i := by
    have := List.take_append_drop i (rs.take j)
    rw [List.take_take, Nat.min_eq_left h] at this
    exact this.symm
  rw [e]
  unfold flatJ
  rw [List.flatMap_append, List.length_append]
  omega
theorem flat_size : ∀ (rs : List (List TE)) (a : TL), GoodJ a rs -> (flatJ rs).length <= rs.length * 20000
  | [], a, _ => by show 0 <= _; omega
  | x :: r, a, h => by
    have h1 := jL_size (allR_trans a x h.2.1)
    have h2 := flat_size r _ h.2.2
    show (jL x ++ flatJ r).length <= _
    rw [List.length_append, List.length_cons]
    omega
theorem ssub_take {W : List Int} {n : Nat} (h : n <= W.length) : std.ssub (ofL W) 0 n = ofL (W.take n) := by
  have hs : (ofL (W.take n)).size = n := by rw [ofL_size, List.length_take]; omega
  have e : ofL W = std.scat (ofL (W.take n)) (ofL (W.drop n)) := by rw [ofL_app, List.take_append_drop]
  have h2 := @ssub_head (ofL (W.take n)) (ofL (W.drop n))
  rw [hs] at h2
  rw [e, h2]
theorem ssub_rest (A X : List Int) : std.ssub (ofL (A ++ X)) A.length (std.slen (ofL (A ++ X))) = ofL X := by
  have h1 := @ssub_tail (ofL A) (ofL X)
  rw [ofL_size, ofL_app] at h1
  exact h1
/-- what is recovered of a journal that is cut at n: the transactions whose records lie ahead of n -/
theorem recover : ∀ (rs : List (List TE)) (a : TL) (c n : Nat), SmallL a -> okLib a = true -> GoodJ a rs -> n <= (flatJ rs).length -> rs.length + c <= 10 ->
    ∃ k, k <= rs.length /\ (flatJ (rs.take k)).length <= n /\ (k = rs.length \/ n < (flatJ (rs.take (k + 1))).length) /\
      whileP Lq21_x8 (ofL ((flatJ rs).take n), (c : Int), a.fC) = some (((c + k : Nat) : Int), (finJ a (rs.take k)).fC)
  | [], a, c, n, hs, hv, hg, hn, hc => by
    refine ⟨0, Nat.le_refl _, Nat.zero_le _, .inl rfl, ?_⟩
    have e : (flatJ []).take n = [] := List.take_nil
    rw [e, whileP_unfold]
    simp only [Lq21_x8, lq]
    rw [first_nil, obs, eq_true' rfl, br_t]
    rfl
  | l :: r, a, c, n, hs, hv, hg, hn, hc => by
    obtain ⟨g1, g2, g3⟩ := hg
    have ht := allR_trans a l g2
    have hz := jL_size ht
    have hfr := flat_size r _ g3
    have hlen : (flatJ (l :: r)).length = (jL l).length + (flatJ r).length := by
      show (jL l ++ flatJ r).length = _
      rw [List.length_append]
    simp only [List.length_cons] at hc
    by_cases hm : (jL l).length <= n
    · obtain ⟨k, k1, k2, k3, k4⟩ := recover r (allR a l).1 (c + 1) (n - (jL l).length) (allR_small a l hs g1) (allR_valid a l g2) g3 (by omega) (by omega)
      refine ⟨k + 1, by simp only [List.length_cons]; omega, ?_, ?_, ?_⟩
      · show (jL l ++ flatJ (r.take k)).length <= n
        rw [List.length_append]; omega
      · rcases k3 with k3 | k3
        · exact .inl (by simp only [List.length_cons]; omega)
        · refine .inr ?_
          show n < (jL l ++ flatJ (r.take (k + 1))).length
          rw [List.length_append]; omega
      · have e : (flatJ (l :: r)).take n = jL l ++ (flatJ r).take (n - (jL l).length) := by
          show (jL l ++ flatJ r).take n = _
          rw [List.take_append, List.take_of_length_le hm]
        have hX : ((flatJ r).take (n - (jL l).length)).length <= 1000000 := by rw [List.length_take]; omega
        rw [e, whileP_unfold]
        simp only [Lq21_x8, lq]
        have hup : std.upTo ((jL l).length : Int) (std.slen (ofL (jL l ++ (flatJ r).take (n - (jL l).length)))) := ⟨by omega, by rw [ofL_len, List.length_append]; omega⟩
        rw [first_ok ht g1 _ hX, obs]
        simp only
        rw [eq_false' (by omega), br_f, show TL.mk a.fC = a from rfl, impl_ApplyEdits_ok a l hs g1, obs]
        unfold apsR
        simp only
        rw [notEq (eq_true' g2), br_f, ro_ hup, s_toNn, ssub_rest, inc_nat (by omega)]
        simp only
        have e2 : c + (k + 1) = c + 1 + k := by omega
        rw [e2]
        exact k4
    · refine ⟨0, Nat.zero_le _, Nat.zero_le _, .inr ?_, ?_⟩
      · show n < (jL l ++ flatJ (r.take 0)).length
        rw [List.length_append]; omega
      · have e : (flatJ (l :: r)).take n = (jL l).take n := by
          show (jL l ++ flatJ r).take n = _
          rw [List.take_append_of_le_length (by omega)]
        obtain ⟨l', hl'⟩ := first_cut ht (p := (jL l).take n) (q := (jL l).drop n) (List.take_append_drop _ _) (fun h => by have := congrArg List.length h; rw [List.length_drop, List.length_nil] at this; omega)
        rw [e, whileP_unfold]
        simp only [Lq21_x8, lq]
        rw [hl', obs]
        simp only
        rw [eq_true' rfl, br_t]
        rfl
theorem recoverJ {rs : List (List TE)} {a : TL} {n : Nat} (hs : SmallL a) (hv : okLib a = true) (hg : GoodJ a rs) (hn : n <= (flatJ rs).length) (hc : rs.length <= 3) :
    ∃ k, k <= rs.length /\ (flatJ (rs.take k)).length <= n /\ (k = rs.length \/ n < (flatJ (rs.take (k + 1))).length) /\ Fq21 a (ofL ((flatJ rs).take n)) = some (finJ a (rs.take k), (k : Int), 0) := by
  obtain ⟨k, k1, k2, k3, k4⟩ := recover rs a 0 n hs hv hg hn (by omega)
  refine ⟨k, k1, k2, k3, ?_⟩
  unfold Fq21
  rw [impl_IsValidLibrary_ok a hs, obs, hv, Bool.not_true, br_f, impl_copyLibrary_ok a hs, obs]
  rw [show ((0 : Nat) : Int) = 0 from rfl, Nat.zero_add] at k4
  rw [k4]
  rfl
def statesJ (a : TL) (rs : List (List TE)) : List TL := (List.range (rs.length + 1)).map fun k => finJ a (rs.take k)
def endsJ (rs : List (List TE)) : List Int := (List.range (rs.length + 1)).map fun k => (((flatJ (rs.take k)).length : Nat) : Int)
theorem gd_mapr {α : Type} [Inhabited α] (f : Nat -> α) {n k : Nat} (h : k < n) : gd ((List.range n).map f) k = f k := by
  rw [gd_lt (by simp; omega)]
  simp
theorem map_push {α : Type} (f : List (List TE) -> α) (rs : List (List TE)) (l : List TE) : (List.range ((rs ++ [l]).length + 1)).map (fun k => f ((rs ++ [l]).take k)) = (List.range (rs.length + 1)).map (fun k => f (rs.take k)) ++ [f (rs ++ [l])] := by
  have h1 : (rs ++ [l]).length = rs.length + 1 := by simp
  rw [h1, List.range_succ, List.map_append]
  congr 1
  · apply List.map_congr_left
    intro k hk
    rw [List.mem_range] at hk
    rw [List.take_append_of_le_length (by omega)]
  · simp only [List.map_cons, List.map_nil]
    rw [List.take_of_length_le (by rw [h1]; exact Nat.le_refl _)]
theorem jc_loop (a : TL) (hs : SmallL a) (hv : okLib a = true) (ls : List (List TE)) (hl : ls.length = 3) (hE : ∀ x ∈ ls, ∀ e ∈ x, SmallE e) : ∀ (m i : Nat) (rs : List (List TE)), i + m = 3 -> rs.length <= i -> GoodJ a rs ->
    ∃ rs', rs'.length <= 3 /\ GoodJ a rs' /\ whileP (Lq26_x38 ls) (ofL (flatJ rs), (i : Int), statesJ a rs, endsJ rs) = some (ofL (flatJ rs'), statesJ a rs', endsJ rs') := by
  intro m
  induction m with
  | zero =>
    intro i rs hi hr hg
    refine ⟨rs, by omega, hg, ?_⟩
    have : i = ls.length := by omega
    subst this
    rw [whileP_unfold]
    simp only [Lq26_x38, lq]
    rw [ltl_f, br_f]
  | succ m ih =>
    intro i rs hi hr hg
    have hil : i < ls.length := by omega
    have hgE := hE _ (gd_mem hil)
    obtain ⟨f1, f2⟩ := good_fin rs a hg hs hv
    have hsl : len (statesJ a rs) = rs.length + 1 := by unfold statesJ; rw [eL_]; simp
    have hel : len (endsJ rs) = rs.length + 1 := by unfold endsJ; rw [eL_]; simp
    have hfl := flat_size rs a hg
    have hsub : std.sub .i64 (std.ofN (len (statesJ a rs))) 1 = ((rs.length : Nat) : Int) := by rw [hsl, s_ofN, sub_id (by omega) (by omega)]; omega
    have hgs : gd (statesJ a rs) rs.length = finJ a rs := by
      unfold statesJ
      rw [gd_mapr _ (Nat.lt_succ_self _), List.take_length]
    rw [whileP_unfold]
    simp only [Lq26_x38, lq, s_nadd, Nat.zero_add]
    rw [ltl_t hil, br_t, hsub, ro_ (show std.inR ((rs.length : Nat) : Int) (len (statesJ a rs)) from ⟨by omega, by rw [hsl]; omega⟩), ro_ (inRl hil), s_toNn, s_toNn, hgs, spec_ApplyEdits_ok _ _ f1 hgE]
    unfold apsR
    simp only [obs]
    by_cases h0 : (allR (finJ a rs) (gd ls i)).2.2.1 = 0
    · have ht := allR_trans _ _ h0
      have hz := jL_size ht
      have hjs : (journalR (gd ls i)).size = (jL (gd ls i)).length := (strL_length _).symm
      rw [eq_true' h0, br_t, ro_ (inRl hil), impl_JournalRecord_ok _ (by have := (okT ht).1; omega) hgE, obs, ht]
      simp only [if_true]
      have hcat : std.scat (ofL (flatJ rs)) (journalR (gd ls i)) = ofL (flatJ (rs ++ [gd ls i])) := by
        rw [<- jL_ofL, ofL_app]
        unfold flatJ
        rw [List.flatMap_append]
        simp
      rw [ro_ (by rw [s_room, ofL_len, s_slen, hjs]; omega), ro_ (roomC (by rw [hsl]; simp only [eL_, List.length_cons, List.length_nil]; omega) (by omega)), ro_ (roomC (by rw [hel]; simp only [eL_, List.length_cons, List.length_nil]; omega) (by omega)), obs]
      simp only
      rw [hcat, inc_nat (by omega)]
      have e1 : statesJ a rs ++ [TL.mk (allR (finJ a rs) (gd ls i)).1.fC] = statesJ a (rs ++ [gd ls i]) := by
        unfold statesJ
        rw [map_push (finJ a)]
        unfold finJ
        rw [List.foldl_append]
        rfl
      have e2 : endsJ rs ++ [std.ofN (std.slen (ofL (flatJ (rs ++ [gd ls i]))))] = endsJ (rs ++ [gd ls i]) := by
        unfold endsJ
        rw [map_push (fun q => (((flatJ q).length : Nat) : Int)), ofL_len, s_ofN]
      rw [e1, e2]
      exact ih (i + 1) (rs ++ [gd ls i]) (by omega) (by simp only [List.length_append, List.length_cons, List.length_nil]; omega) (good_push rs a _ hg hgE h0)
    · rw [eq_false' h0, br_f, obs]
      simp only
      rw [inc_nat (by omega)]
      exact ih (i + 1) rs (by omega) (by omega) hg
theorem want_loop (rs : List (List TE)) (n k : Nat) (hr : rs.length <= 3) (k1 : k <= rs.length) (k2 : (flatJ (rs.take k)).length <= n) (k3 : k = rs.length \/ n < (flatJ (rs.take (k + 1))).length) (d : Tdice) : ∀ (m i : Nat), i + m = rs.length + 1 ->
    whileP (Lq26_x96 (endsJ rs) ((n : Int), d)) ((i : Int), ((min (i - 1) k : Nat) : Int)) = some (k : Int) := by
  intro m
  have hel : len (endsJ rs) = rs.length + 1 := by unfold endsJ; rw [eL_]; simp
  induction m with
  | zero =>
    intro i hi
    rw [whileP_unfold]
    simp only [Lq26_x96, lq]
    rw [hel, lt_false (by rw [s_ofN]; omega), br_f, show min (i - 1) k = k by omega]
  | succ m ih =>
    intro i hi
    have hge : gd (endsJ rs) i = (((flatJ (rs.take i)).length : Nat) : Int) := by
      unfold endsJ
      rw [gd_mapr _ (by omega)]
    rw [whileP_unfold]
    simp only [Lq26_x96, lq, s_nadd, Nat.zero_add, s_toNn]
    rw [lt_true (by rw [s_ofN, hel]; omega), br_t, ro_ (show std.inR (i : Int) (len (endsJ rs)) from ⟨by omega, by rw [hel]; omega⟩), hge]
    have := ih (i + 1) (by omega)
    rw [Nat.add_sub_cancel] at this
    by_cases hik : i <= k
    · have h1 := @flat_take rs i k hik
      rw [le_true (by omega), br_t, obs, inc_nat (by omega)]
      rw [show min i k = i by omega] at this
      exact this
    · have h1 := @flat_take rs (k + 1) i (by omega)
      have h2 : n < (flatJ (rs.take (k + 1))).length := by
        rcases k3 with k3 | k3
        · omega
        · exact k3
      rw [le_false (by omega), br_f, obs, inc_nat (by omega)]
      rw [show min i k = k by omega] at this
      rw [show min (i - 1) k = k by omega]
      exact this
theorem lawW_JournalCut (c : List Int) (w : (wfL (wfI .u8)) c) : Fq26 c = some true := by
  unfold Fq26 Fq122
  rw [obs, eL_, s_ofN, s_lt, br_dec]
  by_cases h0 : (4096 : Int) < (c.length : Int)
  · rw [if_pos h0]
  · rw [if_neg h0]
    have hc : c.length <= 4096 /\ ∀ b ∈ c, 0 <= b /\ b <= 255 := ⟨by omega, fun b hb => wf_byteU (w.2 b hb)⟩
    have hoc : OKc c := ⟨by have := hc.1; omega, hc.2⟩
    obtain ⟨⟨a, l⟩, hd, ha, hll, hE⟩ := drawApplyEdits_ok (c := c) hoc
    obtain ⟨c2, hd2, hc2⟩ := other_ok hc (k := 5) (.inr rfl)
    obtain ⟨⟨a2, l2⟩, hd3, ha2, hll2, hE2⟩ := drawApplyEdits_ok hc2
    simp only at ha hll hE hE2
    rw [hd]
    simp only [obs, lq]
    rw [show TL.mk a.fC = a from rfl, spec_IsValidLibrary_ok a ha, obs]
    cases hv : okLib a with
    | false =>
      rw [Bool.not_false, br_t]
      unfold Fq21
      rw [impl_IsValidLibrary_ok a ha, obs, hv, Bool.not_false, br_t, obs, eq_true' rfl]
    | true =>
      rw [Bool.not_true, br_f, hd2]
      simp only [obs]
      rw [hd3]
      simp only [obs]
      have hx : ∀ x ∈ [l, l2, l], ∀ e ∈ x, SmallE e := fun x hx => by
        simp only [List.mem_cons, List.not_mem_nil, or_false] at hx
        rcases hx with rfl | rfl | rfl <;> assumption
      obtain ⟨rs, r1, r2, r3⟩ := jc_loop a ha hv [l, l2, l] rfl hx 3 0 [] rfl (Nat.le_refl _) trivial
      have r3' : whileP (Lq26_x38 [l, l2, l]) (ByteArray.mk #[], 0, [a], [0]) = some (ofL (flatJ rs), statesJ a rs, endsJ rs) := r3
      rw [r3', obs]
      simp only
      have hfs := flat_size rs a r2
      have hsl : std.slen (ofL (flatJ rs)) = (flatJ rs).length := ofL_len _
      obtain ⟨d, hd4, hdd⟩ := roll_ok hoc 521
      have em : std.add .i64 (std.ofN (std.slen (ofL (flatJ rs)))) 1 = ((flatJ rs).length : Int) + 1 := by rw [hsl, s_ofN, add_id (by omega) (by omega)]
      obtain ⟨⟨x, d2⟩, hd5, hx0, hx1⟩ := below_ok hoc hdd (m := ((flatJ rs).length : Int) + 1) ⟨by omega, by omega⟩
      obtain ⟨n, rfl⟩ : ∃ n : Nat, x = (n : Int) := ⟨x.toNat, by simp only at hx0; omega⟩
      simp only at hx1
      rw [hd4, obs, em, hd5, obs]
      have hn : n <= (flatJ rs).length := by omega
      obtain ⟨k, k1, k2, k3, k4⟩ := recoverJ ha hv r2 hn r1
      have hw := want_loop rs n k r1 k1 k2 k3 d2 (rs.length + 1) 0 (by omega)
      have hw' : whileP (Lq26_x96 (endsJ rs) ((n : Int), d2)) (0, 0) = some (k : Int) := by
        have e : min (0 - 1) k = 0 := by omega
        rw [e] at hw
        exact hw
      rw [hw', obs]
      simp only
      rw [ro_ (show std.upTo (n : Int) (std.slen (ofL (flatJ rs))) from ⟨by omega, by rw [hsl]; omega⟩), s_toNn, ssub_take hn, k4, obs]
      obtain ⟨q, q1, q2, q3, q4⟩ := recoverJ ha hv r2 (Nat.le_refl _) r1
      rw [List.take_length] at q4
      rw [q4, obs]
      simp only
      have hq : q = rs.length := by
        rcases q3 with q3 | q3
        · exact q3
        · have := @flat_take rs (q + 1) (max (q + 1) rs.length) (by omega)
          rw [List.take_of_length_le (show rs.length <= max (q + 1) rs.length by omega)] at this
          omega
      have hsl2 : len (statesJ a rs) = rs.length + 1 := by unfold statesJ; rw [eL_]; simp
      have hsub : std.sub .i64 (std.ofN (len (statesJ a rs))) 1 = ((rs.length : Nat) : Int) := by rw [hsl2, s_ofN, sub_id (by omega) (by omega)]; omega
      have hgs : ∀ j, j <= rs.length -> gd (statesJ a rs) j = finJ a (rs.take j) := fun j hj => by
        unfold statesJ
        rw [gd_mapr _ (by omega)]
      have same : ∀ j, Fq73 (finJ a (rs.take j)) (finJ a (rs.take j)) = some true := fun j => by
        obtain ⟨g1, g2⟩ := good_fin (rs.take j) a (good_take rs a j r2) ha hv
        exact impl_SameLibrary_ok _ g1 g2
      rw [eq_true' rfl, br_t, eq_true' rfl, br_t, ro_ (show std.inR (k : Int) (len (statesJ a rs)) from ⟨by omega, by rw [hsl2]; omega⟩)]
      simp only [s_nadd, Nat.zero_add, s_toNn, hsub]
      rw [hgs k k1, same k, obs, br_t, hq, eq_true' rfl, br_t, ro_ (show std.inR ((rs.length : Nat) : Int) (len (statesJ a rs)) from ⟨by omega, by rw [hsl2]; omega⟩), hgs _ (Nat.le_refl _), same rs.length]
      rfl
end
end Go.Proofs.YtfoefnkbiofejaaGreat.AM
