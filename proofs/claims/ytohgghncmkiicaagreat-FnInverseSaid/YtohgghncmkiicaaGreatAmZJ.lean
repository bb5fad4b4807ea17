/-
  What the functions that the law reaches compute, and that they do. No condition.
-/
import Derived.Test.YtohgghncmkiicaaGreatAmSZ
namespace Go.Proofs.YtohgghncmkiicaaGreat.AM
open Go Go.Proofs Go.RowKit
set_option linter.unusedVariables false
set_option linter.unusedSimpArgs false
set_option maxRecDepth 100000

/- an edit and its inverse -/
theorem del_ins {α : Type} (l : List α) (q : Nat) (x : α) (h : q <= l.length) : delA (insA l q x) q = l := by
  have hl : (List.take q l).length = q := by simp; omega
  unfold delA insA
  rw [List.append_assoc, List.take_left' hl]
  have e : List.drop (q + 1) (List.take q l ++ ([x] ++ List.drop q l)) = List.drop q l := by
    rw [<- List.drop_drop, List.drop_left' hl]
    rfl
  rw [e, List.take_append_drop]
theorem ins_del {α : Type} [Inhabited α] (l : List α) (q : Nat) (h : q < l.length) : insA (delA l q) q (gd l q) = l := by
  have hl : (List.take q l).length = q := by simp; omega
  unfold delA insA
  rw [List.take_left' hl, List.drop_left' hl, List.append_assoc, List.singleton_append, gd_lt h, <- List.drop_eq_getElem_cons h, List.take_append_drop]
theorem shI_back (m : Int) (i : TI) (hm : 0 <= m /\ m <= 1000) (hi : 0 <= i.fc /\ i.fc <= 1000) : shI m (-1) (shI m 1 i) = i := by
  unfold shI
  by_cases h : m <= i.fc
  · have e1 : std.add .i64 i.fc 1 = i.fc + 1 := add_id (by omega) (by omega)
    have e2 : std.add .i64 (i.fc + 1) (-1) = i.fc := by rw [add_id (by omega) (by omega)]; omega
    rw [le_true h]
    simp only [cond_true, e1]
    rw [le_true (by omega)]
    simp only [cond_true, e2]
  · rw [le_false h]
    simp only [cond_false]
    rw [le_false h]
    rfl
theorem shI_forth (m : Int) (i : TI) (hm : 0 <= m /\ m <= 1000) (hi : 0 <= i.fc /\ i.fc <= 1000) (hne : i.fc ≠ m) : shI m 1 (shI m (-1) i) = i := by
  unfold shI
  by_cases h : m <= i.fc
  · have e1 : std.add .i64 i.fc (-1) = i.fc - 1 := by rw [add_id (by omega) (by omega)]; omega
    have e2 : std.add .i64 (i.fc - 1) 1 = i.fc := by rw [add_id (by omega) (by omega)]; omega
    rw [le_true h]
    simp only [cond_true, e1]
    rw [le_true (by omega)]
    simp only [cond_true, e2]
  · rw [le_false h]
    simp only [cond_false]
    rw [le_false h]
    rfl
theorem shC_back (m : Int) (c : TC) (hm : 0 <= m /\ m <= 1000) (h : ∀ i ∈ c.fI, 0 <= i.fc /\ i.fc <= 1000) : shC m (-1) (shC m 1 c) = c := by
  unfold shC
  simp only [List.map_map]
  rw [show List.map (shI m (-1) ∘ shI m 1) c.fI = c.fI from (List.map_congr_left (fun i hi => shI_back m i hm (h i hi))).trans (List.map_id' _)]
theorem shC_forth (m : Int) (c : TC) (hm : 0 <= m /\ m <= 1000) (h : ∀ i ∈ c.fI, 0 <= i.fc /\ i.fc <= 1000) (hne : ∀ i ∈ c.fI, i.fc ≠ m) : shC m 1 (shC m (-1) c) = c := by
  unfold shC
  simp only [List.map_map]
  rw [show List.map (shI m 1 ∘ shI m (-1)) c.fI = c.fI from (List.map_congr_left (fun i hi => shI_forth m i hm (h i hi) (hne i hi))).trans (List.map_id' _)]
/-- what a valid library says of its cells -/
theorem okLib_at {a : TL} (hv : okLib a = true) {k : Nat} (hk : k < a.fC.length) : okCell (gd a.fC k) k = true /\ fresh a.fC k = true := by
  unfold okLib at hv
  simp only [Bool.and_eq_true, List.all_eq_true, List.mem_range] at hv
  exact hv.2.2 k hk
theorem okLib_of {a : TL} (h1 : 1 <= a.fC.length) (h2 : a.fC.length <= 8) (h : ∀ k, k < a.fC.length -> okCell (gd a.fC k) k = true /\ fresh a.fC k = true) : okLib a = true := by
  unfold okLib
  simp only [Bool.and_eq_true, List.all_eq_true, List.mem_range, decide_eq_true_eq]
  exact ⟨h1, h2, h⟩
structure CellOk (c : TC) (k : Int) : Prop where
  name : isName c.fN = true
  sn : c.fS.length <= 24
  ln : c.fL.length <= 8
  inn : c.fI.length <= 8
  s : ∀ x ∈ c.fS, okShape x = true
  l : ∀ x ∈ c.fL, okLabel x = true
  i : ∀ x ∈ c.fI, okInst x k = true
theorem okCell_iff {c : TC} {k : Int} : okCell c k = true ↔ CellOk c k := by
  unfold okCell
  simp only [Bool.and_eq_true, decide_eq_true_eq, List.all_eq_true]
  exact ⟨fun ⟨a1, a2, a3, a4, a5, a6, a7⟩ => ⟨a1, a2, a3, a4, a5, a6, a7⟩, fun h => ⟨h.name, h.sn, h.ln, h.inn, h.s, h.l, h.i⟩⟩
theorem okInst_cell {i : TI} {k : Int} (h : okInst i k = true) (hk : 0 <= k /\ k <= 1000) : 0 <= i.fc /\ i.fc < k := by
  unfold okInst at h
  rw [Bool.and_eq_true] at h
  have := (wBi _ _ _).1 h.1
  rw [sub_id (by omega) (by omega)] at this
  omega
/-- the cell's number of an instance, another bound -/
theorem okInst_mv {i j : TI} {k k2 : Int} (h : okInst i k = true) (e : j = ⟨j.fc, i.fp, i.fK, i.fR, i.fu, i.fv⟩) (hk : 0 <= k2 /\ k2 <= 1000) (hj : 0 <= j.fc /\ j.fc < k2) : okInst j k2 = true := by
  unfold okInst at h ⊢
  rw [Bool.and_eq_true] at h ⊢
  refine ⟨(wBi _ _ _).2 (by rw [sub_id (by omega) (by omega)]; omega), ?_⟩
  rw [e]
  exact h.2
/-- both ways of a rename, an insertion and a removal within a cell -/
theorem appE_in {a : TL} {e : TE} (h8 : e.fk ≠ 8) (h9 : e.fk ≠ 9) {m : Nat} (hm : e.fc = (m : Int)) : appE a e = ⟨a.fC.set m (edC e (gd a.fC m))⟩ := by
  unfold appE
  rw [if_neg h8, if_neg h9, show e.fc.toNat = m by omega]
theorem set_gd_self {α : Type} [Inhabited α] {l : List α} {m : Nat} (h : m < l.length) : l.set m (gd l m) = l := by
  rw [gd_lt h]; simp
/-- a library stays valid where one cell is replaced by a valid one of a name that no other has -/
theorem okLib_set {a : TL} (hv : okLib a = true) {m : Nat} (hm : m < a.fC.length) {c : TC} (hc : CellOk c m) (hn : c.fN = (gd a.fC m).fN \/ othN a.fC (m : Int) c.fN = false) : okLib ⟨a.fC.set m c⟩ = true := by
  have hl := okLib_len hv
  have hnm : ∀ j, j < a.fC.length -> j ≠ m -> std.seq (gd a.fC j).fN c.fN = false := by
    intro j hj hjm
    rcases hn with hn | hn
    · rw [hn]
      cases hs : std.seq (gd a.fC j).fN (gd a.fC m).fN with
      | false => rfl
      | true => exact absurd (name_once hv hj hm hs (seq_self _)) hjm
    · unfold othN at hn
      rw [List.any_eq_false] at hn
      have := hn j (List.mem_range.2 hj)
      rw [eq_false' (by omega)] at this
      simpa [s_not] using this
  refine okLib_of (by rw [List.length_set]; exact hl.1) (by rw [List.length_set]; exact hl.2) (fun k hk => ?_)
  rw [List.length_set] at hk
  obtain ⟨g1, g2⟩ := okLib_at hv hk
  refine ⟨?_, ?_⟩
  · by_cases hkm : m = k
    · subst hkm; rw [gd_set_eq hm]; exact okCell_iff.2 hc
    · rw [gd_set_ne (fun h => hkm h.symm)]; exact g1
  · unfold fresh at g2 ⊢
    rw [List.all_eq_true] at g2 ⊢
    intro j hj
    have hjk := List.mem_range.1 hj
    have := g2 j hj
    by_cases h1 : m = k
    · subst h1
      rw [gd_set_eq hm, gd_set_ne (show j ≠ m by omega), hnm j (by omega) (by omega)]; rfl
    · rw [gd_set_ne (fun h => h1 h.symm)]
      by_cases h2 : m = j
      · subst h2
        rw [gd_set_eq hm]
        cases hs : std.seq c.fN (gd a.fC k).fN with
        | false => rfl
        | true => have := hnm k hk (fun h => h1 h.symm); rw [seq_comm hs] at this; cases this
      · rw [gd_set_ne (fun h => h2 h.symm)]; exact this
/- edits within a cell: what is valid stays valid, the inverse is possible and restores -/
theorem zS_z : zS zSh = true := by simp [zS, zSh, s_eq]
theorem zL_z : zL zLa = true := by simp [zL, zLa, s_eq, seq_self]
theorem zI_z : zI zIn = true := by simp [zI, zIn, s_eq]
theorem okEdit_at {e : TE} (h : okEdit e = true) : ((0 <= e.fc /\ e.fc <= 8) /\ (0 <= e.fx /\ e.fx <= 24)) /\ (e.fk = 1 -> okShape e.fs_ = true) /\ (e.fk = 3 -> okLabel e.fl_ = true) /\ (e.fk = 5 -> okInst e.fi_ 8 = true) /\ (e.fk = 7 \/ e.fk = 8 -> isName e.fN = true /\ e.fx = 0) := by
  unfold okEdit at h
  rw [Bool.and_eq_true, Bool.and_eq_true, wBi, wBi] at h
  refine ⟨h.1, fun hk => ?_, fun hk => ?_, fun hk => ?_, fun hk => ?_⟩
  · have := h.2; simp only [hk, if_true, Bool.and_eq_true] at this; exact this.1.1.2
  · have := h.2; simp [hk] at this; exact this.1.2
  · have := h.2; simp [hk] at this; exact this.2
  · have := h.2
    rcases hk with hk | hk <;> simp [hk] at this <;> exact ⟨this.1.1.1.2, by have h0 := this.1.1.1.1; rw [s_eq, decide_eq_true_eq] at h0; exact h0⟩
theorem in_1 (a : TL) (m q : Nat) (name : ByteArray) (shape : TS) (label : TB) (inst : TI) (hc : eCode a ⟨1, m, q, name, shape, label, inst⟩ = 0) :
    okLib (appE a ⟨1, m, q, name, shape, label, inst⟩) = true /\ eCode (appE a ⟨1, m, q, name, shape, label, inst⟩) (invE a ⟨1, m, q, name, shape, label, inst⟩) = 0 /\ appE (appE a ⟨1, m, q, name, shape, label, inst⟩) (invE a ⟨1, m, q, name, shape, label, inst⟩) = a := by
  obtain ⟨hv, he, hcell⟩ := eCode_zero hc
  obtain ⟨m2, hm2, hlt⟩ := hcell (show (1 : Int) ≠ 8 by decide)
  obtain rfl : m = m2 := by simp only at hm2; omega
  clear hm2 hcell
  obtain ⟨⟨w1, w2⟩, o1, o3, o5, o7⟩ := okEdit_at he
  have hl := okLib_len hv
  obtain ⟨g1, g2⟩ := okLib_at hv hlt
  have co := okCell_iff.1 g1
  obtain ⟨n1, n3, n5⟩ := eCode_ins hc rfl hlt
  have nx := n1 rfl
  obtain ⟨c, hcd⟩ : ∃ c, c = gd a.fC m := ⟨_, rfl⟩
  rw [<- hcd] at co nx
  have ea : appE a ⟨1, m, q, name, shape, label, inst⟩ = ⟨a.fC.set m ⟨c.fN, insA c.fS q shape, c.fL, c.fI⟩⟩ := by
    rw [appE_in (show (1 : Int) ≠ 8 by decide) (show (1 : Int) ≠ 9 by decide) (m := m) rfl, <- hcd]
    rfl
  have ei : invE a ⟨1, m, q, name, shape, label, inst⟩ = ⟨2, m, q, ByteArray.mk #[], zSh, zLa, zIn⟩ := rfl
  have cn : CellOk ⟨c.fN, insA c.fS q shape, c.fL, c.fI⟩ (m : Int) := ⟨co.name, (by show (insA c.fS q shape).length <= 24; rw [insA_len]; have := co.sn; have := nx.2; omega), co.ln, co.inn, (fun y hy => by rcases insA_mem hy with hy | rfl; exact co.s y hy; exact o1 rfl), co.l, co.i⟩
  have hv2 : okLib ⟨a.fC.set m ⟨c.fN, insA c.fS q shape, c.fL, c.fI⟩⟩ = true := okLib_set hv hlt cn (.inl (by rw [hcd]))
  have hg : gd (a.fC.set m ⟨c.fN, insA c.fS q shape, c.fL, c.fI⟩) m = ⟨c.fN, insA c.fS q shape, c.fL, c.fI⟩ := gd_set_eq hlt
  rw [ea, ei]
  refine ⟨hv2, ?_, ?_⟩
  · have he2 : okEdit ⟨2, m, q, ByteArray.mk #[], zSh, zLa, zIn⟩ = true := by
      unfold okEdit
      rw [Bool.and_eq_true, Bool.and_eq_true, wBi, wBi]
      refine ⟨⟨w1, w2⟩, ?_⟩
      simp only [Int.reduceEq, if_true, if_false, or_self, or_false, false_or, true_or, or_true, zS_z, zL_z, zI_z, seq_self, Bool.and_self]
    unfold eCode
    rw [if_neg (by rw [hv2, he2]; decide), if_neg (show ¬ (2 : Int) = 8 by decide), if_neg (by show ¬ ((a.fC.set m _).length : Int) <= (m : Int); rw [List.length_set]; omega), if_neg (show ¬ (2 : Int) = 1 by decide), if_pos (show (2 : Int) = 2 from rfl)]
    rw [Int.toNat_natCast, hg]
    have hn := insA_len c.fS q shape
    unfold delC
    rw [if_neg (by show ¬ (((insA c.fS q shape).length : Nat) : Int) <= (q : Int); rw [hn]; have := nx.1; simp only at this; omega)]
  · rw [appE_in (show (2 : Int) ≠ 8 by decide) (show (2 : Int) ≠ 9 by decide) (m := m) rfl, hg]
    show (⟨(a.fC.set m _).set m ⟨c.fN, delA (insA c.fS q shape) q, c.fL, c.fI⟩⟩ : TL) = a
    rw [del_ins _ _ _ (by have := nx.1; simp only at this; omega), List.set_set]
    show (⟨a.fC.set m c⟩ : TL) = a
    rw [hcd, set_gd_self hlt]
theorem in_2 (a : TL) (m q : Nat) (name : ByteArray) (shape : TS) (label : TB) (inst : TI) (hc : eCode a ⟨2, m, q, name, shape, label, inst⟩ = 0) :
    okLib (appE a ⟨2, m, q, name, shape, label, inst⟩) = true /\ eCode (appE a ⟨2, m, q, name, shape, label, inst⟩) (invE a ⟨2, m, q, name, shape, label, inst⟩) = 0 /\ appE (appE a ⟨2, m, q, name, shape, label, inst⟩) (invE a ⟨2, m, q, name, shape, label, inst⟩) = a := by
  obtain ⟨hv, he, hcell⟩ := eCode_zero hc
  obtain ⟨m2, hm2, hlt⟩ := hcell (show (2 : Int) ≠ 8 by decide)
  obtain rfl : m = m2 := by simp only at hm2; omega
  clear hm2 hcell
  obtain ⟨⟨w1, w2⟩, o1, o3, o5, o7⟩ := okEdit_at he
  have hl := okLib_len hv
  obtain ⟨g1, g2⟩ := okLib_at hv hlt
  have co := okCell_iff.1 g1
  obtain ⟨d2, d4, d6⟩ := eCode_index hc rfl hlt
  obtain ⟨q2, e1, hq⟩ := d2 rfl
  obtain rfl : q = q2 := by simp only at e1; omega
  obtain ⟨c, hcd⟩ : ∃ c, c = gd a.fC m := ⟨_, rfl⟩
  rw [<- hcd] at co hq
  have ea : appE a ⟨2, m, q, name, shape, label, inst⟩ = ⟨a.fC.set m ⟨c.fN, delA c.fS q, c.fL, c.fI⟩⟩ := by
    rw [appE_in (show (2 : Int) ≠ 8 by decide) (show (2 : Int) ≠ 9 by decide) (m := m) rfl, <- hcd]
    rfl
  have ei : invE a ⟨2, m, q, name, shape, label, inst⟩ = ⟨1, m, q, ByteArray.mk #[], (gd c.fS q), zLa, zIn⟩ := by
    unfold invE
    simp only [Int.reduceEq, if_true, if_false, Int.toNat_natCast, <- hcd]
  have cn : CellOk ⟨c.fN, delA c.fS q, c.fL, c.fI⟩ (m : Int) := ⟨co.name, (by show (delA c.fS q).length <= 24; have := delA_len c.fS q; have := co.sn; omega), co.ln, co.inn, (fun y hy => co.s y (delA_mem hy)), co.l, co.i⟩
  have hv2 : okLib ⟨a.fC.set m ⟨c.fN, delA c.fS q, c.fL, c.fI⟩⟩ = true := okLib_set hv hlt cn (.inl (by rw [hcd]))
  have hg : gd (a.fC.set m ⟨c.fN, delA c.fS q, c.fL, c.fI⟩) m = ⟨c.fN, delA c.fS q, c.fL, c.fI⟩ := gd_set_eq hlt
  rw [ea, ei]
  refine ⟨hv2, ?_, ?_⟩
  · have he2 : okEdit ⟨1, m, q, ByteArray.mk #[], (gd c.fS q), zLa, zIn⟩ = true := by
      unfold okEdit
      rw [Bool.and_eq_true, Bool.and_eq_true, wBi, wBi]
      refine ⟨⟨w1, w2⟩, ?_⟩
      have hx : okShape (gd c.fS q) = true := co.s _ (gd_mem hq)
      simp only [Int.reduceEq, if_true, if_false, or_self, or_false, false_or, true_or, or_true, zS_z, zL_z, zI_z, seq_self, Bool.and_self, hx]
    unfold eCode
    rw [if_neg (by rw [hv2, he2]; decide), if_neg (show ¬ (1 : Int) = 8 by decide), if_neg (by show ¬ ((a.fC.set m _).length : Int) <= (m : Int); rw [List.length_set]; omega), if_pos (show (1 : Int) = 1 from rfl)]
    rw [Int.toNat_natCast, hg]
    have hn : (delA c.fS q).length + 1 = c.fS.length := by unfold delA; simp only [List.length_append, List.length_take, List.length_drop]; omega
    have hmx := co.sn
    have hi : insC (q : Int) (delA c.fS q).length 24 = 0 := by
      unfold insC
      rw [if_neg (by omega), if_neg (by omega)]
    exact hi
  · rw [appE_in (show (1 : Int) ≠ 8 by decide) (show (1 : Int) ≠ 9 by decide) (m := m) rfl, hg]
    show (⟨(a.fC.set m _).set m ⟨c.fN, insA (delA c.fS q) q (gd c.fS q), c.fL, c.fI⟩⟩ : TL) = a
    rw [ins_del _ _ hq, List.set_set]
    show (⟨a.fC.set m c⟩ : TL) = a
    rw [hcd, set_gd_self hlt]
theorem in_3 (a : TL) (m q : Nat) (name : ByteArray) (shape : TS) (label : TB) (inst : TI) (hc : eCode a ⟨3, m, q, name, shape, label, inst⟩ = 0) :
    okLib (appE a ⟨3, m, q, name, shape, label, inst⟩) = true /\ eCode (appE a ⟨3, m, q, name, shape, label, inst⟩) (invE a ⟨3, m, q, name, shape, label, inst⟩) = 0 /\ appE (appE a ⟨3, m, q, name, shape, label, inst⟩) (invE a ⟨3, m, q, name, shape, label, inst⟩) = a := by
  obtain ⟨hv, he, hcell⟩ := eCode_zero hc
  obtain ⟨m2, hm2, hlt⟩ := hcell (show (3 : Int) ≠ 8 by decide)
  obtain rfl : m = m2 := by simp only at hm2; omega
  clear hm2 hcell
  obtain ⟨⟨w1, w2⟩, o1, o3, o5, o7⟩ := okEdit_at he
  have hl := okLib_len hv
  obtain ⟨g1, g2⟩ := okLib_at hv hlt
  have co := okCell_iff.1 g1
  obtain ⟨n1, n3, n5⟩ := eCode_ins hc rfl hlt
  have nx := n3 rfl
  obtain ⟨c, hcd⟩ : ∃ c, c = gd a.fC m := ⟨_, rfl⟩
  rw [<- hcd] at co nx
  have ea : appE a ⟨3, m, q, name, shape, label, inst⟩ = ⟨a.fC.set m ⟨c.fN, c.fS, insA c.fL q label, c.fI⟩⟩ := by
    rw [appE_in (show (3 : Int) ≠ 8 by decide) (show (3 : Int) ≠ 9 by decide) (m := m) rfl, <- hcd]
    rfl
  have ei : invE a ⟨3, m, q, name, shape, label, inst⟩ = ⟨4, m, q, ByteArray.mk #[], zSh, zLa, zIn⟩ := rfl
  have cn : CellOk ⟨c.fN, c.fS, insA c.fL q label, c.fI⟩ (m : Int) := ⟨co.name, co.sn, (by show (insA c.fL q label).length <= 8; rw [insA_len]; have := co.ln; have := nx.2; omega), co.inn, co.s, (fun y hy => by rcases insA_mem hy with hy | rfl; exact co.l y hy; exact o3 rfl), co.i⟩
  have hv2 : okLib ⟨a.fC.set m ⟨c.fN, c.fS, insA c.fL q label, c.fI⟩⟩ = true := okLib_set hv hlt cn (.inl (by rw [hcd]))
  have hg : gd (a.fC.set m ⟨c.fN, c.fS, insA c.fL q label, c.fI⟩) m = ⟨c.fN, c.fS, insA c.fL q label, c.fI⟩ := gd_set_eq hlt
  rw [ea, ei]
  refine ⟨hv2, ?_, ?_⟩
  · have he2 : okEdit ⟨4, m, q, ByteArray.mk #[], zSh, zLa, zIn⟩ = true := by
      unfold okEdit
      rw [Bool.and_eq_true, Bool.and_eq_true, wBi, wBi]
      refine ⟨⟨w1, w2⟩, ?_⟩
      simp only [Int.reduceEq, if_true, if_false, or_self, or_false, false_or, true_or, or_true, zS_z, zL_z, zI_z, seq_self, Bool.and_self]
    unfold eCode
    rw [if_neg (by rw [hv2, he2]; decide), if_neg (show ¬ (4 : Int) = 8 by decide), if_neg (by show ¬ ((a.fC.set m _).length : Int) <= (m : Int); rw [List.length_set]; omega), if_neg (show ¬ (4 : Int) = 1 by decide), if_neg (show ¬ (4 : Int) = 2 by decide), if_neg (show ¬ (4 : Int) = 3 by decide), if_pos (show (4 : Int) = 4 from rfl)]
    rw [Int.toNat_natCast, hg]
    have hn := insA_len c.fL q label
    unfold delC
    rw [if_neg (by show ¬ (((insA c.fL q label).length : Nat) : Int) <= (q : Int); rw [hn]; have := nx.1; simp only at this; omega)]
  · rw [appE_in (show (4 : Int) ≠ 8 by decide) (show (4 : Int) ≠ 9 by decide) (m := m) rfl, hg]
    show (⟨(a.fC.set m _).set m ⟨c.fN, c.fS, delA (insA c.fL q label) q, c.fI⟩⟩ : TL) = a
    rw [del_ins _ _ _ (by have := nx.1; simp only at this; omega), List.set_set]
    show (⟨a.fC.set m c⟩ : TL) = a
    rw [hcd, set_gd_self hlt]
theorem in_4 (a : TL) (m q : Nat) (name : ByteArray) (shape : TS) (label : TB) (inst : TI) (hc : eCode a ⟨4, m, q, name, shape, label, inst⟩ = 0) :
    okLib (appE a ⟨4, m, q, name, shape, label, inst⟩) = true /\ eCode (appE a ⟨4, m, q, name, shape, label, inst⟩) (invE a ⟨4, m, q, name, shape, label, inst⟩) = 0 /\ appE (appE a ⟨4, m, q, name, shape, label, inst⟩) (invE a ⟨4, m, q, name, shape, label, inst⟩) = a := by
  obtain ⟨hv, he, hcell⟩ := eCode_zero hc
  obtain ⟨m2, hm2, hlt⟩ := hcell (show (4 : Int) ≠ 8 by decide)
  obtain rfl : m = m2 := by simp only at hm2; omega
  clear hm2 hcell
  obtain ⟨⟨w1, w2⟩, o1, o3, o5, o7⟩ := okEdit_at he
  have hl := okLib_len hv
  obtain ⟨g1, g2⟩ := okLib_at hv hlt
  have co := okCell_iff.1 g1
  obtain ⟨d2, d4, d6⟩ := eCode_index hc rfl hlt
  obtain ⟨q2, e1, hq⟩ := d4 rfl
  obtain rfl : q = q2 := by simp only at e1; omega
  obtain ⟨c, hcd⟩ : ∃ c, c = gd a.fC m := ⟨_, rfl⟩
  rw [<- hcd] at co hq
  have ea : appE a ⟨4, m, q, name, shape, label, inst⟩ = ⟨a.fC.set m ⟨c.fN, c.fS, delA c.fL q, c.fI⟩⟩ := by
    rw [appE_in (show (4 : Int) ≠ 8 by decide) (show (4 : Int) ≠ 9 by decide) (m := m) rfl, <- hcd]
    rfl
  have ei : invE a ⟨4, m, q, name, shape, label, inst⟩ = ⟨3, m, q, ByteArray.mk #[], zSh, (gd c.fL q), zIn⟩ := by
    unfold invE
    simp only [Int.reduceEq, if_true, if_false, Int.toNat_natCast, <- hcd]
  have cn : CellOk ⟨c.fN, c.fS, delA c.fL q, c.fI⟩ (m : Int) := ⟨co.name, co.sn, (by show (delA c.fL q).length <= 8; have := delA_len c.fL q; have := co.ln; omega), co.inn, co.s, (fun y hy => co.l y (delA_mem hy)), co.i⟩
  have hv2 : okLib ⟨a.fC.set m ⟨c.fN, c.fS, delA c.fL q, c.fI⟩⟩ = true := okLib_set hv hlt cn (.inl (by rw [hcd]))
  have hg : gd (a.fC.set m ⟨c.fN, c.fS, delA c.fL q, c.fI⟩) m = ⟨c.fN, c.fS, delA c.fL q, c.fI⟩ := gd_set_eq hlt
  rw [ea, ei]
  refine ⟨hv2, ?_, ?_⟩
  · have he2 : okEdit ⟨3, m, q, ByteArray.mk #[], zSh, (gd c.fL q), zIn⟩ = true := by
      unfold okEdit
      rw [Bool.and_eq_true, Bool.and_eq_true, wBi, wBi]
      refine ⟨⟨w1, w2⟩, ?_⟩
      have hx : okLabel (gd c.fL q) = true := co.l _ (gd_mem hq)
      simp only [Int.reduceEq, if_true, if_false, or_self, or_false, false_or, true_or, or_true, zS_z, zL_z, zI_z, seq_self, Bool.and_self, hx]
    unfold eCode
    rw [if_neg (by rw [hv2, he2]; decide), if_neg (show ¬ (3 : Int) = 8 by decide), if_neg (by show ¬ ((a.fC.set m _).length : Int) <= (m : Int); rw [List.length_set]; omega), if_neg (show ¬ (3 : Int) = 1 by decide), if_neg (show ¬ (3 : Int) = 2 by decide), if_pos (show (3 : Int) = 3 from rfl)]
    rw [Int.toNat_natCast, hg]
    have hn : (delA c.fL q).length + 1 = c.fL.length := by unfold delA; simp only [List.length_append, List.length_take, List.length_drop]; omega
    have hmx := co.ln
    have hi : insC (q : Int) (delA c.fL q).length 8 = 0 := by
      unfold insC
      rw [if_neg (by omega), if_neg (by omega)]
    exact hi
  · rw [appE_in (show (3 : Int) ≠ 8 by decide) (show (3 : Int) ≠ 9 by decide) (m := m) rfl, hg]
    show (⟨(a.fC.set m _).set m ⟨c.fN, c.fS, insA (delA c.fL q) q (gd c.fL q), c.fI⟩⟩ : TL) = a
    rw [ins_del _ _ hq, List.set_set]
    show (⟨a.fC.set m c⟩ : TL) = a
    rw [hcd, set_gd_self hlt]
theorem in_5 (a : TL) (m q : Nat) (name : ByteArray) (shape : TS) (label : TB) (inst : TI) (hc : eCode a ⟨5, m, q, name, shape, label, inst⟩ = 0) :
    okLib (appE a ⟨5, m, q, name, shape, label, inst⟩) = true /\ eCode (appE a ⟨5, m, q, name, shape, label, inst⟩) (invE a ⟨5, m, q, name, shape, label, inst⟩) = 0 /\ appE (appE a ⟨5, m, q, name, shape, label, inst⟩) (invE a ⟨5, m, q, name, shape, label, inst⟩) = a := by
  obtain ⟨hv, he, hcell⟩ := eCode_zero hc
  obtain ⟨m2, hm2, hlt⟩ := hcell (show (5 : Int) ≠ 8 by decide)
  obtain rfl : m = m2 := by simp only at hm2; omega
  clear hm2 hcell
  obtain ⟨⟨w1, w2⟩, o1, o3, o5, o7⟩ := okEdit_at he
  have hl := okLib_len hv
  obtain ⟨g1, g2⟩ := okLib_at hv hlt
  have co := okCell_iff.1 g1
  obtain ⟨n1, n3, n5⟩ := eCode_ins hc rfl hlt
  have nx := n5 rfl
  obtain ⟨c, hcd⟩ : ∃ c, c = gd a.fC m := ⟨_, rfl⟩
  rw [<- hcd] at co nx
  have ea : appE a ⟨5, m, q, name, shape, label, inst⟩ = ⟨a.fC.set m ⟨c.fN, c.fS, c.fL, insA c.fI q inst⟩⟩ := by
    rw [appE_in (show (5 : Int) ≠ 8 by decide) (show (5 : Int) ≠ 9 by decide) (m := m) rfl, <- hcd]
    rfl
  have ei : invE a ⟨5, m, q, name, shape, label, inst⟩ = ⟨6, m, q, ByteArray.mk #[], zSh, zLa, zIn⟩ := rfl
  have cn : CellOk ⟨c.fN, c.fS, c.fL, insA c.fI q inst⟩ (m : Int) := ⟨co.name, co.sn, co.ln, (by show (insA c.fI q inst).length <= 8; rw [insA_len]; have := co.inn; have := nx.1.2; omega), co.s, co.l, (fun y hy => by rcases insA_mem hy with hy | rfl; exact co.i y hy; exact okInst_mv (o5 rfl) rfl (by omega) ⟨(okInst_cell (o5 rfl) (by omega)).1, by have := nx.2; simp only at this; omega⟩)⟩
  have hv2 : okLib ⟨a.fC.set m ⟨c.fN, c.fS, c.fL, insA c.fI q inst⟩⟩ = true := okLib_set hv hlt cn (.inl (by rw [hcd]))
  have hg : gd (a.fC.set m ⟨c.fN, c.fS, c.fL, insA c.fI q inst⟩) m = ⟨c.fN, c.fS, c.fL, insA c.fI q inst⟩ := gd_set_eq hlt
  rw [ea, ei]
  refine ⟨hv2, ?_, ?_⟩
  · have he2 : okEdit ⟨6, m, q, ByteArray.mk #[], zSh, zLa, zIn⟩ = true := by
      unfold okEdit
      rw [Bool.and_eq_true, Bool.and_eq_true, wBi, wBi]
      refine ⟨⟨w1, w2⟩, ?_⟩
      simp only [Int.reduceEq, if_true, if_false, or_self, or_false, false_or, true_or, or_true, zS_z, zL_z, zI_z, seq_self, Bool.and_self]
    unfold eCode
    rw [if_neg (by rw [hv2, he2]; decide), if_neg (show ¬ (6 : Int) = 8 by decide), if_neg (by show ¬ ((a.fC.set m _).length : Int) <= (m : Int); rw [List.length_set]; omega), if_neg (show ¬ (6 : Int) = 1 by decide), if_neg (show ¬ (6 : Int) = 2 by decide), if_neg (show ¬ (6 : Int) = 3 by decide), if_neg (show ¬ (6 : Int) = 4 by decide), if_neg (show ¬ (6 : Int) = 5 by decide), if_pos (show (6 : Int) = 6 from rfl)]
    rw [Int.toNat_natCast, hg]
    have hn := insA_len c.fI q inst
    unfold delC
    rw [if_neg (by show ¬ (((insA c.fI q inst).length : Nat) : Int) <= (q : Int); rw [hn]; have := nx.1.1; simp only at this; omega)]
  · rw [appE_in (show (6 : Int) ≠ 8 by decide) (show (6 : Int) ≠ 9 by decide) (m := m) rfl, hg]
    show (⟨(a.fC.set m _).set m ⟨c.fN, c.fS, c.fL, delA (insA c.fI q inst) q⟩⟩ : TL) = a
    rw [del_ins _ _ _ (by have := nx.1.1; simp only at this; omega), List.set_set]
    show (⟨a.fC.set m c⟩ : TL) = a
    rw [hcd, set_gd_self hlt]
theorem in_6 (a : TL) (m q : Nat) (name : ByteArray) (shape : TS) (label : TB) (inst : TI) (hc : eCode a ⟨6, m, q, name, shape, label, inst⟩ = 0) :
    okLib (appE a ⟨6, m, q, name, shape, label, inst⟩) = true /\ eCode (appE a ⟨6, m, q, name, shape, label, inst⟩) (invE a ⟨6, m, q, name, shape, label, inst⟩) = 0 /\ appE (appE a ⟨6, m, q, name, shape, label, inst⟩) (invE a ⟨6, m, q, name, shape, label, inst⟩) = a := by
  obtain ⟨hv, he, hcell⟩ := eCode_zero hc
  obtain ⟨m2, hm2, hlt⟩ := hcell (show (6 : Int) ≠ 8 by decide)
  obtain rfl : m = m2 := by simp only at hm2; omega
  clear hm2 hcell
  obtain ⟨⟨w1, w2⟩, o1, o3, o5, o7⟩ := okEdit_at he
  have hl := okLib_len hv
  obtain ⟨g1, g2⟩ := okLib_at hv hlt
  have co := okCell_iff.1 g1
  obtain ⟨d2, d4, d6⟩ := eCode_index hc rfl hlt
  obtain ⟨q2, e1, hq⟩ := d6 rfl
  obtain rfl : q = q2 := by simp only at e1; omega
  obtain ⟨c, hcd⟩ : ∃ c, c = gd a.fC m := ⟨_, rfl⟩
  rw [<- hcd] at co hq
  have ea : appE a ⟨6, m, q, name, shape, label, inst⟩ = ⟨a.fC.set m ⟨c.fN, c.fS, c.fL, delA c.fI q⟩⟩ := by
    rw [appE_in (show (6 : Int) ≠ 8 by decide) (show (6 : Int) ≠ 9 by decide) (m := m) rfl, <- hcd]
    rfl
  have ei : invE a ⟨6, m, q, name, shape, label, inst⟩ = ⟨5, m, q, ByteArray.mk #[], zSh, zLa, (gd c.fI q)⟩ := by
    unfold invE
    simp only [Int.reduceEq, if_true, if_false, Int.toNat_natCast, <- hcd]
  have cn : CellOk ⟨c.fN, c.fS, c.fL, delA c.fI q⟩ (m : Int) := ⟨co.name, co.sn, co.ln, (by show (delA c.fI q).length <= 8; have := delA_len c.fI q; have := co.inn; omega), co.s, co.l, (fun y hy => co.i y (delA_mem hy))⟩
  have hv2 : okLib ⟨a.fC.set m ⟨c.fN, c.fS, c.fL, delA c.fI q⟩⟩ = true := okLib_set hv hlt cn (.inl (by rw [hcd]))
  have hg : gd (a.fC.set m ⟨c.fN, c.fS, c.fL, delA c.fI q⟩) m = ⟨c.fN, c.fS, c.fL, delA c.fI q⟩ := gd_set_eq hlt
  rw [ea, ei]
  refine ⟨hv2, ?_, ?_⟩
  · have he2 : okEdit ⟨5, m, q, ByteArray.mk #[], zSh, zLa, (gd c.fI q)⟩ = true := by
      unfold okEdit
      rw [Bool.and_eq_true, Bool.and_eq_true, wBi, wBi]
      refine ⟨⟨w1, w2⟩, ?_⟩
      have hx : okInst (gd c.fI q) 8 = true := okInst_mv (co.i _ (gd_mem hq)) rfl (by omega) ⟨(okInst_cell (co.i _ (gd_mem hq)) (by omega)).1, by have := (okInst_cell (co.i _ (gd_mem hq)) (by omega)).2; omega⟩
      simp only [Int.reduceEq, if_true, if_false, or_self, or_false, false_or, true_or, or_true, zS_z, zL_z, zI_z, seq_self, Bool.and_self, hx]
    unfold eCode
    rw [if_neg (by rw [hv2, he2]; decide), if_neg (show ¬ (5 : Int) = 8 by decide), if_neg (by show ¬ ((a.fC.set m _).length : Int) <= (m : Int); rw [List.length_set]; omega), if_neg (show ¬ (5 : Int) = 1 by decide), if_neg (show ¬ (5 : Int) = 2 by decide), if_neg (show ¬ (5 : Int) = 3 by decide), if_neg (show ¬ (5 : Int) = 4 by decide), if_pos (show (5 : Int) = 5 from rfl)]
    rw [Int.toNat_natCast, hg]
    have hn : (delA c.fI q).length + 1 = c.fI.length := by unfold delA; simp only [List.length_append, List.length_take, List.length_drop]; omega
    have hmx := co.inn
    have hi : insC (q : Int) (delA c.fI q).length 8 = 0 := by
      unfold insC
      rw [if_neg (by omega), if_neg (by omega)]
    have hlt2 := (okInst_cell (co.i _ (gd_mem hq)) (by omega)).2
    show (if insC (q : Int) (delA c.fI q).length 8 = 0 /\ (m : Int) <= (gd c.fI q).fc then (6 : Int) else insC (q : Int) (delA c.fI q).length 8) = 0
    rw [if_neg (by omega)]
    exact hi
  · rw [appE_in (show (5 : Int) ≠ 8 by decide) (show (5 : Int) ≠ 9 by decide) (m := m) rfl, hg]
    show (⟨(a.fC.set m _).set m ⟨c.fN, c.fS, c.fL, insA (delA c.fI q) q (gd c.fI q)⟩⟩ : TL) = a
    rw [ins_del _ _ hq, List.set_set]
    show (⟨a.fC.set m c⟩ : TL) = a
    rw [hcd, set_gd_self hlt]
/- a rename, an insertion and a removal of a cell -/
theorem othN_false {l : List TC} {k : Int} {s : ByteArray} (h : othN l k s = false) {j : Nat} (hj : j < l.length) (hk : (j : Int) ≠ k) : std.seq (gd l j).fN s = false := by
  unfold othN at h
  rw [List.any_eq_false] at h
  have := h j (List.mem_range.2 hj)
  rw [eq_false' hk] at this
  simpa [s_not] using this
theorem othN_of {l : List TC} {k : Int} {s : ByteArray} (h : ∀ j : Nat, j < l.length -> (j : Int) ≠ k -> std.seq (gd l j).fN s = false) : othN l k s = false := by
  unfold othN
  rw [List.any_eq_false]
  intro j hj
  by_cases hk : (j : Int) = k
  · rw [eq_true' hk]; simp [s_not]
  · rw [eq_false' hk, h j (List.mem_range.1 hj) hk]; simp
theorem eCode_ren {a : TL} {e : TE} {m : Nat} (hc : eCode a e = 0) (hk : e.fk = 7) (hm : e.fc = (m : Int)) (hlt : m < a.fC.length) : othN a.fC (m : Int) e.fN = false := by
  obtain ⟨hv, he, _⟩ := eCode_zero hc
  unfold eCode at hc
  rw [if_neg (by rw [hv, he]; decide), if_neg (by omega), if_neg (by omega), if_neg (by omega), if_neg (by omega), if_neg (by omega), if_neg (by omega), if_neg (by omega), if_neg (by omega), if_pos hk, hm] at hc
  cases h : othN a.fC (m : Int) e.fN with
  | false => rfl
  | true => rw [h, if_pos rfl] at hc; exact absurd hc (by decide)
theorem eCode_del {a : TL} {e : TE} {m : Nat} (hc : eCode a e = 0) (hk : e.fk = 9) (hm : e.fc = (m : Int)) (hlt : m < a.fC.length) : a.fC.length ≠ 1 /\ (gd a.fC m).fS.length + (gd a.fC m).fL.length + (gd a.fC m).fI.length = 0 /\ placedB a (m : Int) = false := by
  obtain ⟨hv, he, _⟩ := eCode_zero hc
  unfold eCode at hc
  rw [if_neg (by rw [hv, he]; decide), if_neg (by omega), if_neg (by omega), if_neg (by omega), if_neg (by omega), if_neg (by omega), if_neg (by omega), if_neg (by omega), if_neg (by omega), if_neg (by omega), hm, Int.toNat_natCast] at hc
  by_cases h : (a.fC.length : Int) = 1 \/ 0 < (gd a.fC m).fS.length + (gd a.fC m).fL.length + (gd a.fC m).fI.length \/ placedB a (m : Int) = true
  · rw [if_pos h] at hc; exact absurd hc (by decide)
  · refine ⟨by omega, by omega, ?_⟩
    cases hp : placedB a (m : Int) with
    | false => rfl
    | true => exact absurd (.inr (.inr hp)) h
theorem in_7 (a : TL) (m q : Nat) (name : ByteArray) (shape : TS) (label : TB) (inst : TI) (hc : eCode a ⟨7, m, q, name, shape, label, inst⟩ = 0) :
    okLib (appE a ⟨7, m, q, name, shape, label, inst⟩) = true /\ eCode (appE a ⟨7, m, q, name, shape, label, inst⟩) (invE a ⟨7, m, q, name, shape, label, inst⟩) = 0 /\ appE (appE a ⟨7, m, q, name, shape, label, inst⟩) (invE a ⟨7, m, q, name, shape, label, inst⟩) = a := by
  obtain ⟨hv, he, hcell⟩ := eCode_zero hc
  obtain ⟨m2, hm2, hlt⟩ := hcell (show (7 : Int) ≠ 8 by decide)
  obtain rfl : m = m2 := by simp only at hm2; omega
  clear hm2 hcell
  obtain ⟨⟨w1, w2⟩, o1, o3, o5, o7⟩ := okEdit_at he
  obtain ⟨on, oq⟩ := o7 (.inl rfl)
  have ho := eCode_ren hc rfl rfl hlt
  have hl := okLib_len hv
  obtain ⟨g1, g2⟩ := okLib_at hv hlt
  have co := okCell_iff.1 g1
  obtain ⟨c, hcd⟩ : ∃ c, c = gd a.fC m := ⟨_, rfl⟩
  rw [<- hcd] at co
  have ea : appE a ⟨7, m, q, name, shape, label, inst⟩ = ⟨a.fC.set m ⟨name, c.fS, c.fL, c.fI⟩⟩ := by
    rw [appE_in (show (7 : Int) ≠ 8 by decide) (show (7 : Int) ≠ 9 by decide) (m := m) rfl, <- hcd]
    rfl
  have ei : invE a ⟨7, m, q, name, shape, label, inst⟩ = ⟨7, m, q, c.fN, zSh, zLa, zIn⟩ := by
    unfold invE
    simp only [Int.reduceEq, if_true, if_false, Int.toNat_natCast, <- hcd]
  have cn : CellOk ⟨name, c.fS, c.fL, c.fI⟩ (m : Int) := ⟨on, co.sn, co.ln, co.inn, co.s, co.l, co.i⟩
  have hv2 : okLib ⟨a.fC.set m ⟨name, c.fS, c.fL, c.fI⟩⟩ = true := okLib_set hv hlt cn (.inr ho)
  have hg : gd (a.fC.set m ⟨name, c.fS, c.fL, c.fI⟩) m = ⟨name, c.fS, c.fL, c.fI⟩ := gd_set_eq hlt
  rw [ea, ei]
  refine ⟨hv2, ?_, ?_⟩
  · have he2 : okEdit ⟨7, m, q, c.fN, zSh, zLa, zIn⟩ = true := by
      unfold okEdit
      rw [Bool.and_eq_true, Bool.and_eq_true, wBi, wBi]
      refine ⟨⟨w1, w2⟩, ?_⟩
      simp only [Int.reduceEq, if_true, if_false, or_self, or_false, false_or, true_or, or_true, zS_z, zL_z, zI_z, seq_self, Bool.and_self, co.name, eq_true' oq]
    have hn2 : othN (a.fC.set m ⟨name, c.fS, c.fL, c.fI⟩) (m : Int) c.fN = false := by
      refine othN_of fun j hj hjm => ?_
      rw [List.length_set] at hj
      rw [gd_set_ne (show j ≠ m by omega), hcd]
      cases hs : std.seq (gd a.fC j).fN (gd a.fC m).fN with
      | false => rfl
      | true => exact absurd (name_once hv hj hlt hs (seq_self _)) (by omega)
    unfold eCode
    rw [if_neg (by rw [hv2, he2]; decide), if_neg (show ¬ (7 : Int) = 8 by decide), if_neg (by show ¬ ((a.fC.set m _).length : Int) <= (m : Int); rw [List.length_set]; omega), if_neg (show ¬ (7 : Int) = 1 by decide), if_neg (show ¬ (7 : Int) = 2 by decide), if_neg (show ¬ (7 : Int) = 3 by decide), if_neg (show ¬ (7 : Int) = 4 by decide), if_neg (show ¬ (7 : Int) = 5 by decide), if_neg (show ¬ (7 : Int) = 6 by decide), if_pos (show (7 : Int) = 7 from rfl)]
    rw [hn2]
    rfl
  · rw [appE_in (show (7 : Int) ≠ 8 by decide) (show (7 : Int) ≠ 9 by decide) (m := m) rfl, hg]
    show (⟨(a.fC.set m _).set m ⟨c.fN, c.fS, c.fL, c.fI⟩⟩ : TL) = a
    rw [List.set_set]
    show (⟨a.fC.set m c⟩ : TL) = a
    rw [hcd, set_gd_self hlt]
theorem gd_map {α β : Type} [Inhabited α] [Inhabited β] {g : α -> β} {l : List α} {k : Nat} (h : k < l.length) : gd (l.map g) k = g (gd l k) := by
  rw [gd_lt (show k < (l.map g).length by rw [List.length_map]; exact h), gd_lt h, List.getElem_map]
theorem insA_gd {α : Type} [Inhabited α] {l : List α} {m k : Nat} {x : α} (hm : m <= l.length) (hk : k <= l.length) : gd (insA l m x) k = if k < m then gd l k else if k = m then x else gd l (k - 1) := by
  have hl : (List.take m l).length = m := by simp; omega
  rw [gd_lt (show k < (insA l m x).length by rw [insA_len]; omega)]
  unfold insA
  by_cases h1 : k < m
  · rw [if_pos h1, gd_lt (show k < l.length by omega)]
    simp [List.getElem_append, hl, h1]
  · rw [if_neg h1]
    by_cases h2 : k = m
    · subst h2
      rw [if_pos rfl]
      simp [List.getElem_append, hl]
    · rw [if_neg h2, gd_lt (show k - 1 < l.length by omega), List.getElem_append_right (by simp; omega)]
      simp only [List.length_append, hl, List.length_singleton, List.getElem_drop]
      congr 1
      omega
theorem delA_len2 {α : Type} {l : List α} {m : Nat} (hm : m < l.length) : (delA l m).length + 1 = l.length := by
  unfold delA
  simp only [List.length_append, List.length_take, List.length_drop]
  omega
theorem delA_gd {α : Type} [Inhabited α] {l : List α} {m k : Nat} (hm : m < l.length) (hk : k + 1 < l.length) : gd (delA l m) k = if k < m then gd l k else gd l (k + 1) := by
  have hl : (List.take m l).length = m := by simp; omega
  rw [gd_lt (show k < (delA l m).length by have := delA_len2 hm; omega)]
  unfold delA
  by_cases h1 : k < m
  · rw [if_pos h1, gd_lt (show k < l.length by omega), List.getElem_append_left (by omega)]
    simp
  · rw [if_neg h1, gd_lt hk, List.getElem_append_right (by omega)]
    simp only [hl, List.getElem_drop]
    congr 1
    omega
/- a cell is put in or taken out -/
theorem okInst_rng {i : TI} {k : Nat} (h : okInst i k = true) (hk : k <= 1000) : 0 <= i.fc /\ i.fc < (k : Int) := okInst_cell h ⟨by omega, by omega⟩
theorem shI_cell1 {m : Nat} {i : TI} (hm : m <= 1000) (hi : 0 <= i.fc /\ i.fc <= 1000) : (shI m 1 i).fc = if (m : Int) <= i.fc then i.fc + 1 else i.fc := by
  unfold shI
  by_cases h : (m : Int) <= i.fc
  · rw [le_true h, if_pos h]; exact add_id (by omega) (by omega)
  · rw [le_false h, if_neg h]; rfl
theorem shI_cell2 {m : Nat} {i : TI} (hm : m <= 1000) (hi : 0 <= i.fc /\ i.fc <= 1000) : (shI m (-1) i).fc = if (m : Int) <= i.fc then i.fc - 1 else i.fc := by
  unfold shI
  by_cases h : (m : Int) <= i.fc
  · rw [le_true h, if_pos h]; show std.add .i64 i.fc (-1) = _; rw [add_id (by omega) (by omega)]; omega
  · rw [le_false h, if_neg h]; rfl
theorem shI_rest (m b : Int) (i : TI) : shI m b i = ⟨(shI m b i).fc, i.fp, i.fK, i.fR, i.fu, i.fv⟩ := by
  unfold shI
  cases std.le m i.fc <;> rfl
theorem cell_up {c : TC} {m k k2 : Nat} (co : CellOk c k) (hk : k <= 100) (hm : m <= 100) (h2 : k2 = if k < m then k else k + 1) : CellOk (shC m 1 c) k2 := by
  refine ⟨co.name, co.sn, co.ln, by show (c.fI.map _).length <= 8; rw [List.length_map]; exact co.inn, co.s, co.l, fun x hx => ?_⟩
  obtain ⟨i, hi, rfl⟩ := List.mem_map.1 hx
  have hr := okInst_rng (co.i i hi) (by omega)
  have e := shI_cell1 (m := m) (i := i) (by omega) (by omega)
  have hk2 : k2 <= 1000 := by rw [h2]; split <;> omega
  refine okInst_mv (co.i i hi) (shI_rest _ _ _) ⟨by omega, by omega⟩ ?_
  rw [e]
  split <;> rename_i h <;> split at h2 <;> omega
theorem cell_down {c : TC} {m k k2 : Nat} (co : CellOk c k) (hk : k <= 100) (hm : m <= 100) (hkm : k ≠ m) (h2 : k2 = if k < m then k else k - 1) (hp : ∀ i ∈ c.fI, i.fc ≠ (m : Int)) : CellOk (shC m (-1) c) k2 := by
  refine ⟨co.name, co.sn, co.ln, by show (c.fI.map _).length <= 8; rw [List.length_map]; exact co.inn, co.s, co.l, fun x hx => ?_⟩
  obtain ⟨i, hi, rfl⟩ := List.mem_map.1 hx
  have hr := okInst_rng (co.i i hi) (by omega)
  have hne := hp i hi
  have e := shI_cell2 (m := m) (i := i) (by omega) (by omega)
  have hk2 : k2 <= 1000 := by rw [h2]; split <;> omega
  refine okInst_mv (co.i i hi) (shI_rest _ _ _) ⟨by omega, by omega⟩ ?_
  rw [e]
  split <;> rename_i h <;> split at h2 <;> omega
theorem placed_no {a : TL} {k : Int} (h : placedB a k = false) {j : Nat} (hj : j < a.fC.length) : ∀ i ∈ (gd a.fC j).fI, i.fc ≠ k := by
  intro i hi he
  unfold placedB at h
  rw [List.any_eq_false] at h
  have h1 := h j (List.mem_range.2 hj)
  unfold usesB at h1
  rw [Bool.not_eq_true, List.any_eq_false] at h1
  obtain ⟨p, hp, rfl⟩ := List.getElem_of_mem hi
  have := h1 p (List.mem_range.2 hp)
  rw [gd_lt hp, eq_true' he] at this
  exact this rfl
theorem placed_of {a : TL} {k : Int} (h : ∀ j, j < a.fC.length -> ∀ i ∈ (gd a.fC j).fI, i.fc ≠ k) : placedB a k = false := by
  unfold placedB
  rw [List.any_eq_false]
  intro j hj
  unfold usesB
  rw [Bool.not_eq_true, List.any_eq_false]
  intro p hp
  rw [eq_false' (h j (List.mem_range.1 hj) _ (gd_mem (List.mem_range.1 hp)))]
  simp
/-- valid cells of names that are all different -/
theorem okLib_mk {l : List TC} (h1 : 1 <= l.length) (h2 : l.length <= 8) (hc : ∀ k : Nat, k < l.length -> CellOk (gd l k) k) (hn : ∀ j k : Nat, j < k -> k < l.length -> std.seq (gd l j).fN (gd l k).fN = false) : okLib ⟨l⟩ = true := by
  refine okLib_of h1 h2 (fun k hk => ⟨okCell_iff.2 (hc k hk), ?_⟩)
  unfold fresh
  rw [List.all_eq_true]
  intro j hj
  rw [hn j k (List.mem_range.1 hj) hk]
  rfl
theorem in_8 (a : TL) (m q : Nat) (name : ByteArray) (shape : TS) (label : TB) (inst : TI) (hc : eCode a ⟨8, m, q, name, shape, label, inst⟩ = 0) :
    okLib (appE a ⟨8, m, q, name, shape, label, inst⟩) = true /\ eCode (appE a ⟨8, m, q, name, shape, label, inst⟩) (invE a ⟨8, m, q, name, shape, label, inst⟩) = 0 /\ appE (appE a ⟨8, m, q, name, shape, label, inst⟩) (invE a ⟨8, m, q, name, shape, label, inst⟩) = a := by
  obtain ⟨hv, he, _⟩ := eCode_zero hc
  obtain ⟨⟨w1, w2⟩, o1, o3, o5, o7⟩ := okEdit_at he
  obtain ⟨on, oq⟩ := o7 (.inr rfl)
  obtain ⟨c1, c2, c3⟩ := eCode_cell hc rfl
  have hl := okLib_len hv
  have hml : m <= a.fC.length := by simp only at c1; omega
  have hm8 : m <= 8 := by simp only at w1; omega
  obtain ⟨L, hL⟩ : ∃ L, L = a.fC.map (shC (m : Int) 1) := ⟨_, rfl⟩
  have hLl : L.length = a.fC.length := by rw [hL, List.length_map]
  obtain ⟨N, hN⟩ : ∃ N : TC, N = ⟨name, [], [], []⟩ := ⟨_, rfl⟩
  have hLg : ∀ k, k < a.fC.length -> gd L k = shC m 1 (gd a.fC k) := fun k hk => by rw [hL, gd_map hk]
  have ea : appE a ⟨8, m, q, name, shape, label, inst⟩ = ⟨insA L m N⟩ := by
    unfold appE
    rw [if_pos rfl, hL, hN]
    rfl
  have ei : invE a ⟨8, m, q, name, shape, label, inst⟩ = ⟨9, m, q, ByteArray.mk #[], zSh, zLa, zIn⟩ := by
    unfold invE
    simp only [Int.reduceEq, if_true, if_false]
  have hlen : (insA L m N).length = a.fC.length + 1 := by rw [insA_len, hLl]
  have hgd : ∀ k, k <= a.fC.length -> gd (insA L m N) k = if k < m then shC m 1 (gd a.fC k) else if k = m then N else shC m 1 (gd a.fC (k - 1)) := by
    intro k hk
    rw [insA_gd (by omega) (by omega)]
    by_cases h1 : k < m
    · rw [if_pos h1, if_pos h1, hLg k (by omega)]
    · rw [if_neg h1, if_neg h1]
      by_cases h2 : k = m
      · rw [if_pos h2, if_pos h2]
      · rw [if_neg h2, if_neg h2, hLg (k - 1) (by omega)]
  have hv2 : okLib ⟨insA L m N⟩ = true := by
    refine okLib_mk (by omega) (by omega) (fun k hk => ?_) (fun j k hjk hk => ?_)
    · rw [hgd k (by omega)]
      by_cases h1 : k < m
      · rw [if_pos h1]
        exact cell_up (okCell_iff.1 (okLib_at hv (show k < a.fC.length by omega)).1) (by omega) (by omega) (by rw [if_pos h1])
      · rw [if_neg h1]
        by_cases h2 : k = m
        · rw [if_pos h2, hN]
          exact ⟨on, by simp, by simp, by simp, by simp, by simp, by simp⟩
        · rw [if_neg h2]
          exact cell_up (okCell_iff.1 (okLib_at hv (show k - 1 < a.fC.length by omega)).1) (by omega) (by omega) (by rw [if_neg (by omega)]; omega)
    · rw [hgd j (by omega), hgd k (by omega)]
      have hN2 : N.fN = name := by rw [hN]
      have hu : ∀ x y : Nat, x < y -> y < a.fC.length -> std.seq (gd a.fC x).fN (gd a.fC y).fN = false := fun x y hxy hy => okLib_fresh hv hy hxy
      have ho : ∀ x : Nat, x < a.fC.length -> std.seq (gd a.fC x).fN N.fN = false := fun x hx => by rw [hN2]; exact othN_false c3 hx (by omega)
      have ho2 : ∀ x : Nat, x < a.fC.length -> std.seq N.fN (gd a.fC x).fN = false := fun x hx => by
        cases hs : std.seq N.fN (gd a.fC x).fN with
        | false => rfl
        | true => have := ho x hx; rw [seq_comm hs] at this; cases this
      by_cases h1 : k < m
      · rw [if_pos h1, if_pos (by omega)]; exact hu j k hjk (by omega)
      · rw [if_neg h1]
        by_cases h2 : k = m
        · rw [if_pos h2, if_pos (by omega)]; exact ho j (by omega)
        · rw [if_neg h2]
          by_cases h3 : j < m
          · rw [if_pos h3]; exact hu j (k - 1) (by omega) (by omega)
          · rw [if_neg h3]
            by_cases h4 : j = m
            · rw [if_pos h4]; exact ho2 (k - 1) (by omega)
            · rw [if_neg h4]; exact hu (j - 1) (k - 1) (by omega) (by omega)
  rw [ea, ei]
  refine ⟨hv2, ?_, ?_⟩
  · have he2 : okEdit ⟨9, m, q, ByteArray.mk #[], zSh, zLa, zIn⟩ = true := by
      unfold okEdit
      rw [Bool.and_eq_true, Bool.and_eq_true, wBi, wBi]
      refine ⟨⟨w1, w2⟩, ?_⟩
      simp only [Int.reduceEq, if_true, if_false, or_self, or_false, false_or, true_or, or_true, zS_z, zL_z, zI_z, seq_self, Bool.and_self, eq_true' oq]
    have hp : placedB ⟨insA L m N⟩ (m : Int) = false := by
      refine placed_of fun j hj i hi => ?_
      have hj2 : j < a.fC.length + 1 := by rw [<- hlen]; exact hj
      have hup : ∀ x : Nat, x < a.fC.length -> ∀ i ∈ (shC m 1 (gd a.fC x)).fI, i.fc ≠ (m : Int) := by
        intro x hx i hi
        obtain ⟨i0, h0, rfl⟩ := List.mem_map.1 hi
        have hr := okInst_rng ((okCell_iff.1 (okLib_at hv hx).1).i i0 h0) (by omega)
        rw [shI_cell1 (by omega) (by omega)]
        split <;> omega
      have hi2 : i ∈ (gd (insA L m N) j).fI := hi
      rw [hgd j (by omega)] at hi2
      by_cases h1 : j < m
      · rw [if_pos h1] at hi2; exact hup j (by omega) i hi2
      · rw [if_neg h1] at hi2
        by_cases h2 : j = m
        · rw [if_pos h2, hN] at hi2; cases hi2
        · rw [if_neg h2] at hi2; exact hup (j - 1) (by omega) i hi2
    have hgm : gd (insA L m N) m = N := by rw [hgd m hml, if_neg (by omega), if_pos rfl]
    unfold eCode
    rw [if_neg (by rw [hv2, he2]; decide), if_neg (show ¬ (9 : Int) = 8 by decide), if_neg (by show ¬ ((insA L m N).length : Int) <= (m : Int); rw [hlen]; omega), if_neg (show ¬ (9 : Int) = 1 by decide), if_neg (show ¬ (9 : Int) = 2 by decide), if_neg (show ¬ (9 : Int) = 3 by decide), if_neg (show ¬ (9 : Int) = 4 by decide), if_neg (show ¬ (9 : Int) = 5 by decide), if_neg (show ¬ (9 : Int) = 6 by decide), if_neg (show ¬ (9 : Int) = 7 by decide)]
    rw [Int.toNat_natCast, hgm, hN]
    rw [hN] at hp hlen
    show (if ((insA L m ⟨name, [], [], []⟩).length : Int) = 1 \/ 0 < ([] : List TS).length + ([] : List TB).length + ([] : List TI).length \/ placedB ⟨insA L m ⟨name, [], [], []⟩⟩ (m : Int) = true then (6 : Int) else 0) = 0
    rw [hp, hlen, if_neg (by simp; omega)]
  · unfold appE
    rw [if_neg (show ¬ (9 : Int) = 8 by decide), if_pos (show (9 : Int) = 9 from rfl)]
    simp only [Int.toNat_natCast]
    rw [del_ins _ _ _ (by omega), hL, List.map_map]
    have : List.map (shC (m : Int) (-1) ∘ shC (m : Int) 1) a.fC = a.fC := by
      refine (List.map_congr_left (fun c hcm => ?_)).trans (List.map_id' _)
      obtain ⟨p, hp, rfl⟩ := List.getElem_of_mem hcm
      refine shC_back m _ (by omega) (fun i hi => ?_)
      rw [<- gd_lt hp] at hi
      have := okInst_rng ((okCell_iff.1 (okLib_at hv hp).1).i i hi) (by omega)
      omega
    rw [this]
theorem in_9 (a : TL) (m q : Nat) (name : ByteArray) (shape : TS) (label : TB) (inst : TI) (hc : eCode a ⟨9, m, q, name, shape, label, inst⟩ = 0) :
    okLib (appE a ⟨9, m, q, name, shape, label, inst⟩) = true /\ eCode (appE a ⟨9, m, q, name, shape, label, inst⟩) (invE a ⟨9, m, q, name, shape, label, inst⟩) = 0 /\ appE (appE a ⟨9, m, q, name, shape, label, inst⟩) (invE a ⟨9, m, q, name, shape, label, inst⟩) = a := by
  obtain ⟨hv, he, hcell⟩ := eCode_zero hc
  obtain ⟨m2, hm2, hlt⟩ := hcell (show (9 : Int) ≠ 8 by decide)
  obtain rfl : m = m2 := by simp only at hm2; omega
  clear hm2 hcell
  obtain ⟨⟨w1, w2⟩, o1, o3, o5, o7⟩ := okEdit_at he
  obtain ⟨c1, c2, c3⟩ := eCode_del hc rfl rfl hlt
  have hl := okLib_len hv
  have oq : (q : Int) = 0 := by
    unfold okEdit at he
    rw [Bool.and_eq_true] at he
    have := he.2
    simp at this
    have h0 := this.1.1.1.1
    rw [s_eq, decide_eq_true_eq] at h0
    exact h0
  obtain ⟨c, hcd⟩ : ∃ c, c = gd a.fC m := ⟨_, rfl⟩
  have hce : c = ⟨c.fN, [], [], []⟩ := by
    rw [<- hcd] at c2
    have s1 : c.fS = [] := List.length_eq_zero_iff.1 (by omega)
    have s2 : c.fL = [] := List.length_eq_zero_iff.1 (by omega)
    have s3 : c.fI = [] := List.length_eq_zero_iff.1 (by omega)
    cases c
    simp only at s1 s2 s3
    rw [s1, s2, s3]
  have hD := delA_len2 (l := a.fC) hlt
  obtain ⟨B, hB⟩ : ∃ B, B = (delA a.fC m).map (shC (m : Int) (-1)) := ⟨_, rfl⟩
  have hBl : B.length + 1 = a.fC.length := by rw [hB, List.length_map]; exact hD
  have ea : appE a ⟨9, m, q, name, shape, label, inst⟩ = ⟨B⟩ := by
    unfold appE
    rw [if_neg (show ¬ (9 : Int) = 8 by decide), if_pos (show (9 : Int) = 9 from rfl), hB]
    rfl
  have ei : invE a ⟨9, m, q, name, shape, label, inst⟩ = ⟨8, m, q, c.fN, zSh, zLa, zIn⟩ := by
    unfold invE
    simp only [Int.reduceEq, if_true, if_false, Int.toNat_natCast, <- hcd]
  have hgd : ∀ k, k + 1 < a.fC.length -> gd B k = shC m (-1) (gd a.fC (if k < m then k else k + 1)) := by
    intro k hk
    rw [hB, gd_map (by omega), delA_gd hlt hk]
    split <;> rfl
  have hv2 : okLib ⟨B⟩ = true := by
    refine okLib_mk (by omega) (by omega) (fun k hk => ?_) (fun j k hjk hk => ?_)
    · rw [hgd k (by omega)]
      by_cases h1 : k < m
      · rw [if_pos h1]
        exact cell_down (okCell_iff.1 (okLib_at hv (show k < a.fC.length by omega)).1) (by omega) (by omega) (by omega) (by rw [if_pos h1]) (placed_no c3 (by omega))
      · rw [if_neg h1]
        exact cell_down (okCell_iff.1 (okLib_at hv (show k + 1 < a.fC.length by omega)).1) (by omega) (by omega) (by omega) (by rw [if_neg (by omega)]; omega) (placed_no c3 (by omega))
    · rw [hgd j (by omega), hgd k (by omega)]
      refine okLib_fresh hv ?_ ?_
      · split <;> omega
      · split <;> split <;> omega
  rw [ea, ei]
  refine ⟨hv2, ?_, ?_⟩
  · have he2 : okEdit ⟨8, m, q, c.fN, zSh, zLa, zIn⟩ = true := by
      unfold okEdit
      rw [Bool.and_eq_true, Bool.and_eq_true, wBi, wBi]
      refine ⟨⟨w1, w2⟩, ?_⟩
      have hn : isName c.fN = true := by rw [hcd]; exact (okCell_iff.1 (okLib_at hv hlt).1).name
      simp only [Int.reduceEq, if_true, if_false, or_self, or_false, false_or, true_or, or_true, zS_z, zL_z, zI_z, Bool.and_self, hn, eq_true' oq]
    have hn2 : othN B (-1) c.fN = false := by
      refine othN_of fun j hj _ => ?_
      rw [hgd j (by omega), hcd]
      show std.seq (gd a.fC (if j < m then j else j + 1)).fN _ = false
      cases hs : std.seq (gd a.fC (if j < m then j else j + 1)).fN (gd a.fC m).fN with
      | false => rfl
      | true =>
        have := name_once hv (show (if j < m then j else j + 1) < a.fC.length by split <;> omega) hlt hs (seq_self _)
        split at this <;> omega
    unfold eCode
    rw [if_neg (by rw [hv2, he2]; decide), if_pos (show (8 : Int) = 8 from rfl)]
    show (if (B.length : Int) < (m : Int) then (5 : Int) else if (B.length : Int) = 8 then 3 else if othN B (-1) c.fN = true then 6 else 0) = 0
    rw [if_neg (by omega), if_neg (by omega), hn2]
    rfl
  · unfold appE
    rw [if_pos (show (8 : Int) = 8 from rfl)]
    simp only [Int.toNat_natCast]
    have : List.map (shC (m : Int) 1) B = delA a.fC m := by
      rw [hB, List.map_map]
      refine (List.map_congr_left (fun x hx => ?_)).trans (List.map_id' _)
      obtain ⟨p, hp, hpe⟩ := List.getElem_of_mem (delA_mem hx)
      subst hpe
      refine shC_forth m _ (by omega) (fun i hi => ?_) (fun i hi => ?_)
      · rw [<- gd_lt hp] at hi
        have := okInst_rng ((okCell_iff.1 (okLib_at hv hp).1).i i hi) (by omega)
        omega
      · rw [<- gd_lt hp] at hi
        exact placed_no c3 hp i hi
    rw [this, <- hce, hcd, ins_del _ _ hlt]
/-- an edit that is possible: the library stays valid, the inverse is possible and restores it -/
theorem inverse_law (a : TL) (e : TE) (hc : eCode a e = 0) : okLib (appE a e) = true /\ eCode (appE a e) (invE a e) = 0 /\ appE (appE a e) (invE a e) = a := by
  obtain ⟨hv, he, _⟩ := eCode_zero hc
  obtain ⟨hk, h1, hi⟩ := okEdit_kind he
  obtain ⟨kind, cell, index, name, shape, label, inst⟩ := e
  simp only at hk h1 hi
  obtain ⟨m, rfl⟩ := Int.eq_ofNat_of_zero_le h1
  obtain ⟨q, rfl⟩ := Int.eq_ofNat_of_zero_le hi
  rcases hk with rfl | rfl | rfl | rfl | rfl | rfl | rfl | rfl | rfl
  · exact in_1 a m q _ _ _ _ hc
  · exact in_2 a m q _ _ _ _ hc
  · exact in_3 a m q _ _ _ _ hc
  · exact in_4 a m q _ _ _ _ hc
  · exact in_5 a m q _ _ _ _ hc
  · exact in_6 a m q _ _ _ _ hc
  · exact in_7 a m q _ _ _ _ hc
  · exact in_8 a m q _ _ _ _ hc
  · exact in_9 a m q _ _ _ _ hc
end Go.Proofs.YtohgghncmkiicaaGreat.AM
