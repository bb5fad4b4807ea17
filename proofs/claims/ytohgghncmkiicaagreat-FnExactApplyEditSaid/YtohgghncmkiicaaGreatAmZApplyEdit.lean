/-
  What the functions that the law reaches compute, and that they do. No condition.
-/
import Derived.Test.YtohgghncmkiicaaGreatAmSZ
namespace Go.Proofs.YtohgghncmkiicaaGreat.AM
noncomputable section
open Go Go.Proofs Go.RowKit
set_option linter.unusedVariables false
set_option linter.unusedSimpArgs false
set_option maxRecDepth 100000

/- references to cells are shifted: both sides -/
def mid {α : Type} (g : α -> α) (l : List α) (i : Nat) : List α := (l.take i).map g ++ l.drop i
theorem mid_len {α : Type} (g : α -> α) (l : List α) (i : Nat) : (mid g l i).length = l.length := by
  simp [mid]; omega
theorem mid_all {α : Type} (g : α -> α) (l : List α) : mid g l l.length = l.map g := by simp [mid]
theorem mid_gd {α : Type} [Inhabited α] {g : α -> α} {l : List α} {i : Nat} (h : i < l.length) : gd (mid g l i) i = gd l i := by
  rw [gd_lt (show i < (mid g l i).length by rw [mid_len]; exact h), gd_lt h]
  unfold mid
  rw [List.getElem_append_right (by simp; omega)]
  simp [Nat.min_eq_left (Nat.le_of_lt h)]
theorem mid_set {α : Type} [Inhabited α] {g : α -> α} {l : List α} {i : Nat} (h : i < l.length) {x : α} (hx : x = g (gd l i)) : List.set (mid g l i) i x = mid g l (i + 1) := by
  subst hx
  unfold mid
  have hm : ((l.take i).map g).length = i := by simp; omega
  rw [List.set_append, if_neg (by omega), hm, Nat.sub_self, List.drop_eq_getElem_cons h, List.take_succ_eq_append_getElem h, gd_lt h, List.set_cons_zero, List.map_append, List.append_assoc]
  rfl
theorem mid_same {α : Type} [Inhabited α] {g : α -> α} {l : List α} {i : Nat} (h : i < l.length) (e : g (gd l i) = gd l i) : mid g l i = mid g l (i + 1) := by
  unfold mid
  rw [List.drop_eq_getElem_cons h, List.take_succ_eq_append_getElem h, <- gd_lt h]
  simp [e]
def shI (f b : Int) (i : TI) : TI := cond (std.le f i.fc) ⟨std.add .i64 i.fc b, i.fp, i.fK, i.fR, i.fu, i.fv⟩ i
def shC (f b : Int) (c : TC) : TC := ⟨c.fN, c.fS, c.fL, c.fI.map (shI f b)⟩
theorem spec_shiftIn (a : TL) (f b : Int) (k : Nat) (v2 : List TC) (hk : a.fC.length = v2.length) (hn : (gd v2 k).fI.length <= 10000000) :
    whileP (Lq20_x25 a f b (k : Int) v2) (0, (gd v2 k).fI) = some (v2.set k (shC f b (gd v2 k))) := by
  obtain ⟨c, hc⟩ : ∃ c, c = gd v2 k := ⟨_, rfl⟩
  rw [<- hc] at hn ⊢
  refine while_from (fun i => ((i : Int), mid (shI f b) c.fI i)) c.fI.length rfl (fun i hi => ?_) ?_
  · simp only [Lq20_x25, letO_eq, obs, s_nadd, s_toNn, Nat.zero_add, <- hc, mid_gd hi]
    rw [ltl_t hi, br_t, req_of (inRl hi), obs, inc_nat (by omega)]
    cases hle : std.le f (gd c.fI i).fc with
    | false =>
      simp only [br_f, obs]
      rw [mid_same hi (by unfold shI; rw [hle]; rfl)]
    | true =>
      simp only [br_t, obs, req_of (inRl hi)]
      rw [req_of (show len c.fI = len (mid (shI f b) c.fI i) by rw [len_eq, len_eq, mid_len]), obs, obs, mid_set hi (by unfold shI; rw [hle]; rfl)]
  · simp only [Lq20_x25, letO_eq, obs, s_nadd, s_toNn, Nat.zero_add, <- hc]
    rw [ltl_f, br_f, mid_all, req_of (show len c.fI = len (c.fI.map (shI f b)) by rw [len_eq, len_eq, List.length_map]), req_of (show len a.fC = len v2 from hk)]
    rfl
theorem impl_shiftIn (a : TL) (f b : Int) (k : Nat) (v2 : List TC) (hk : a.fC.length = v2.length) (hn : (gd v2 k).fI.length <= 10000000) :
    whileP (Lq21_x34 a f b (k : Int) v2 (std.ofN (len (gd v2 k).fI))) (0, (gd v2 k).fI) = some (v2.set k (shC f b (gd v2 k))) := by
  obtain ⟨c, hc⟩ : ∃ c, c = gd v2 k := ⟨_, rfl⟩
  rw [<- hc] at hn ⊢
  refine while_from (fun i => ((i : Int), mid (shI f b) c.fI i)) c.fI.length rfl (fun i hi => ?_) ?_
  · simp only [Lq21_x34, letO_eq, obs, s_nadd, s_toNn, Nat.zero_add, <- hc, mid_gd hi]
    rw [ltl_t hi, br_t, req_of (inRl hi), obs, inc_nat (by omega)]
    cases hle : std.le f (gd c.fI i).fc with
    | false =>
      simp only [br_f, obs]
      rw [mid_same hi (by unfold shI; rw [hle]; rfl)]
    | true =>
      simp only [br_t, obs, req_of (inRl hi)]
      rw [req_of (show len c.fI = len (mid (shI f b) c.fI i) by rw [len_eq, len_eq, mid_len]), obs, obs, mid_set hi (by unfold shI; rw [hle]; rfl)]
  · simp only [Lq21_x34, letO_eq, obs, s_nadd, s_toNn, Nat.zero_add, <- hc]
    rw [ltl_f, br_f, mid_all, req_of (show len c.fI = len (c.fI.map (shI f b)) by rw [len_eq, len_eq, List.length_map]), req_of (show len a.fC = len v2 from hk)]
    rfl
theorem spec_l13Shift_ok (a : TL) (f b : Int) (h : SmallL a) : Fq20 a f b = some (a.fC.map (shC f b)) := by
  have hc := h.cells
  unfold Fq20
  refine Eq.trans (bind_of (while_from (r := a.fC.map (shC f b)) (fun i => ((i : Int), mid (shC f b) a.fC i)) a.fC.length rfl (fun i hi => ?_) ?_)) ?_
  · have hi2 := (h.cell _ (gd_mem hi)).insts
    simp only [Lq20_x3, letO_eq, obs, s_nadd, s_toNn, Nat.zero_add]
    rw [ltl_t hi, br_t, req_of (inRl hi), req_of (inRl hi), obs, spec_shiftIn a f b i _ (by rw [mid_len]) (by rw [mid_gd hi]; omega), obs, inc_nat (by omega), mid_gd hi, mid_set hi rfl]
  · simp only [Lq20_x3, letO_eq]
    rw [ltl_f, br_f, mid_all]
  · simp only [letO_eq]
    rw [req_of (by rw [len_eq, len_eq, List.length_map])]
theorem impl_renumber_ok (a : TL) (f b : Int) (h : SmallL a) : Fq21 a f b = some (a.fC.map (shC f b)) := by
  have hc := h.cells
  unfold Fq21
  refine Eq.trans (bind_of (while_from (r := a.fC.map (shC f b)) (fun i => ((i : Int), mid (shC f b) a.fC i)) a.fC.length rfl (fun i hi => ?_) ?_)) ?_
  · have hi2 := (h.cell _ (gd_mem hi)).insts
    simp only [Lq21_x3, letO_eq, obs, s_nadd, s_toNn, Nat.zero_add]
    rw [ltl_t hi, br_t, req_of (inRl hi), req_of (inRl hi), obs, impl_shiftIn a f b i _ (by rw [mid_len]) (by rw [mid_gd hi]; omega), obs, inc_nat (by omega), mid_gd hi, mid_set hi rfl]
  · simp only [Lq21_x3, letO_eq]
    rw [ltl_f, br_f, mid_all]
  · simp only [letO_eq]
    rw [req_of (by rw [len_eq, len_eq, List.length_map])]
/- an edit that is possible: both sides -/
def insA {α : Type} (l : List α) (i : Nat) (x : α) : List α := l.take i ++ [x] ++ l.drop i
def delA {α : Type} (l : List α) (i : Nat) : List α := l.take i ++ l.drop (i + 1)
def edC (e : TE) (c : TC) : TC :=
  if e.fk = 1 then ⟨c.fN, insA c.fS e.fx.toNat e.fs_, c.fL, c.fI⟩
  else if e.fk = 2 then ⟨c.fN, delA c.fS e.fx.toNat, c.fL, c.fI⟩
  else if e.fk = 3 then ⟨c.fN, c.fS, insA c.fL e.fx.toNat e.fl_, c.fI⟩
  else if e.fk = 4 then ⟨c.fN, c.fS, delA c.fL e.fx.toNat, c.fI⟩
  else if e.fk = 5 then ⟨c.fN, c.fS, c.fL, insA c.fI e.fx.toNat e.fi_⟩
  else if e.fk = 6 then ⟨c.fN, c.fS, c.fL, delA c.fI e.fx.toNat⟩
  else if e.fk = 7 then ⟨e.fN, c.fS, c.fL, c.fI⟩
  else c
def appE (a : TL) (e : TE) : TL :=
  if e.fk = 8 then ⟨insA (a.fC.map (shC e.fc 1)) e.fc.toNat ⟨e.fN, [], [], []⟩⟩
  else if e.fk = 9 then ⟨(delA a.fC e.fc.toNat).map (shC e.fc (-1))⟩
  else ⟨a.fC.set e.fc.toNat (edC e (gd a.fC e.fc.toNat))⟩
theorem insC_zero {i : Int} {n : Nat} {m : Int} (h : insC i n m = 0) : i <= n /\ (n : Int) ≠ m := by
  unfold insC at h
  by_cases h1 : (n : Int) < i
  · rw [if_pos h1] at h; exact absurd h (by decide)
  · rw [if_neg h1] at h
    by_cases h2 : (n : Int) = m
    · rw [if_pos h2] at h; exact absurd h (by decide)
    · exact ⟨by omega, h2⟩
/-- where an insertion may stand -/
theorem eCode_ins {a : TL} {e : TE} {m : Nat} (hc : eCode a e = 0) (hm : e.fc = (m : Int)) (hlt : m < a.fC.length) : (e.fk = 1 -> e.fx <= ((gd a.fC m).fS.length : Int) /\ ((gd a.fC m).fS.length : Int) ≠ 24) /\ (e.fk = 3 -> e.fx <= ((gd a.fC m).fL.length : Int) /\ ((gd a.fC m).fL.length : Int) ≠ 8) /\ (e.fk = 5 -> (e.fx <= ((gd a.fC m).fI.length : Int) /\ ((gd a.fC m).fI.length : Int) ≠ 8) /\ e.fi_.fc < e.fc) := by
  obtain ⟨hv, he, _⟩ := eCode_zero hc
  unfold eCode at hc
  rw [if_neg (by rw [hv, he]; decide)] at hc
  have hn : ¬ (a.fC.length : Int) <= e.fc := by omega
  have ht : e.fc.toNat = m := by omega
  rw [ht] at hc
  refine ⟨fun hk => ?_, fun hk => ?_, fun hk => ?_⟩
  · rw [if_neg (by omega), if_neg hn, if_pos hk] at hc; exact insC_zero hc
  · rw [if_neg (by omega), if_neg hn, if_neg (by omega), if_neg (by omega), if_pos hk] at hc; exact insC_zero hc
  · rw [if_neg (by omega), if_neg hn, if_neg (by omega), if_neg (by omega), if_neg (by omega), if_neg (by omega), if_pos hk] at hc
    by_cases h1 : insC e.fx (gd a.fC m).fI.length 8 = 0 /\ e.fc <= e.fi_.fc
    · rw [if_pos h1] at hc; exact absurd hc (by decide)
    · rw [if_neg h1] at hc
      exact ⟨insC_zero hc, by by_cases h2 : e.fc <= e.fi_.fc; exact absurd ⟨hc, h2⟩ h1; omega⟩
theorem eCode_cell {a : TL} {e : TE} (hc : eCode a e = 0) (hk : e.fk = 8) : e.fc <= (a.fC.length : Int) /\ (a.fC.length : Int) ≠ 8 /\ othN a.fC (-1) e.fN = false := by
  obtain ⟨hv, he, _⟩ := eCode_zero hc
  unfold eCode at hc
  rw [if_neg (by rw [hv, he]; decide), if_pos hk] at hc
  by_cases h1 : (a.fC.length : Int) < e.fc
  · rw [if_pos h1] at hc; exact absurd hc (by decide)
  · rw [if_neg h1] at hc
    by_cases h2 : (a.fC.length : Int) = 8
    · rw [if_pos h2] at hc; exact absurd hc (by decide)
    · rw [if_neg h2] at hc
      refine ⟨by omega, h2, ?_⟩
      cases h3 : othN a.fC (-1) e.fN with
      | false => rfl
      | true => rw [h3, if_pos rfl] at hc; exact absurd hc (by decide)
theorem room_of {n b : Nat} (hn : n <= 1000000) (hb : b <= 1000) : std.room n b := roomC (by omega) hb
theorem small_ins {a : TL} (h : SmallL a) (m : Nat) (s : ByteArray) (hs : s.size <= 1048576) (hn : a.fC.length <= 1000) : SmallL ⟨List.take m a.fC ++ [⟨s, [], [], []⟩] ++ List.drop m a.fC⟩ := by
  refine ⟨by simp only [List.length_append, List.length_take, List.length_drop, List.length_cons, List.length_nil]; omega, fun c hc => ?_⟩
  simp only [List.mem_append, List.mem_singleton] at hc
  rcases hc with (hc | rfl) | hc
  · exact h.cell c (List.mem_of_mem_take hc)
  · exact ⟨hs, by simp, by simp, by simp, by simp⟩
  · exact h.cell c (List.mem_of_mem_drop hc)
theorem small_del {a : TL} (h : SmallL a) (m : Nat) : SmallL ⟨delA a.fC m⟩ := by
  have hl := h.cells
  refine ⟨by simp only [delA, List.length_append, List.length_take, List.length_drop]; omega, fun c hc => ?_⟩
  simp only [delA, List.mem_append] at hc
  rcases hc with hc | hc
  · exact h.cell c (List.mem_of_mem_take hc)
  · exact h.cell c (List.mem_of_mem_drop hc)
theorem insA_map {f b : Int} (l : List TC) (m : Nat) (s : ByteArray) : List.map (shC f b) (List.take m l ++ [⟨s, [], [], []⟩] ++ List.drop m l) = insA (l.map (shC f b)) m ⟨s, [], [], []⟩ := by
  unfold insA
  rw [List.map_append, List.map_append, List.map_take, List.map_drop]
  rfl
set_option maxHeartbeats 4000000 in
theorem spec_l13Do_ok (a : TL) (e : TE) (h : SmallL a) (g : SmallE e) (hc : eCode a e = 0) : Fq80 a e = some (appE a e) := by
  have hcl := h.cells
  obtain ⟨hv, he, hcell⟩ := eCode_zero hc
  obtain ⟨hk, h1, hi⟩ := okEdit_kind he
  have hl := okLib_len hv
  obtain ⟨m, hm⟩ := Int.eq_ofNat_of_zero_le h1
  obtain ⟨q, hq⟩ := Int.eq_ofNat_of_zero_le hi
  unfold Fq80
  by_cases h8 : e.fk = 8
  · obtain ⟨c1, c2, _⟩ := eCode_cell hc h8
    rw [hm] at c1
    unfold appE
    rw [if_pos h8, h8, hm, show std.eq (8 : Int) 8 = true from rfl, br_t]
    rw [spec_l13Shift_ok a _ _ h, obs]
    obtain ⟨L, hL⟩ : ∃ L, L = a.fC.map (shC (m : Int) 1) := ⟨_, rfl⟩
    have hLl : L.length = a.fC.length := by rw [hL, List.length_map]
    rw [<- hL]
    simp only [br_f, br_t, obs, letO_eq, s_ofN, s_toNn, s_nadd, s_nsub, Nat.zero_add, len_eq, List.nil_append, show std.toN 0 = 0 from rfl, Nat.sub_zero, List.drop_zero, List.length_append, List.length_take, List.length_drop, List.length_cons, List.length_nil, List.length_map]
    rw [<- hLl]
    have c3 : m <= L.length := by omega
    repeat (rw [req_of]; rotate_left; focus (first | trivial | exact ⟨by omega, by omega⟩ | exact room_of (by omega) (by omega) | omega))
    rw [Int.toNat_natCast]
    unfold insA
    rw [List.take_of_length_le (l := List.drop m L) (by simp)]
  · obtain ⟨m2, hm2, hlt⟩ := hcell h8
    obtain rfl : m = m2 := by omega
    clear hm2
    by_cases h9 : e.fk = 9
    · unfold appE
      rw [if_neg h8, if_pos h9, h9, hm, show std.eq (9 : Int) 8 = false from rfl, show std.eq (9 : Int) 9 = true from rfl, br_f, br_t]
      have hm1 : std.add .i64 (m : Int) 1 = ((m + 1 : Nat) : Int) := inc_nat (by omega)
      simp only [hm1, br_f, br_t, obs, letO_eq, s_ofN, s_toNn, s_nadd, s_nsub, Nat.zero_add, len_eq, List.nil_append, show std.toN 0 = 0 from rfl, Nat.sub_zero, List.drop_zero, List.length_append, List.length_take, List.length_drop, List.length_cons, List.length_nil, List.length_map]
      have ed : List.take m a.fC ++ List.take (a.fC.length - (m + 1)) (List.drop (m + 1) a.fC) = delA a.fC m := by
        unfold delA
        rw [List.take_of_length_le (l := List.drop (m + 1) a.fC) (by simp)]
      rw [ed, spec_l13Shift_ok ⟨delA a.fC m⟩ _ _ (small_del h m), obs]
      have hdl : (delA a.fC m).length = a.fC.length - 1 := by unfold delA; simp; omega
      simp only [List.length_map]
      repeat (rw [req_of]; rotate_left; focus (first | trivial | exact ⟨by omega, by omega⟩ | exact room_of (by omega) (by omega) | omega))
      rw [Int.toNat_natCast]
    · have hk7 : e.fk = 1 \/ e.fk = 2 \/ e.fk = 3 \/ e.fk = 4 \/ e.fk = 5 \/ e.fk = 6 \/ e.fk = 7 := by omega
      unfold appE
      rw [if_neg h8, if_neg h9]
      obtain ⟨d2, d4, d6⟩ := eCode_index hc hm hlt
      obtain ⟨n1, n3, n5⟩ := eCode_ins hc hm hlt
      obtain ⟨b1, b2, b3⟩ := okLib_cell hv hlt
      have hq1 : q <= 1000 -> std.add .i64 (q : Int) 1 = ((q + 1 : Nat) : Int) := fun hh => inc_nat (by omega)
      have hin : std.inR (m : Int) a.fC.length := ⟨by omega, by omega⟩
      clear hcell h8 h9 hk hc
      obtain ⟨kind, cell, index, name, shape, label, inst⟩ := e
      simp only at hk7 hm hq d2 d4 d6 n1 n3 n5 ⊢
      subst hm hq
      obtain ⟨c, hcd⟩ : ∃ c, c = gd a.fC m := ⟨_, rfl⟩
      rw [<- hcd] at d2 d4 d6 n1 n3 n5 b1 b2 b3
      have hgd : gd a.fC (Int.toNat (m : Int)) = c := by rw [Int.toNat_natCast, hcd]
      have hset : ∀ x : TC, (a.fC.set m x).length = a.fC.length := fun x => List.length_set
      rcases hk7 with rfl | rfl | rfl | rfl | rfl | rfl | rfl
      · obtain ⟨j1, j2⟩ := n1 rfl
        simp only [edC, hgd, Int.toNat_natCast, Int.reduceEq, if_true, if_false, eq_self]
        simp only [show std.eq (1 : Int) 1 = true from rfl, show std.eq (1 : Int) 2 = false from rfl, show std.eq (1 : Int) 3 = false from rfl, show std.eq (1 : Int) 4 = false from rfl, show std.eq (1 : Int) 5 = false from rfl, show std.eq (1 : Int) 6 = false from rfl, show std.eq (1 : Int) 7 = false from rfl, show std.eq (1 : Int) 8 = false from rfl, show std.eq (1 : Int) 9 = false from rfl, br_f, br_t, obs, letO_eq, s_ofN, s_toNn, s_nadd, s_nsub, Nat.zero_add, len_eq, List.nil_append, show std.toN 0 = 0 from rfl, Nat.sub_zero, List.drop_zero, List.length_append, List.length_take, List.length_drop, List.length_cons, List.length_nil, List.length_map, <- hcd, hset]
        repeat (rw [req_of]; rotate_left; focus (first | trivial | exact ⟨by omega, by omega⟩ | exact room_of (by omega) (by omega) | omega))
        unfold insA
        rw [List.take_of_length_le (l := List.drop q c.fS) (by simp)]
        all_goals (try simp only [show std.eq (1 : Int) 1 = true from rfl, show std.eq (1 : Int) 2 = false from rfl, show std.eq (1 : Int) 3 = false from rfl, show std.eq (1 : Int) 4 = false from rfl, show std.eq (1 : Int) 5 = false from rfl, show std.eq (1 : Int) 6 = false from rfl, show std.eq (1 : Int) 7 = false from rfl, show std.eq (1 : Int) 8 = false from rfl, show std.eq (1 : Int) 9 = false from rfl, br_f, br_t, obs, letO_eq, s_ofN, s_toNn, s_nadd, s_nsub, Nat.zero_add, len_eq, List.nil_append, show std.toN 0 = 0 from rfl, Nat.sub_zero, List.drop_zero, List.length_append, List.length_take, List.length_drop, List.length_cons, List.length_nil, List.length_map, <- hcd, hset])
        all_goals (repeat (rw [req_of]; rotate_left; focus (first | trivial | exact ⟨by omega, by omega⟩ | exact room_of (by omega) (by omega) | omega)))
        all_goals (try simp only [show std.eq (1 : Int) 1 = true from rfl, show std.eq (1 : Int) 2 = false from rfl, show std.eq (1 : Int) 3 = false from rfl, show std.eq (1 : Int) 4 = false from rfl, show std.eq (1 : Int) 5 = false from rfl, show std.eq (1 : Int) 6 = false from rfl, show std.eq (1 : Int) 7 = false from rfl, show std.eq (1 : Int) 8 = false from rfl, show std.eq (1 : Int) 9 = false from rfl, br_f, br_t, obs, letO_eq, s_ofN, s_toNn, s_nadd, s_nsub, Nat.zero_add, len_eq, List.nil_append, show std.toN 0 = 0 from rfl, Nat.sub_zero, List.drop_zero, List.length_append, List.length_take, List.length_drop, List.length_cons, List.length_nil, List.length_map, <- hcd, hset])
        all_goals (repeat (rw [req_of]; rotate_left; focus (first | trivial | exact ⟨by omega, by omega⟩ | exact room_of (by omega) (by omega) | omega)))
      · obtain ⟨q2, j1, j2⟩ := d2 rfl
        obtain rfl : q = q2 := by omega
        simp only [edC, hgd, Int.toNat_natCast, Int.reduceEq, if_true, if_false, eq_self]
        simp only [show std.eq (2 : Int) 1 = false from rfl, show std.eq (2 : Int) 2 = true from rfl, show std.eq (2 : Int) 3 = false from rfl, show std.eq (2 : Int) 4 = false from rfl, show std.eq (2 : Int) 5 = false from rfl, show std.eq (2 : Int) 6 = false from rfl, show std.eq (2 : Int) 7 = false from rfl, show std.eq (2 : Int) 8 = false from rfl, show std.eq (2 : Int) 9 = false from rfl, hq1 (show q <= 1000 by omega), br_f, br_t, obs, letO_eq, s_ofN, s_toNn, s_nadd, s_nsub, Nat.zero_add, len_eq, List.nil_append, show std.toN 0 = 0 from rfl, Nat.sub_zero, List.drop_zero, List.length_append, List.length_take, List.length_drop, List.length_cons, List.length_nil, List.length_map, <- hcd, hset]
        repeat (rw [req_of]; rotate_left; focus (first | trivial | exact ⟨by omega, by omega⟩ | exact room_of (by omega) (by omega) | omega))
        unfold delA
        rw [List.take_of_length_le (l := List.drop (q + 1) c.fS) (by simp)]
        all_goals (try simp only [show std.eq (2 : Int) 1 = false from rfl, show std.eq (2 : Int) 2 = true from rfl, show std.eq (2 : Int) 3 = false from rfl, show std.eq (2 : Int) 4 = false from rfl, show std.eq (2 : Int) 5 = false from rfl, show std.eq (2 : Int) 6 = false from rfl, show std.eq (2 : Int) 7 = false from rfl, show std.eq (2 : Int) 8 = false from rfl, show std.eq (2 : Int) 9 = false from rfl, hq1 (show q <= 1000 by omega), br_f, br_t, obs, letO_eq, s_ofN, s_toNn, s_nadd, s_nsub, Nat.zero_add, len_eq, List.nil_append, show std.toN 0 = 0 from rfl, Nat.sub_zero, List.drop_zero, List.length_append, List.length_take, List.length_drop, List.length_cons, List.length_nil, List.length_map, <- hcd, hset])
        all_goals (repeat (rw [req_of]; rotate_left; focus (first | trivial | exact ⟨by omega, by omega⟩ | exact room_of (by omega) (by omega) | omega)))
        all_goals (try simp only [show std.eq (2 : Int) 1 = false from rfl, show std.eq (2 : Int) 2 = true from rfl, show std.eq (2 : Int) 3 = false from rfl, show std.eq (2 : Int) 4 = false from rfl, show std.eq (2 : Int) 5 = false from rfl, show std.eq (2 : Int) 6 = false from rfl, show std.eq (2 : Int) 7 = false from rfl, show std.eq (2 : Int) 8 = false from rfl, show std.eq (2 : Int) 9 = false from rfl, hq1 (show q <= 1000 by omega), br_f, br_t, obs, letO_eq, s_ofN, s_toNn, s_nadd, s_nsub, Nat.zero_add, len_eq, List.nil_append, show std.toN 0 = 0 from rfl, Nat.sub_zero, List.drop_zero, List.length_append, List.length_take, List.length_drop, List.length_cons, List.length_nil, List.length_map, <- hcd, hset])
        all_goals (repeat (rw [req_of]; rotate_left; focus (first | trivial | exact ⟨by omega, by omega⟩ | exact room_of (by omega) (by omega) | omega)))
      · obtain ⟨j1, j2⟩ := n3 rfl
        simp only [edC, hgd, Int.toNat_natCast, Int.reduceEq, if_true, if_false, eq_self]
        simp only [show std.eq (3 : Int) 1 = false from rfl, show std.eq (3 : Int) 2 = false from rfl, show std.eq (3 : Int) 3 = true from rfl, show std.eq (3 : Int) 4 = false from rfl, show std.eq (3 : Int) 5 = false from rfl, show std.eq (3 : Int) 6 = false from rfl, show std.eq (3 : Int) 7 = false from rfl, show std.eq (3 : Int) 8 = false from rfl, show std.eq (3 : Int) 9 = false from rfl, br_f, br_t, obs, letO_eq, s_ofN, s_toNn, s_nadd, s_nsub, Nat.zero_add, len_eq, List.nil_append, show std.toN 0 = 0 from rfl, Nat.sub_zero, List.drop_zero, List.length_append, List.length_take, List.length_drop, List.length_cons, List.length_nil, List.length_map, <- hcd, hset]
        repeat (rw [req_of]; rotate_left; focus (first | trivial | exact ⟨by omega, by omega⟩ | exact room_of (by omega) (by omega) | omega))
        unfold insA
        rw [List.take_of_length_le (l := List.drop q c.fL) (by simp)]
        all_goals (try simp only [show std.eq (3 : Int) 1 = false from rfl, show std.eq (3 : Int) 2 = false from rfl, show std.eq (3 : Int) 3 = true from rfl, show std.eq (3 : Int) 4 = false from rfl, show std.eq (3 : Int) 5 = false from rfl, show std.eq (3 : Int) 6 = false from rfl, show std.eq (3 : Int) 7 = false from rfl, show std.eq (3 : Int) 8 = false from rfl, show std.eq (3 : Int) 9 = false from rfl, br_f, br_t, obs, letO_eq, s_ofN, s_toNn, s_nadd, s_nsub, Nat.zero_add, len_eq, List.nil_append, show std.toN 0 = 0 from rfl, Nat.sub_zero, List.drop_zero, List.length_append, List.length_take, List.length_drop, List.length_cons, List.length_nil, List.length_map, <- hcd, hset])
        all_goals (repeat (rw [req_of]; rotate_left; focus (first | trivial | exact ⟨by omega, by omega⟩ | exact room_of (by omega) (by omega) | omega)))
        all_goals (try simp only [show std.eq (3 : Int) 1 = false from rfl, show std.eq (3 : Int) 2 = false from rfl, show std.eq (3 : Int) 3 = true from rfl, show std.eq (3 : Int) 4 = false from rfl, show std.eq (3 : Int) 5 = false from rfl, show std.eq (3 : Int) 6 = false from rfl, show std.eq (3 : Int) 7 = false from rfl, show std.eq (3 : Int) 8 = false from rfl, show std.eq (3 : Int) 9 = false from rfl, br_f, br_t, obs, letO_eq, s_ofN, s_toNn, s_nadd, s_nsub, Nat.zero_add, len_eq, List.nil_append, show std.toN 0 = 0 from rfl, Nat.sub_zero, List.drop_zero, List.length_append, List.length_take, List.length_drop, List.length_cons, List.length_nil, List.length_map, <- hcd, hset])
        all_goals (repeat (rw [req_of]; rotate_left; focus (first | trivial | exact ⟨by omega, by omega⟩ | exact room_of (by omega) (by omega) | omega)))
      · obtain ⟨q2, j1, j2⟩ := d4 rfl
        obtain rfl : q = q2 := by omega
        simp only [edC, hgd, Int.toNat_natCast, Int.reduceEq, if_true, if_false, eq_self]
        simp only [show std.eq (4 : Int) 1 = false from rfl, show std.eq (4 : Int) 2 = false from rfl, show std.eq (4 : Int) 3 = false from rfl, show std.eq (4 : Int) 4 = true from rfl, show std.eq (4 : Int) 5 = false from rfl, show std.eq (4 : Int) 6 = false from rfl, show std.eq (4 : Int) 7 = false from rfl, show std.eq (4 : Int) 8 = false from rfl, show std.eq (4 : Int) 9 = false from rfl, hq1 (show q <= 1000 by omega), br_f, br_t, obs, letO_eq, s_ofN, s_toNn, s_nadd, s_nsub, Nat.zero_add, len_eq, List.nil_append, show std.toN 0 = 0 from rfl, Nat.sub_zero, List.drop_zero, List.length_append, List.length_take, List.length_drop, List.length_cons, List.length_nil, List.length_map, <- hcd, hset]
        repeat (rw [req_of]; rotate_left; focus (first | trivial | exact ⟨by omega, by omega⟩ | exact room_of (by omega) (by omega) | omega))
        unfold delA
        rw [List.take_of_length_le (l := List.drop (q + 1) c.fL) (by simp)]
        all_goals (try simp only [show std.eq (4 : Int) 1 = false from rfl, show std.eq (4 : Int) 2 = false from rfl, show std.eq (4 : Int) 3 = false from rfl, show std.eq (4 : Int) 4 = true from rfl, show std.eq (4 : Int) 5 = false from rfl, show std.eq (4 : Int) 6 = false from rfl, show std.eq (4 : Int) 7 = false from rfl, show std.eq (4 : Int) 8 = false from rfl, show std.eq (4 : Int) 9 = false from rfl, hq1 (show q <= 1000 by omega), br_f, br_t, obs, letO_eq, s_ofN, s_toNn, s_nadd, s_nsub, Nat.zero_add, len_eq, List.nil_append, show std.toN 0 = 0 from rfl, Nat.sub_zero, List.drop_zero, List.length_append, List.length_take, List.length_drop, List.length_cons, List.length_nil, List.length_map, <- hcd, hset])
        all_goals (repeat (rw [req_of]; rotate_left; focus (first | trivial | exact ⟨by omega, by omega⟩ | exact room_of (by omega) (by omega) | omega)))
        all_goals (try simp only [show std.eq (4 : Int) 1 = false from rfl, show std.eq (4 : Int) 2 = false from rfl, show std.eq (4 : Int) 3 = false from rfl, show std.eq (4 : Int) 4 = true from rfl, show std.eq (4 : Int) 5 = false from rfl, show std.eq (4 : Int) 6 = false from rfl, show std.eq (4 : Int) 7 = false from rfl, show std.eq (4 : Int) 8 = false from rfl, show std.eq (4 : Int) 9 = false from rfl, hq1 (show q <= 1000 by omega), br_f, br_t, obs, letO_eq, s_ofN, s_toNn, s_nadd, s_nsub, Nat.zero_add, len_eq, List.nil_append, show std.toN 0 = 0 from rfl, Nat.sub_zero, List.drop_zero, List.length_append, List.length_take, List.length_drop, List.length_cons, List.length_nil, List.length_map, <- hcd, hset])
        all_goals (repeat (rw [req_of]; rotate_left; focus (first | trivial | exact ⟨by omega, by omega⟩ | exact room_of (by omega) (by omega) | omega)))
      · obtain ⟨⟨j1, j2⟩, _⟩ := n5 rfl
        simp only [edC, hgd, Int.toNat_natCast, Int.reduceEq, if_true, if_false, eq_self]
        simp only [show std.eq (5 : Int) 1 = false from rfl, show std.eq (5 : Int) 2 = false from rfl, show std.eq (5 : Int) 3 = false from rfl, show std.eq (5 : Int) 4 = false from rfl, show std.eq (5 : Int) 5 = true from rfl, show std.eq (5 : Int) 6 = false from rfl, show std.eq (5 : Int) 7 = false from rfl, show std.eq (5 : Int) 8 = false from rfl, show std.eq (5 : Int) 9 = false from rfl, br_f, br_t, obs, letO_eq, s_ofN, s_toNn, s_nadd, s_nsub, Nat.zero_add, len_eq, List.nil_append, show std.toN 0 = 0 from rfl, Nat.sub_zero, List.drop_zero, List.length_append, List.length_take, List.length_drop, List.length_cons, List.length_nil, List.length_map, <- hcd, hset]
        repeat (rw [req_of]; rotate_left; focus (first | trivial | exact ⟨by omega, by omega⟩ | exact room_of (by omega) (by omega) | omega))
        unfold insA
        rw [List.take_of_length_le (l := List.drop q c.fI) (by simp)]
        all_goals (try simp only [show std.eq (5 : Int) 1 = false from rfl, show std.eq (5 : Int) 2 = false from rfl, show std.eq (5 : Int) 3 = false from rfl, show std.eq (5 : Int) 4 = false from rfl, show std.eq (5 : Int) 5 = true from rfl, show std.eq (5 : Int) 6 = false from rfl, show std.eq (5 : Int) 7 = false from rfl, show std.eq (5 : Int) 8 = false from rfl, show std.eq (5 : Int) 9 = false from rfl, br_f, br_t, obs, letO_eq, s_ofN, s_toNn, s_nadd, s_nsub, Nat.zero_add, len_eq, List.nil_append, show std.toN 0 = 0 from rfl, Nat.sub_zero, List.drop_zero, List.length_append, List.length_take, List.length_drop, List.length_cons, List.length_nil, List.length_map, <- hcd, hset])
        all_goals (repeat (rw [req_of]; rotate_left; focus (first | trivial | exact ⟨by omega, by omega⟩ | exact room_of (by omega) (by omega) | omega)))
        all_goals (try simp only [show std.eq (5 : Int) 1 = false from rfl, show std.eq (5 : Int) 2 = false from rfl, show std.eq (5 : Int) 3 = false from rfl, show std.eq (5 : Int) 4 = false from rfl, show std.eq (5 : Int) 5 = true from rfl, show std.eq (5 : Int) 6 = false from rfl, show std.eq (5 : Int) 7 = false from rfl, show std.eq (5 : Int) 8 = false from rfl, show std.eq (5 : Int) 9 = false from rfl, br_f, br_t, obs, letO_eq, s_ofN, s_toNn, s_nadd, s_nsub, Nat.zero_add, len_eq, List.nil_append, show std.toN 0 = 0 from rfl, Nat.sub_zero, List.drop_zero, List.length_append, List.length_take, List.length_drop, List.length_cons, List.length_nil, List.length_map, <- hcd, hset])
        all_goals (repeat (rw [req_of]; rotate_left; focus (first | trivial | exact ⟨by omega, by omega⟩ | exact room_of (by omega) (by omega) | omega)))
      · obtain ⟨q2, j1, j2⟩ := d6 rfl
        obtain rfl : q = q2 := by omega
        simp only [edC, hgd, Int.toNat_natCast, Int.reduceEq, if_true, if_false, eq_self]
        simp only [show std.eq (6 : Int) 1 = false from rfl, show std.eq (6 : Int) 2 = false from rfl, show std.eq (6 : Int) 3 = false from rfl, show std.eq (6 : Int) 4 = false from rfl, show std.eq (6 : Int) 5 = false from rfl, show std.eq (6 : Int) 6 = true from rfl, show std.eq (6 : Int) 7 = false from rfl, show std.eq (6 : Int) 8 = false from rfl, show std.eq (6 : Int) 9 = false from rfl, hq1 (show q <= 1000 by omega), br_f, br_t, obs, letO_eq, s_ofN, s_toNn, s_nadd, s_nsub, Nat.zero_add, len_eq, List.nil_append, show std.toN 0 = 0 from rfl, Nat.sub_zero, List.drop_zero, List.length_append, List.length_take, List.length_drop, List.length_cons, List.length_nil, List.length_map, <- hcd, hset]
        repeat (rw [req_of]; rotate_left; focus (first | trivial | exact ⟨by omega, by omega⟩ | exact room_of (by omega) (by omega) | omega))
        unfold delA
        rw [List.take_of_length_le (l := List.drop (q + 1) c.fI) (by simp)]
        all_goals (try simp only [show std.eq (6 : Int) 1 = false from rfl, show std.eq (6 : Int) 2 = false from rfl, show std.eq (6 : Int) 3 = false from rfl, show std.eq (6 : Int) 4 = false from rfl, show std.eq (6 : Int) 5 = false from rfl, show std.eq (6 : Int) 6 = true from rfl, show std.eq (6 : Int) 7 = false from rfl, show std.eq (6 : Int) 8 = false from rfl, show std.eq (6 : Int) 9 = false from rfl, hq1 (show q <= 1000 by omega), br_f, br_t, obs, letO_eq, s_ofN, s_toNn, s_nadd, s_nsub, Nat.zero_add, len_eq, List.nil_append, show std.toN 0 = 0 from rfl, Nat.sub_zero, List.drop_zero, List.length_append, List.length_take, List.length_drop, List.length_cons, List.length_nil, List.length_map, <- hcd, hset])
        all_goals (repeat (rw [req_of]; rotate_left; focus (first | trivial | exact ⟨by omega, by omega⟩ | exact room_of (by omega) (by omega) | omega)))
        all_goals (try simp only [show std.eq (6 : Int) 1 = false from rfl, show std.eq (6 : Int) 2 = false from rfl, show std.eq (6 : Int) 3 = false from rfl, show std.eq (6 : Int) 4 = false from rfl, show std.eq (6 : Int) 5 = false from rfl, show std.eq (6 : Int) 6 = true from rfl, show std.eq (6 : Int) 7 = false from rfl, show std.eq (6 : Int) 8 = false from rfl, show std.eq (6 : Int) 9 = false from rfl, hq1 (show q <= 1000 by omega), br_f, br_t, obs, letO_eq, s_ofN, s_toNn, s_nadd, s_nsub, Nat.zero_add, len_eq, List.nil_append, show std.toN 0 = 0 from rfl, Nat.sub_zero, List.drop_zero, List.length_append, List.length_take, List.length_drop, List.length_cons, List.length_nil, List.length_map, <- hcd, hset])
        all_goals (repeat (rw [req_of]; rotate_left; focus (first | trivial | exact ⟨by omega, by omega⟩ | exact room_of (by omega) (by omega) | omega)))
      · simp only [edC, hgd, Int.toNat_natCast, Int.reduceEq, if_true, if_false, eq_self]
        simp only [show std.eq (7 : Int) 1 = false from rfl, show std.eq (7 : Int) 2 = false from rfl, show std.eq (7 : Int) 3 = false from rfl, show std.eq (7 : Int) 4 = false from rfl, show std.eq (7 : Int) 5 = false from rfl, show std.eq (7 : Int) 6 = false from rfl, show std.eq (7 : Int) 7 = true from rfl, show std.eq (7 : Int) 8 = false from rfl, show std.eq (7 : Int) 9 = false from rfl, br_f, br_t, obs, letO_eq, s_ofN, s_toNn, s_nadd, s_nsub, Nat.zero_add, len_eq, List.nil_append, show std.toN 0 = 0 from rfl, Nat.sub_zero, List.drop_zero, List.length_append, List.length_take, List.length_drop, List.length_cons, List.length_nil, List.length_map, <- hcd, hset]
        repeat (rw [req_of]; rotate_left; focus (first | trivial | exact ⟨by omega, by omega⟩ | exact room_of (by omega) (by omega) | omega))
        all_goals (try simp only [show std.eq (7 : Int) 1 = false from rfl, show std.eq (7 : Int) 2 = false from rfl, show std.eq (7 : Int) 3 = false from rfl, show std.eq (7 : Int) 4 = false from rfl, show std.eq (7 : Int) 5 = false from rfl, show std.eq (7 : Int) 6 = false from rfl, show std.eq (7 : Int) 7 = true from rfl, show std.eq (7 : Int) 8 = false from rfl, show std.eq (7 : Int) 9 = false from rfl, br_f, br_t, obs, letO_eq, s_ofN, s_toNn, s_nadd, s_nsub, Nat.zero_add, len_eq, List.nil_append, show std.toN 0 = 0 from rfl, Nat.sub_zero, List.drop_zero, List.length_append, List.length_take, List.length_drop, List.length_cons, List.length_nil, List.length_map, <- hcd, hset])
        all_goals (repeat (rw [req_of]; rotate_left; focus (first | trivial | exact ⟨by omega, by omega⟩ | exact room_of (by omega) (by omega) | omega)))
        all_goals (try simp only [show std.eq (7 : Int) 1 = false from rfl, show std.eq (7 : Int) 2 = false from rfl, show std.eq (7 : Int) 3 = false from rfl, show std.eq (7 : Int) 4 = false from rfl, show std.eq (7 : Int) 5 = false from rfl, show std.eq (7 : Int) 6 = false from rfl, show std.eq (7 : Int) 7 = true from rfl, show std.eq (7 : Int) 8 = false from rfl, show std.eq (7 : Int) 9 = false from rfl, br_f, br_t, obs, letO_eq, s_ofN, s_toNn, s_nadd, s_nsub, Nat.zero_add, len_eq, List.nil_append, show std.toN 0 = 0 from rfl, Nat.sub_zero, List.drop_zero, List.length_append, List.length_take, List.length_drop, List.length_cons, List.length_nil, List.length_map, <- hcd, hset])
        all_goals (repeat (rw [req_of]; rotate_left; focus (first | trivial | exact ⟨by omega, by omega⟩ | exact room_of (by omega) (by omega) | omega)))
set_option maxHeartbeats 4000000 in
theorem impl_edited_ok (a : TL) (e : TE) (h : SmallL a) (g : SmallE e) (hc : eCode a e = 0) : Fq103 a e = some (appE a e) := by
  have hcl := h.cells
  obtain ⟨hv, he, hcell⟩ := eCode_zero hc
  obtain ⟨hk, h1, hi⟩ := okEdit_kind he
  have hl := okLib_len hv
  obtain ⟨m, hm⟩ := Int.eq_ofNat_of_zero_le h1
  obtain ⟨q, hq⟩ := Int.eq_ofNat_of_zero_le hi
  unfold Fq103
  rw [impl_copyLibrary_ok a h, obs]
  by_cases h8 : e.fk = 8
  · obtain ⟨c1, c2, _⟩ := eCode_cell hc h8
    rw [hm] at c1
    unfold appE
    rw [if_pos h8, h8, hm, show std.eq (8 : Int) 8 = true from rfl, br_t]
    have c3 : m <= a.fC.length := by omega
    simp only [letO_eq]
    unfold Fq26
    rw [if_pos ⟨by omega, by omega, by simp, by simp; omega⟩, obs, Int.toNat_natCast]
    rw [impl_renumber_ok _ _ _ (small_ins h m e.fN (by have := g.name; omega) (by omega)), obs]
    rw [req_of (by simp [len_eq]), req_of (by simp [len_eq])]
    rw [insA_map]
  · obtain ⟨m2, hm2, hlt⟩ := hcell h8
    obtain rfl : m = m2 := by omega
    clear hm2
    by_cases h9 : e.fk = 9
    · unfold appE
      rw [if_neg h8, if_pos h9, h9, hm, show std.eq (9 : Int) 8 = false from rfl, show std.eq (9 : Int) 9 = true from rfl, br_f, br_t]
      have hm1 : std.add .i64 (m : Int) 1 = ((m + 1 : Nat) : Int) := inc_nat (by omega)
      unfold Fq112 Fq76
      rw [hm1, if_pos ⟨by omega, by omega, by omega⟩, obs, obs, Int.toNat_natCast, Int.toNat_natCast]
      rw [show List.take m a.fC ++ List.drop (m + 1) a.fC = delA a.fC m from rfl, impl_renumber_ok ⟨delA a.fC m⟩ _ _ (small_del h m), obs]
      rw [req_of (by simp [len_eq]), req_of (by simp [len_eq])]
    · have hk7 : e.fk = 1 \/ e.fk = 2 \/ e.fk = 3 \/ e.fk = 4 \/ e.fk = 5 \/ e.fk = 6 \/ e.fk = 7 := by omega
      unfold appE
      rw [if_neg h8, if_neg h9]
      obtain ⟨d2, d4, d6⟩ := eCode_index hc hm hlt
      obtain ⟨n1, n3, n5⟩ := eCode_ins hc hm hlt
      obtain ⟨b1, b2, b3⟩ := okLib_cell hv hlt
      have hq1 : q <= 1000 -> std.add .i64 (q : Int) 1 = ((q + 1 : Nat) : Int) := fun hh => inc_nat (by omega)
      have hin : std.inR (m : Int) a.fC.length := ⟨by omega, by omega⟩
      clear hcell h8 h9 hk hc
      obtain ⟨kind, cell, index, name, shape, label, inst⟩ := e
      simp only at hk7 hm hq d2 d4 d6 n1 n3 n5 ⊢
      subst hm hq
      obtain ⟨c, hcd⟩ : ∃ c, c = gd a.fC m := ⟨_, rfl⟩
      rw [<- hcd] at d2 d4 d6 n1 n3 n5 b1 b2 b3
      have hgd : gd a.fC (Int.toNat (m : Int)) = c := by rw [Int.toNat_natCast, hcd]
      have hset : ∀ x : TC, (a.fC.set m x).length = a.fC.length := fun x => List.length_set
      rcases hk7 with rfl | rfl | rfl | rfl | rfl | rfl | rfl
      · obtain ⟨j1, j2⟩ := n1 rfl
        simp only [edC, hgd, Int.toNat_natCast, Int.reduceEq, if_true, if_false, eq_self]
        have ei : Fq24 c.fS (q : Int) [shape] = some (insA c.fS q shape) := by
          unfold Fq24
          rw [if_pos ⟨by omega, by omega, by simp, by simp; omega⟩, Int.toNat_natCast]
          rfl
        simp only [show std.eq (1 : Int) 1 = true from rfl, show std.eq (1 : Int) 2 = false from rfl, show std.eq (1 : Int) 3 = false from rfl, show std.eq (1 : Int) 4 = false from rfl, show std.eq (1 : Int) 5 = false from rfl, show std.eq (1 : Int) 6 = false from rfl, show std.eq (1 : Int) 7 = false from rfl, show std.eq (1 : Int) 8 = false from rfl, show std.eq (1 : Int) 9 = false from rfl, ei, br_f, br_t, obs, letO_eq, s_ofN, s_toNn, s_nadd, s_nsub, Nat.zero_add, len_eq, List.nil_append, show std.toN 0 = 0 from rfl, Nat.sub_zero, List.drop_zero, List.length_append, List.length_take, List.length_drop, List.length_cons, List.length_nil, List.length_map, <- hcd, hset]
        repeat (rw [req_of]; rotate_left; focus (first | trivial | exact ⟨by omega, by omega⟩ | exact room_of (by omega) (by omega) | omega))
      · obtain ⟨q2, j1, j2⟩ := d2 rfl
        obtain rfl : q = q2 := by omega
        simp only [edC, hgd, Int.toNat_natCast, Int.reduceEq, if_true, if_false, eq_self]
        have ei : Fq99 c.fS (q : Int) = some (delA c.fS q) := by
          unfold Fq99 Fq74
          rw [hq1 (by omega), if_pos ⟨by omega, by omega, by omega⟩, Int.toNat_natCast, Int.toNat_natCast]
          rfl
        simp only [show std.eq (2 : Int) 1 = false from rfl, show std.eq (2 : Int) 2 = true from rfl, show std.eq (2 : Int) 3 = false from rfl, show std.eq (2 : Int) 4 = false from rfl, show std.eq (2 : Int) 5 = false from rfl, show std.eq (2 : Int) 6 = false from rfl, show std.eq (2 : Int) 7 = false from rfl, show std.eq (2 : Int) 8 = false from rfl, show std.eq (2 : Int) 9 = false from rfl, hq1 (show q <= 1000 by omega), ei, br_f, br_t, obs, letO_eq, s_ofN, s_toNn, s_nadd, s_nsub, Nat.zero_add, len_eq, List.nil_append, show std.toN 0 = 0 from rfl, Nat.sub_zero, List.drop_zero, List.length_append, List.length_take, List.length_drop, List.length_cons, List.length_nil, List.length_map, <- hcd, hset]
        repeat (rw [req_of]; rotate_left; focus (first | trivial | exact ⟨by omega, by omega⟩ | exact room_of (by omega) (by omega) | omega))
      · obtain ⟨j1, j2⟩ := n3 rfl
        simp only [edC, hgd, Int.toNat_natCast, Int.reduceEq, if_true, if_false, eq_self]
        have ei : Fq22 c.fL (q : Int) [label] = some (insA c.fL q label) := by
          unfold Fq22
          rw [if_pos ⟨by omega, by omega, by simp, by simp; omega⟩, Int.toNat_natCast]
          rfl
        simp only [show std.eq (3 : Int) 1 = false from rfl, show std.eq (3 : Int) 2 = false from rfl, show std.eq (3 : Int) 3 = true from rfl, show std.eq (3 : Int) 4 = false from rfl, show std.eq (3 : Int) 5 = false from rfl, show std.eq (3 : Int) 6 = false from rfl, show std.eq (3 : Int) 7 = false from rfl, show std.eq (3 : Int) 8 = false from rfl, show std.eq (3 : Int) 9 = false from rfl, ei, br_f, br_t, obs, letO_eq, s_ofN, s_toNn, s_nadd, s_nsub, Nat.zero_add, len_eq, List.nil_append, show std.toN 0 = 0 from rfl, Nat.sub_zero, List.drop_zero, List.length_append, List.length_take, List.length_drop, List.length_cons, List.length_nil, List.length_map, <- hcd, hset]
        repeat (rw [req_of]; rotate_left; focus (first | trivial | exact ⟨by omega, by omega⟩ | exact room_of (by omega) (by omega) | omega))
      · obtain ⟨q2, j1, j2⟩ := d4 rfl
        obtain rfl : q = q2 := by omega
        simp only [edC, hgd, Int.toNat_natCast, Int.reduceEq, if_true, if_false, eq_self]
        have ei : Fq87 c.fL (q : Int) = some (delA c.fL q) := by
          unfold Fq87 Fq73
          rw [hq1 (by omega), if_pos ⟨by omega, by omega, by omega⟩, Int.toNat_natCast, Int.toNat_natCast]
          rfl
        simp only [show std.eq (4 : Int) 1 = false from rfl, show std.eq (4 : Int) 2 = false from rfl, show std.eq (4 : Int) 3 = false from rfl, show std.eq (4 : Int) 4 = true from rfl, show std.eq (4 : Int) 5 = false from rfl, show std.eq (4 : Int) 6 = false from rfl, show std.eq (4 : Int) 7 = false from rfl, show std.eq (4 : Int) 8 = false from rfl, show std.eq (4 : Int) 9 = false from rfl, hq1 (show q <= 1000 by omega), ei, br_f, br_t, obs, letO_eq, s_ofN, s_toNn, s_nadd, s_nsub, Nat.zero_add, len_eq, List.nil_append, show std.toN 0 = 0 from rfl, Nat.sub_zero, List.drop_zero, List.length_append, List.length_take, List.length_drop, List.length_cons, List.length_nil, List.length_map, <- hcd, hset]
        repeat (rw [req_of]; rotate_left; focus (first | trivial | exact ⟨by omega, by omega⟩ | exact room_of (by omega) (by omega) | omega))
      · obtain ⟨⟨j1, j2⟩, _⟩ := n5 rfl
        simp only [edC, hgd, Int.toNat_natCast, Int.reduceEq, if_true, if_false, eq_self]
        have ei : Fq23 c.fI (q : Int) [inst] = some (insA c.fI q inst) := by
          unfold Fq23
          rw [if_pos ⟨by omega, by omega, by simp, by simp; omega⟩, Int.toNat_natCast]
          rfl
        simp only [show std.eq (5 : Int) 1 = false from rfl, show std.eq (5 : Int) 2 = false from rfl, show std.eq (5 : Int) 3 = false from rfl, show std.eq (5 : Int) 4 = false from rfl, show std.eq (5 : Int) 5 = true from rfl, show std.eq (5 : Int) 6 = false from rfl, show std.eq (5 : Int) 7 = false from rfl, show std.eq (5 : Int) 8 = false from rfl, show std.eq (5 : Int) 9 = false from rfl, ei, br_f, br_t, obs, letO_eq, s_ofN, s_toNn, s_nadd, s_nsub, Nat.zero_add, len_eq, List.nil_append, show std.toN 0 = 0 from rfl, Nat.sub_zero, List.drop_zero, List.length_append, List.length_take, List.length_drop, List.length_cons, List.length_nil, List.length_map, <- hcd, hset]
        repeat (rw [req_of]; rotate_left; focus (first | trivial | exact ⟨by omega, by omega⟩ | exact room_of (by omega) (by omega) | omega))
      · obtain ⟨q2, j1, j2⟩ := d6 rfl
        obtain rfl : q = q2 := by omega
        simp only [edC, hgd, Int.toNat_natCast, Int.reduceEq, if_true, if_false, eq_self]
        have ei : Fq100 c.fI (q : Int) = some (delA c.fI q) := by
          unfold Fq100 Fq75
          rw [hq1 (by omega), if_pos ⟨by omega, by omega, by omega⟩, Int.toNat_natCast, Int.toNat_natCast]
          rfl
        simp only [show std.eq (6 : Int) 1 = false from rfl, show std.eq (6 : Int) 2 = false from rfl, show std.eq (6 : Int) 3 = false from rfl, show std.eq (6 : Int) 4 = false from rfl, show std.eq (6 : Int) 5 = false from rfl, show std.eq (6 : Int) 6 = true from rfl, show std.eq (6 : Int) 7 = false from rfl, show std.eq (6 : Int) 8 = false from rfl, show std.eq (6 : Int) 9 = false from rfl, hq1 (show q <= 1000 by omega), ei, br_f, br_t, obs, letO_eq, s_ofN, s_toNn, s_nadd, s_nsub, Nat.zero_add, len_eq, List.nil_append, show std.toN 0 = 0 from rfl, Nat.sub_zero, List.drop_zero, List.length_append, List.length_take, List.length_drop, List.length_cons, List.length_nil, List.length_map, <- hcd, hset]
        repeat (rw [req_of]; rotate_left; focus (first | trivial | exact ⟨by omega, by omega⟩ | exact room_of (by omega) (by omega) | omega))
      · simp only [edC, hgd, Int.toNat_natCast, Int.reduceEq, if_true, if_false, eq_self]
        simp only [show std.eq (7 : Int) 1 = false from rfl, show std.eq (7 : Int) 2 = false from rfl, show std.eq (7 : Int) 3 = false from rfl, show std.eq (7 : Int) 4 = false from rfl, show std.eq (7 : Int) 5 = false from rfl, show std.eq (7 : Int) 6 = false from rfl, show std.eq (7 : Int) 7 = true from rfl, show std.eq (7 : Int) 8 = false from rfl, show std.eq (7 : Int) 9 = false from rfl, br_f, br_t, obs, letO_eq, s_ofN, s_toNn, s_nadd, s_nsub, Nat.zero_add, len_eq, List.nil_append, show std.toN 0 = 0 from rfl, Nat.sub_zero, List.drop_zero, List.length_append, List.length_take, List.length_drop, List.length_cons, List.length_nil, List.length_map, <- hcd, hset]
        repeat (rw [req_of]; rotate_left; focus (first | trivial | exact ⟨by omega, by omega⟩ | exact room_of (by omega) (by omega) | omega))
/- ApplyEdit: both sides -/
theorem insA_len {α : Type} (l : List α) (i : Nat) (x : α) : (insA l i x).length = l.length + 1 := by
  unfold insA
  simp only [List.length_append, List.length_take, List.length_drop, List.length_cons, List.length_nil]
  omega
theorem delA_len {α : Type} (l : List α) (i : Nat) : (delA l i).length <= l.length := by
  unfold delA
  simp only [List.length_append, List.length_take, List.length_drop]
  omega
theorem insA_mem {α : Type} {l : List α} {i : Nat} {x y : α} (h : y ∈ insA l i x) : y ∈ l \/ y = x := by
  unfold insA at h
  simp only [List.mem_append, List.mem_singleton] at h
  rcases h with (h | h) | h
  · exact .inl (List.mem_of_mem_take h)
  · exact .inr h
  · exact .inl (List.mem_of_mem_drop h)
theorem delA_mem {α : Type} {l : List α} {i : Nat} {y : α} (h : y ∈ delA l i) : y ∈ l := by
  unfold delA at h
  rw [List.mem_append] at h
  rcases h with h | h
  · exact List.mem_of_mem_take h
  · exact List.mem_of_mem_drop h
theorem small_shC {c : TC} (h : SmallC c) (f b : Int) : SmallC (shC f b c) :=
  ⟨h.name, h.shapes, h.labels, by show (c.fI.map _).length <= _; rw [List.length_map]; exact h.insts, h.lnames⟩
theorem small_edC {c : TC} {e : TE} (h : SmallC c) (g : SmallE e) (h1 : c.fS.length <= 1000) (h2 : c.fL.length <= 1000) (h3 : c.fI.length <= 1000) : SmallC (edC e c) := by
  have i1 := insA_len c.fS e.fx.toNat e.fs_
  have i2 := insA_len c.fL e.fx.toNat e.fl_
  have i3 := insA_len c.fI e.fx.toNat e.fi_
  have d1 := delA_len c.fS e.fx.toNat
  have d2 := delA_len c.fL e.fx.toNat
  have d3 := delA_len c.fI e.fx.toNat
  unfold edC
  split
  · exact ⟨h.name, by simp only; omega, h.labels, h.insts, h.lnames⟩
  split
  · exact ⟨h.name, by simp only; omega, h.labels, h.insts, h.lnames⟩
  split
  · refine ⟨h.name, h.shapes, by simp only; omega, h.insts, fun l hl => ?_⟩
    rcases insA_mem hl with hl | rfl
    · exact h.lnames l hl
    · exact g.lname
  split
  · exact ⟨h.name, h.shapes, by simp only; omega, h.insts, fun l hl => h.lnames l (delA_mem hl)⟩
  split
  · exact ⟨h.name, h.shapes, h.labels, by simp only; omega, h.lnames⟩
  split
  · exact ⟨h.name, h.shapes, h.labels, by simp only; omega, h.lnames⟩
  split
  · exact ⟨g.name, h.shapes, h.labels, h.insts, h.lnames⟩
  · exact h
theorem small_appE (a : TL) (e : TE) (h : SmallL a) (g : SmallE e) (hc : eCode a e = 0) : SmallL (appE a e) := by
  have hcl := h.cells
  obtain ⟨hv, he, hcell⟩ := eCode_zero hc
  have hl := okLib_len hv
  unfold appE
  split
  · refine ⟨by rw [insA_len, List.length_map]; omega, fun c hm => ?_⟩
    rcases insA_mem hm with hm | rfl
    · obtain ⟨c0, h0, rfl⟩ := List.mem_map.1 hm
      exact small_shC (h.cell _ h0) _ _
    · exact ⟨g.name, by simp, by simp, by simp, by simp⟩
  split
  · refine ⟨by rw [List.length_map]; have := delA_len a.fC e.fc.toNat; omega, fun c hm => ?_⟩
    obtain ⟨c0, h0, rfl⟩ := List.mem_map.1 hm
    exact small_shC (h.cell _ (delA_mem h0)) _ _
  · rename_i h8 h9
    obtain ⟨m, hm, hlt⟩ := hcell h8
    obtain ⟨b1, b2, b3⟩ := okLib_cell hv hlt
    have ht : e.fc.toNat = m := by omega
    rw [ht]
    refine ⟨by rw [List.length_set]; exact hcl, fun c hm => ?_⟩
    rcases List.mem_or_eq_of_mem_set hm with hm | rfl
    · exact h.cell c hm
    · exact small_edC (h.cell _ (gd_mem hlt)) g (by omega) (by omega) (by omega)
def apR (a : TL) (e : TE) : TL × Int := if eCode a e = 0 then (appE a e, 0) else (⟨[]⟩, eCode a e)
theorem apR_small (a : TL) (e : TE) (h : SmallL a) (g : SmallE e) : SmallL (apR a e).1 := by
  unfold apR
  split
  · rename_i hc; exact small_appE a e h g hc
  · exact ⟨by simp, fun c hc => by cases hc⟩
theorem impl_ApplyEdit_ok (a : TL) (e : TE) (h : SmallL a) (g : SmallE e) : Fq68 a e = some (apR a e) := by
  unfold Fq68 apR
  rw [impl_editCode_ok a e h g, obs]
  by_cases hc : eCode a e = 0
  · rw [if_pos hc, hc, notEq (eq_true' rfl), br_f, impl_edited_ok a e h g hc]
    rfl
  · rw [if_neg hc, eq_false' hc, s_not, Bool.not_false, br_t]
theorem spec_ApplyEdit_ok (a : TL) (e : TE) (h : SmallL a) (g : SmallE e) : Fq86 a e = some (apR a e) := by
  unfold Fq86 apR
  rw [spec_l13Code_ok a e h g, obs]
  by_cases hc : eCode a e = 0
  · rw [if_pos hc, hc, notEq (eq_true' rfl), br_f, spec_Copy_ok a h, obs, spec_l13Do_ok a e h g hc]
    rfl
  · rw [if_neg hc, eq_false' hc, s_not, Bool.not_false, br_t]
/- the law of ApplyEdit -/
theorem lawW_ApplyEdit (a : TL) (e : TE) (w : wfLibrary a) (we : wfEdit e) : Fq121 a e = some true := by
  unfold Fq121
  rw [show TE.mk e.fk e.fc e.fx e.fN e.fs_ e.fl_ e.fi_ = e from rfl]
  obtain ⟨y, hy, hs⟩ := laws_szLibrary_ok2 a (wfLb_of w)
  rw [hy, obs, br_bool, s_lt]
  by_cases h0 : y < 0
  · rw [if_pos (by simpa using h0)]
  · obtain ⟨hy2, h⟩ := hs (by omega)
    rw [if_neg (by simpa using h0)]
    obtain ⟨z, hz, hs2⟩ := laws_szEdit_ok e y we.2.2.2.1 we.2.2.2.2.2.1.2.2 ⟨by omega, by omega⟩
    rw [hz, obs, br_bool, s_lt]
    by_cases h1 : z < 0
    · rw [if_pos (by simpa using h1)]
    · obtain ⟨_, g⟩ := hs2 (by omega)
      rw [if_neg (by simpa using h1)]
      obtain ⟨r, hr⟩ : ∃ r, r = apR a e := ⟨_, rfl⟩
      have hbs : SmallL r.1 := by rw [hr]; exact apR_small a e h g
      have m1 := markLibrary_ok a 1 h (by omega)
      have m2 := markLibrary_ok r.1 1 hbs (by omega)
      have m3 := heldLibrary_ok r.1 1 hbs (by omega)
      have e1 : ((1 : Nat) : Int) = 1 := rfl
      rw [e1] at m1 m2 m3
      have hml : ((List.range r.1.fC.length).map (mC r.1.fC 1)).length = r.1.fC.length := by simp
      have hml1 : ((List.range a.fC.length).map (mC a.fC 1)).length = a.fC.length := by simp
      simp only [laws_toLibrary_ok a h, laws_toEdit_ok, obs, impl_ApplyEdit_ok a e h g, spec_ApplyEdit_ok a e h g, <- hr, laws_eqLibrary_ok a h, laws_eqLibrary_ok r.1 hbs, Bool.not_true, br_f, eq_true' rfl, s_not, letO_eq, m1, m2, m3]
      rw [req_of (by rw [len_eq, len_eq, hml1]), lt_false (by omega)]
      simp only [br_f, obs]
      rw [req_of (by rw [len_eq, len_eq, hml]), req_of (by rw [len_eq, len_eq, hml]), lt_false (by omega)]
      simp only [br_f, obs, Bool.not_true]
      rw [req_of (by rw [len_eq, len_eq, hml])]
end
end Go.Proofs.YtohgghncmkiicaaGreat.AM
