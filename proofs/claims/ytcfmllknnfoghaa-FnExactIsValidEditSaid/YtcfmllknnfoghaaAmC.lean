/-
  THE ABSTRACT MACHINE, THIRD PART: calls, codes, regions that draw their order. No condition.
-/
import Derived.Test.YtcfmllknnfoghaaAmB
namespace Go.Proofs.Ytcfmllknnfoghaa.AM
open Go Go.RowKit
set_option linter.unusedVariables false
set_option linter.unusedSimpArgs false
set_option maxRecDepth 100000

section
variable {P : Program} {T : TT} {w0 w w' : World} {I0 I I' : Nat → Prop} {L L' : Nat → Option (Nat × Nat)} {s : St} {a : Act} {o : Oper} {ob o' : Nat → AO}

/-- an operation that is no call -/
theorem op_any (hT : TOk P T) (hR : RelL w0 I0 L I s a w) (hok : (evalOp std T o s).ok) : OpDone P w0 I0 o a w ((evalOp std T o s).st o.dst s) := by
  cases ho : o.op with
  | move x => have := op_move (P := P) hR (x := x) (.inl ho); simpa [evalOp, ho, Res.give, Res.st, St.kill] using this
  | assign x => have := op_move (P := P) hR (x := x) (.inr ho); simpa [evalOp, ho, Res.give, Res.st, St.kill] using this
  | pick c x y => exact op_pick hR ho std hok
  | alloc e => exact op_alloc hT hR ho hok
  | box e x => exact op_box hR ho hok
  | build t ps => exact op_build hT hR ho hok
  | buildSlice t n ps => exact op_buildSlice hT hR ho hok
  | load t x => exact op_load hT hR ho hok
  | store t x y => exact op_store hT hR ho hok
  | nilCheck x => exact op_nilCheck hR ho hok
  | binOp op t x y t' => exact op_bin hT hR ho hok
  | unOp op t x => exact op_un hR ho hok
  | convert t t' x => exact op_convert hT hR ho hok
  | makeFunc fn f cs =>
    cases fn with
    | func g => exact op_makeFunc hR ho hok
    | _ => simp [evalOp, ho, Res.bad] at hok
  | slice t x lo hi mx => exact op_sliceS hT hR ho hok
  | fieldAddr t x f => exact op_fieldAddr hT hR ho hok
  | field t x f => exact op_field hT hR ho hok
  | indexAddr t x i => exact op_indexAddr hT hR ho hok
  | index t x i => exact op_index hT hR ho hok
  | extract x i => exact op_extract hR ho hok
  | call c => exact op_builtin hT hR ho (fun x y hc hxy h => op_append hT hR ho hc hxy h) hok
  | makeSlice t x y => exact op_make hT hR ho hok
  | _ => simp [evalOp, ho, Res.bad] at hok
theorem done_wp (h : OpDone P w0 I0 o a w s) {next : Act → World → Prop} {Q : Exit → Act → World → Prop} (hn : ∀ a' w', Rel w0 I0 s a' w' → next a' w') : o.wp P a w next Q := by
  obtain ⟨r, y, w', hrun, hr, hrel⟩ := h
  unfold Oper.wp
  rw [hrun]
  rcases hr with rfl | ⟨rfl, rfl⟩
  · exact hn _ _ hrel
  · exact hn _ _ hrel
/-- the blocks that may be read while objects ks are lent -/
def lentI (L : Nat → Option (Nat × Nat)) (I : Nat → Prop) (o : Nat → AO) (ks : Nat → Prop) (b : Nat) : Prop := I b ∨ ∃ k, ks k ∧ ∃ base m N sz get, o k = .arr m N sz get ∧ L k = some (b, base)
theorem lendC_rel {ks : Nat → Prop} (hH : HRel L I w ob) {x z : AC} {y : Value} (h : RelC L I w ob x y) (hz : lendC ob x = some z) (hk : ∀ k ∈ x.ref, ks k) : RelI (lentI L I ob ks) w z y := by
  have hmono : ∀ (x : AC) y, RelI I w x y → RelI (lentI L I ob ks) w x y := fun x y h => RelI.mono (fun b hb => ⟨.inl hb, rfl⟩) x y h
  cases x with
  | v x => simp only [lendC, Option.some.injEq] at hz; subst hz; exact h
  | bs n sz g => simp only [lendC, Option.some.injEq] at hz; subst hz; exact hmono _ _ h
  | bp n g => simp only [lendC, Option.some.injEq] at hz; subst hz; exact hmono _ _ h
  | fn f n g => simp only [lendC, Option.some.injEq] at hz; subst hz; exact hmono _ _ h
  | junk => cases hz
  | ptr => cases hz
  | ep => cases hz
  | os k off n =>
    obtain ⟨m, N, sz, get, ho, hh⟩ := h
    simp only [lendC, ho, Option.some.injEq] at hz
    subst hz
    rcases hh with ⟨_, _, rfl, _, rfl⟩ | ⟨b, base, cap, hL, rfl, h1, h2, _⟩
    · exact ⟨none, 0, rfl, by omega, fun h => absurd h (by omega)⟩
    · refine ⟨_, cap, rfl, h2, fun hn => ⟨b, base + off * sz, rfl, .inr ⟨k, hk k (by simp [AC.ref]), base, _, _, _, _, ho, hL⟩, fun i hi j hj => ?_⟩⟩
      rcases hH.arr k m N sz get ho with ⟨h3, _⟩ | ⟨b', base', C, e, h3, _, hC, _, hc⟩
      · rw [hL] at h3; cases h3
      · rw [hL] at h3; injection h3 with h3; injection h3 with h3 h3'; subst h3; subst h3'
        obtain ⟨u, hu, hr⟩ := hc (off + i) (by omega) j hj
        refine ⟨u, ?_, hmono _ _ hr⟩
        rw [cell_of hC, ← hu, Nat.add_mul, Nat.add_assoc, Nat.add_assoc]
theorem lendL_rel {ks : Nat → Prop} (hH : HRel L I w ob) : ∀ (l q : List AC), lendL ob l = some q → (∀ x ∈ l, ∀ k ∈ AC.ref x, ks k) → q.length = l.length ∧ ∀ (i : Nat) z, q[i]? = some z → ∃ x, l[i]? = some x ∧ ∀ y, RelC L I w ob x y → RelI (lentI L I ob ks) w z y
  | [], q, h, _ => by
    simp [lendL] at h
    subst h
    exact ⟨rfl, fun i z hz => by simp at hz⟩
  | x :: r, q, h, hk => by
    unfold lendL at h
    split at h
    · rename_i y q' hy hq
      injection h with h; subst h
      obtain ⟨h1, h2⟩ := lendL_rel hH r q' hq (fun x hx => hk x (by simp [hx]))
      refine ⟨by simp [h1], fun i z hz => ?_⟩
      cases i with
      | zero =>
        simp at hz
        subst hz
        exact ⟨x, rfl, fun y' hr => lendC_rel hH hr hy (hk x (by simp))⟩
      | succ i =>
        obtain ⟨x', hx', hh⟩ := h2 i z (by simpa using hz)
        exact ⟨x', by simpa using hx', hh⟩
    · cases h
theorem lend1_rel {ks : Nat → Prop} (hH : HRel L I w ob) {x z : AV} {y : Value} (h : RelV (RelC L I w ob) x y) (hz : lend1 ob x = some z) (hk : ∀ k ∈ x.refs, ks k) : RelV (RelI (lentI L I ob ks) w) z y := by
  cases x with
  | c x =>
    simp only [lend1] at hz
    split at hz
    · rename_i q hq
      injection hz with hz; subst hz
      exact lendC_rel hH h hq hk
    · cases hz
  | agg l =>
    simp only [lend1] at hz
    split at hz
    · rename_i q hq
      injection hz with hz; subst hz
      obtain ⟨ys, rfl, hs, hc⟩ := h
      obtain ⟨h1, h2⟩ := lendL_rel hH l q hq (fun x hx k hkx => hk k (by simp only [AV.refs, AV.refs1, List.mem_flatMap]; exact ⟨x, hx, hkx⟩))
      refine ⟨ys, rfl, by rw [hs, h1], fun i z hz => ?_⟩
      obtain ⟨x, hx, hh⟩ := h2 i z hz
      obtain ⟨u, hu, hr⟩ := hc i x hx
      exact ⟨u, hu, hh u hr⟩
    · cases hz
  | tup l => cases hz
  | any => cases hz
theorem lendAll_rel {ks : Nat → Prop} (hH : HRel L I w ob) : ∀ (l q : List AV) (vs : List Value), lendAll ob l = some q → (∀ x ∈ l, ∀ k ∈ AV.refs x, ks k) → vs.length = l.length → (∀ (i : Nat) x, l[i]? = some x → ∃ u, vs[i]? = some u ∧ RelV (RelC L I w ob) x u) →
    q.length = l.length ∧ ∀ (i : Nat) z, q[i]? = some z → ∃ u, vs[i]? = some u ∧ RelV (RelI (lentI L I ob ks) w) z u
  | [], q, vs, h, _, _, _ => by
    simp [lendAll] at h
    subst h
    exact ⟨rfl, fun i z hz => by simp at hz⟩
  | x :: r, q, vs, h, hk, hl, hc => by
    unfold lendAll at h
    split at h
    · rename_i y q' hy hq
      injection h with h; subst h
      cases vs with
      | nil => simp at hl
      | cons v vs =>
        obtain ⟨h1, h2⟩ := lendAll_rel hH r q' vs hq (fun x hx => hk x (by simp [hx])) (by simpa using hl) (fun i x hx => by have := hc (i + 1) x (by simpa using hx); simpa using this)
        refine ⟨by simp [h1], fun i z hz => ?_⟩
        cases i with
        | zero =>
          simp at hz
          subst hz
          obtain ⟨u, hu, hr⟩ := hc 0 x rfl
          exact ⟨u, hu, lend1_rel hH hr hy (hk x (by simp))⟩
        | succ i =>
          obtain ⟨u, hu, hh⟩ := h2 i z (by simpa using hz)
          exact ⟨u, by simpa using hu, hh⟩
    · cases h
theorem les_rel : ∀ (l q : List AV) (vs : List Value), AV.les l q → (∀ (i : Nat) x, l[i]? = some x → ∃ u, vs[i]? = some u ∧ RelV (RelI I w) x u) → q.length = l.length ∧ ∀ (i : Nat) x, q[i]? = some x → ∃ u, vs[i]? = some u ∧ RelV (RelI I w) x u
  | [], [], _, _, h => ⟨rfl, h⟩
  | [], _ :: _, _, h, _ => h.elim
  | _ :: _, [], _, h, _ => h.elim
  | x :: l, y :: q, [], h, hc => by
    obtain ⟨u, hu, _⟩ := hc 0 x rfl
    simp at hu
  | x :: l, y :: q, v :: vs, h, hc => by
    obtain ⟨h1, h2⟩ := les_rel l q vs h.2 (fun i x hx => by have := hc (i + 1) x (by simpa using hx); simpa using this)
    refine ⟨by simp [h1], fun i x' hx => ?_⟩
    cases i with
    | zero =>
      simp at hx
      subst hx
      obtain ⟨u, hu, hr⟩ := hc 0 x rfl
      exact ⟨u, hu, h.1 I w u hr⟩
    | succ i =>
      obtain ⟨u, hu, hh⟩ := h2 i x' (by simpa using hx)
      exact ⟨u, by simpa using hu, hh⟩
theorem flat1_rel {R R' : AC → Value → Prop} (hR : ∀ x y, R (.v x) y → R' (.v x) y) {x : AV} {y : Value} (hf : x.flat1 = true) (h : Rel1 R x y) : Rel1 R' x y := by
  cases x with
  | c x => cases x <;> first | exact hR _ _ h | (simp [AV.flat1, AC.flat] at hf)
  | agg l =>
    obtain ⟨ys, rfl, hs, hc⟩ := h
    refine ⟨ys, rfl, hs, fun i x hx => ?_⟩
    obtain ⟨u, hu, hr⟩ := hc i x hx
    refine ⟨u, hu, ?_⟩
    have := List.all_eq_true.1 hf x (List.mem_of_getElem? hx)
    cases x <;> first | exact hR _ _ hr | (simp [AC.flat] at this)
  | tup l => exact h.elim
  | any => exact h.elim
theorem flat_rel {R R' : AC → Value → Prop} (hR : ∀ x y, R (.v x) y → R' (.v x) y) {x : AV} {y : Value} (hf : x.flat = true) (h : RelV R x y) : RelV R' x y := by
  cases x with
  | c x => exact flat1_rel (x := .c x) hR hf h
  | agg l => exact flat1_rel (x := .agg l) hR hf h
  | tup l =>
    obtain ⟨ys, rfl, hs, hc⟩ := h
    refine ⟨ys, rfl, hs, fun i x hx => ?_⟩
    obtain ⟨u, hu, hr⟩ := hc i x hx
    exact ⟨u, hu, flat1_rel hR (List.all_eq_true.1 hf x (List.mem_of_getElem? hx)) hr⟩
  | any => trivial
theorem Rel1.imp {R R' : AC → Value → Prop} (hR : ∀ x y, R x y → R' x y) {x : AV} {y : Value} (h : Rel1 R x y) : Rel1 R' x y := by
  cases x with
  | c x => exact hR _ _ h
  | agg l =>
    obtain ⟨ys, rfl, hs, hc⟩ := h
    exact ⟨ys, rfl, hs, fun i x hx => by obtain ⟨u, hu, hr⟩ := hc i x hx; exact ⟨u, hu, hR _ _ hr⟩⟩
  | tup l => exact h.elim
  | any => exact h.elim
theorem RelV.imp {R R' : AC → Value → Prop} (hR : ∀ x y, R x y → R' x y) {x : AV} {y : Value} (h : RelV R x y) : RelV R' x y := by
  cases x with
  | c x => exact hR _ _ h
  | agg l => exact Rel1.imp (x := .agg l) hR h
  | tup l =>
    obtain ⟨ys, rfl, hs, hc⟩ := h
    exact ⟨ys, rfl, hs, fun i x hx => by obtain ⟨u, hu, hr⟩ := hc i x hx; exact ⟨u, hu, hr.imp hR⟩⟩
  | any => trivial
/-- the state behind a call -/
theorem RelL.called (h : RelL w0 I0 L I s a w) {args : List AV} {r : AV} {v : Value} (hbel : Below w.heap.size w w') (hold : ∀ b, lentI L I s.o (fun k => k ∈ args.flatMap AV.refs) b → I' b)
    (hnew : ∀ b, I' b → b < w'.heap.size ∧ (b < w.heap.size → lentI L I s.o (fun k => k ∈ args.flatMap AV.refs) b)) (hr : RelV (RelI I' w') r v) :
    ∃ I'', RelL w0 I0 L I'' (afterCall s args r) a w' ∧ RelV (RelC L I'' w' (afterCall s args r).o) r v := by
  have hsize := hbel.size
  have hbel0 : Below w0.heap.size w0 w' := h.below.trans (hbel.mono h.below.size)
  have hblk : ∀ b, b < w.heap.size → w'.heap[b]? = w.heap[b]? := hbel.block
  unfold afterCall
  by_cases hf : r.flat = true
  · rw [if_pos hf]
    have hK : Keeps [] L I w s.o L I w' s.o := ⟨fun b hb => ⟨hb, hblk b (h.heap.imm b hb)⟩, fun k _ hg => ⟨rfl, AO.like_refl _ hg⟩, fun k _ hg b x C e hL hC => ⟨C, by rw [hblk b (h.heap.lt hg hL).1]; exact hC, rfl⟩⟩
    have := h.step [] hK (fun _ => False) (fun k _ => .inr ⟨rfl, (AO.kill_nil _).symm, fun hg b x hL => ⟨hblk b (h.heap.lt hg hL).1, id⟩⟩) (fun k hk => hk.elim) h.heap.inj
      (fun b hb => Nat.lt_of_lt_of_le (h.heap.imm b hb) hsize) h.only hbel0 h.new
    refine ⟨I, by simpa [AV.kill_nil'] using this, flat_rel (R := RelI I' w') (R' := RelC L I w' s.o) (fun x y h => h) hf hr⟩
  · rw [if_neg hf]
    have hI : ∀ b, I b → I' b := fun b hb => hold b (.inl hb)
    have hso : (s.freeze (args.flatMap AV.refs)).o = fun k => if (args.flatMap AV.refs).contains k then (s.o k).freeze else s.o k := by
      unfold St.freeze
      split
      · rename_i hnil; funext k; rw [hnil]; simp
      · rfl
    have hst : (s.freeze (args.flatMap AV.refs)).t = s.t := by
      unfold St.freeze
      split <;> rfl
    have hgone : ∀ k, (s.freeze (args.flatMap AV.refs)).o k ≠ .gone → s.o k ≠ .gone := by
      intro k hk hg
      apply hk
      rw [hso]
      simp only [hg]
      split <;> rfl
    have hlike : ∀ k, s.o k ≠ .gone → (s.o k).like ((s.freeze (args.flatMap AV.refs)).o k) := by
      intro k hg
      rw [hso]
      simp only
      split
      · cases hk : s.o k <;> simp_all [AO.like, AO.freeze]
      · exact AO.like_refl _ hg
    have hK : Keeps [] L I w s.o L I' w' (s.freeze (args.flatMap AV.refs)).o := ⟨fun b hb => ⟨hI b hb, hblk b (h.heap.imm b hb)⟩, fun k _ hg => ⟨rfl, hlike k hg⟩, fun k _ hg b x C e hL hC => ⟨C, by rw [hblk b (h.heap.lt hg hL).1]; exact hC, rfl⟩⟩
    have hkeepI : ∀ k b x, s.o k ≠ .gone → L k = some (b, x) → ¬ ((args.flatMap AV.refs).contains k = true ∧ ∃ m N sz get, s.o k = .arr m N sz get) → ¬ I b → ¬ I' b := by
      intro k b x hg hL hc hnI hI'
      rcases (hnew b hI').2 (h.heap.lt hg hL).1 with h1 | ⟨k', hk', base, m, N, sz, get, hg', hL'⟩
      · exact hnI h1
      · have := h.heap.inj k k' b x base hg (by rw [hg']; simp) hL hL'
        subst this
        exact hc ⟨by simpa using hk', m, N, sz, get, hg'⟩
    have := h.step [] hK (fun k => (args.flatMap AV.refs).contains k = true ∧ ∃ m N sz get, s.o k = .arr m N sz get)
      (fun k hk => by
        refine .inr ⟨rfl, ?_, fun hg b x hL => ⟨hblk b (h.heap.lt hg hL).1, hkeepI k b x hg hL hk⟩⟩
        rw [hso, AO.kill_nil]
        simp only
        split
        · rename_i hc
          cases hsk : s.o k with
          | gone => rfl
          | var l => rfl
          | arr m N sz get => exact absurd ⟨hc, m, N, sz, get, hsk⟩ hk
        · rfl)
      (fun k hk => by
        obtain ⟨hk, m, N, sz, get, hsk⟩ := hk
        have hok := h.heap.ok k
        have hko : (s.freeze (args.flatMap AV.refs)).o k = (s.o k).freeze := by rw [hso]; simp only [hk, if_true]
        unfold ObjOk at hok ⊢
        rw [hko, hsk]
        rw [hsk] at hok
        simp only [AO.freeze]
        rcases hok with h1 | ⟨b, base, C, e, h1, h2, h3, h4, h5⟩
        · exact .inl h1
        · refine .inr ⟨b, base, C, e, h1, (fun h => by cases h), ?_, h4, fun i hi j hj => ?_⟩
          · rw [hblk b (Array.getElem?_eq_some_iff.1 h3).1]; exact h3
          · obtain ⟨u, hu, hr⟩ := h5 i hi j hj
            exact ⟨u, hu, hr.mono hK.imm⟩)
      (fun k k' b x x' hg hg' h1 h2 => h.heap.inj k k' b x x' (hgone k hg) (hgone k' hg') h1 h2) (fun b hb => (hnew b hb).1)
      (fun b hb hlt => by
        rcases (hnew b hb).2 (Nat.lt_of_lt_of_le hlt h.below.size) with h1 | ⟨k', hk', base, m, N, sz, get, hg', hL'⟩
        · exact h.only b h1 hlt
        · have := h.new k' b base (by rw [hg']; simp) hL'; omega) hbel0
      (fun k b x hg hL => h.new k b x (hgone k hg) hL)
    refine ⟨I', ?_, hr.imp fun x y h => h.toC⟩
    have e : (⟨s.t.map (AV.kill []), (s.freeze (args.flatMap AV.refs)).o⟩ : St) = s.freeze (args.flatMap AV.refs) := by
      rw [AV.kill_nil', List.map_id, ← hst]
    rw [e] at this
    exact this
end
section
variable {P : Program} {T : TT} {w0 w w' : World} {I0 I I' : Nat → Prop} {L L' : Nat → Option (Nat × Nat)} {s : St} {a : Act} {o : Oper} {ob o' : Nat → AO}

theorem call_sound (hR : Rel w0 I0 s a w) {f : FuncId} {args l l' : List AV} {r : AV} (hc : callOf o s = some (f, args)) (hl : lendAll s.o args = some l) (hle : AV.les l l') (hf : Fun P f l' r)
    {next : Act → World → Prop} {Q : Exit → Act → World → Prop} (hn : ∀ a' w', Rel w0 I0 (AM.put (afterCall s args r) o.dst r) a' w' → next a' w') : o.wp P a w next Q := by
  obtain ⟨L, I, hR⟩ := hR
  obtain ⟨⟨fn, hfn, hname, hbody⟩, hcall⟩ := hf
  unfold callOf at hc
  split at hc
  · rename_i c ho
    split at hc
    · rename_i x hx
      split at hc
      · rename_i f' n caps hev
        split at hc
        case isFalse => cases hc
        injection hc with hc
        injection hc with h1 h2
        subst h1
        have hx' := ev_rel hR.tmps x
        rw [hev] at hx'
        obtain ⟨cs, hcs, hsize, hcaps⟩ := hx'
        -- the arguments
        have hargs : ∀ (i : Nat) q, args[i]? = some q → ∃ u, ((c.args.map a.eval) ++ cs).toList[i]? = some u ∧ RelV (RelC L I w s.o) q u := by
          intro i q hq
          subst h2
          rw [List.getElem?_append] at hq
          rw [Array.toList_append, List.getElem?_append]
          simp only [List.length_map] at hq
          simp only [Array.toList_map, List.length_map]
          split at hq
          · rename_i hi
            rw [if_pos hi]
            exact args_rel hR.tmps c.args.toList i q hq
          · rename_i hi
            rw [if_neg hi]
            simp only [List.getElem?_map, Option.map_eq_some_iff] at hq
            obtain ⟨j, hj, rfl⟩ := hq
            have hjn : i - c.args.toList.length < n := by
              have := (List.getElem?_eq_some_iff.1 hj).1
              simpa using this
            rw [List.getElem?_range hjn] at hj
            injection hj with hj; subst hj
            obtain ⟨u, hu, hr⟩ := hcaps _ hjn
            exact ⟨u, by rw [Array.getElem?_toList]; exact hu, hr.toC⟩
        have hlen : ((c.args.map a.eval) ++ cs).toList.length = args.length := by
          subst h2
          simp [hsize]
        obtain ⟨g1, g2⟩ := lendAll_rel (ks := fun k => k ∈ args.flatMap AV.refs) hR.heap args l _ hl (fun x hx k hk => List.mem_flatMap.2 ⟨x, hx, hk⟩) hlen hargs
        obtain ⟨g3, g4⟩ := les_rel l l' _ hle g2
        have himm : ∀ b, lentI L I s.o (fun k => k ∈ args.flatMap AV.refs) b → b < w.heap.size := by
          rintro b (hb | ⟨k, _, base, m, N, sz, get, hk, hL⟩)
          · exact hR.heap.imm b hb
          · exact (hR.heap.lt (by rw [hk]; simp) hL).1
        have hcalls := hcall ((c.args.map a.eval) ++ cs) w _ himm ⟨by rw [g3, g1, ← hlen]; simp, fun i x hx => by
          obtain ⟨u, hu, hr⟩ := g4 i x hx
          exact ⟨u, by rw [← Array.getElem?_toList]; exact hu, hr⟩⟩
        have hrun : (execOp a.eval o).run P w = .ok (.enter f' ((c.args.map a.eval) ++ cs)) w := by
          simp only [execOp, ho, resolve, hx, Deferred.ofValue, hcs]
          simp only [Sem.run_bind, Sem.run_pure, Result.andThen_ok, invoke, callFunc, run_program, hfn, hname, hbody, Bool.false_eq_true, if_false]
          simp
        unfold Oper.wp
        rw [hrun]
        refine hcalls.mono fun e w'' he => ?_
        obtain ⟨v, I', rfl, k1, k2, k3, k4⟩ := he
        obtain ⟨I'', k5, k6⟩ := hR.called k4 k1 k2 k3
        exact hn _ _ ⟨L, I'', k5.put o.dst k6⟩
      · cases hc
    · cases hc
  · cases hc
theorem wpOne_sound (hT : TOk P T) (hR : Rel w0 I0 s a w) {K : St → Prop} (h : wpOne std P T o s K) {next : Act → World → Prop} {Q : Exit → Act → World → Prop} (hn : ∀ s' a' w', Rel w0 I0 s' a' w' → K s' → next a' w') : o.wp P a w next Q := by
  unfold wpOne at h
  split at h
  · rename_i f args hc
    split at h
    · rename_i l hl
      obtain ⟨l', r, h1, h2, h3⟩ := h
      exact call_sound hR hc hl h1 h2 fun a' w' hr => hn _ _ _ hr h3
    · exact h.elim
  · obtain ⟨L, I, hR⟩ := hR
    exact done_wp (op_any hT hR h.1) fun a' w' hr => hn _ _ _ hr h.2
theorem dead_sound (hR : Rel w0 I0 s a w) {ops : Array Oper} {j : Nat} (h : deadG ops.toList s j = true) : yielded ops a.tmps j = none := by
  unfold deadG at h
  split at h
  · rename_i o ho
    split at h
    · rename_i d hd
      split at h
      · rename_i hq
        obtain ⟨L, I, hR⟩ := hR
        rw [List.getD_eq_getElem?_getD] at hq
        cases hx : s.t[d]? with
        | none =>
          rw [Array.getElem?_toList] at ho
          have : a.tmps[d]? = none := by rw [List.getElem?_eq_none_iff] at hx; rw [Array.getElem?_eq_none_iff, hR.tmps.1]; exact hx
          simp [yielded, ho, hd, this]
        | some u =>
          rw [hx] at hq
          simp at hq
          subst hq
          obtain ⟨v, hv, ys, rfl, _, _⟩ := hR.tmps.2 d _ hx
          rw [Array.getElem?_toList] at ho
          simp [yielded, ho, hd, hv]
      · cases h
    · cases h
  · cases h
theorem yld_sound (hR : Rel w0 I0 s a w) {ops : Array Oper} {j d : Nat} {b : Bool} (h : yld ops.toList s j = some (d, b)) : yielded ops a.tmps j = some b ∧ Rel w0 I0 (setTB s d b) a w := by
  unfold yld at h
  split at h
  · rename_i o ho
    split at h
    · rename_i d' hd
      split at h
      · rename_i b' hb
        injection h with h; injection h with h1 h2; subst h1; subst h2
        obtain ⟨L, I, hR⟩ := hR
        have hev := ev_rel hR.tmps (.tmp d')
        simp only [ev] at hev
        have hv : a.eval (.tmp d') = .bool b' := by
          unfold boolOf at hb
          split at hb
          · rename_i q hq
            injection hb with hb; subst hb
            rw [hq] at hev
            exact hev.1
          · cases hb
        simp only [Act.eval] at hv
        have hlt : a.tmps[d']? = some (.bool b') := by
          rw [Array.getD_eq_getD_getElem?] at hv
          cases hq : a.tmps[d']? with
          | none => rw [hq] at hv; cases hv
          | some u => rw [hq] at hv; simp at hv; rw [hv]
        refine ⟨?_, L, I, ⟨hR.heap, ?_, hR.defers, hR.below, hR.old, hR.only, hR.new⟩⟩
        · rw [Array.getElem?_toList] at ho
          simp [yielded, ho, hd, hlt]
        · have := hR.tmps.set d' (x := .c (.v (.bool b'))) (y := .bool b') ⟨rfl, rfl⟩
          have e : a.tmps.setIfInBounds d' (.bool b') = a.tmps := by
            apply Array.ext_getElem?
            intro i
            rw [Array.getElem?_setIfInBounds]
            split
            · rename_i hi; subst hi; rw [hlt]; simp [(Array.getElem?_eq_some_iff.1 hlt).1]
            · rfl
          rw [e] at this
          exact this
      · cases h
    · cases h
  · cases h
theorem ops_sound (hT : TOk P T) {ops : Array Oper} {Q : Exit → Act → World → Prop} {K : St → Prop} (hQ : ∀ s' a' w', Rel w0 I0 s' a' w' → K s' → Q .normal a' w') :
    ∀ (l : List Oper) (k : Nat) (s : St) (a : Act) (w : World), (∀ j, l[j]? = ops[k + j]?) → Rel w0 I0 s a w → wpOps std P T ops.toList l s K → Go.wpOps P ops Q (List.range' k l.length) a w
  | [], k, s, a, w, hl, hR, h => hQ _ _ _ hR h
  | o :: r, k, s, a, w, hl, hR, h => by
    have ho : ops[k]? = some o := by have := hl 0; simpa using this.symm
    have hr : ∀ j, r[j]? = ops[k + 1 + j]? := fun j => by
      have := hl (j + 1)
      rw [List.getElem?_cons_succ] at this
      rw [this]; congr 1; omega
    simp only [List.length_cons, List.range'_succ, Go.wpOps, ho]
    unfold wpOps at h
    split at h
    · rename_i hg
      have hw : Region.wanted o (yielded ops a.tmps) = true := by simp [Region.wanted, hg]
      rw [if_pos hw]
      exact .inl (wpOne_sound hT hR h fun s' a' w' hR' hK => ops_sound hT hQ r (k + 1) s' a' w' hr hR' hK)
    · rename_i j want hg
      split at h
      · rename_i hdead
        have hyl := dead_sound hR hdead
        have hwe : Region.wanted o (yielded ops a.tmps) = false := by simp [Region.wanted, hg, hyl]
        rw [if_neg (by rw [hwe]; simp)]
        obtain ⟨L, I, hR'⟩ := hR
        exact ops_sound hT hQ r (k + 1) _ _ w hr ⟨L, I, hR'.put o.dst (x := .tup []) (y := undef) ⟨#[], rfl, rfl, fun i x hx => by simp at hx⟩⟩ h
      split at h
      · rename_i d b hy
        obtain ⟨hyl, hR'⟩ := yld_sound hR hy
        have hwe : Region.wanted o (yielded ops a.tmps) = (b == want) := by simp [Region.wanted, hg, hyl]
        by_cases hbw : b = want
        · subst hbw
          rw [if_pos (by rw [hwe]; simp)]
          exact .inl (wpOne_sound hT hR' (h.1 rfl) fun s' a' w' hR' hK => ops_sound hT hQ r (k + 1) s' a' w' hr hR' hK)
        · rw [if_neg (by rw [hwe]; simpa using hbw)]
          have hb : b = !want := by cases b <;> cases want <;> simp_all
          have h2 := h.2 hb
          rw [← hb] at h2
          obtain ⟨L, I, hR'⟩ := hR'
          exact ops_sound hT hQ r (k + 1) _ _ w hr ⟨L, I, hR'.put o.dst (x := .tup []) (y := undef) ⟨#[], rfl, rfl, fun i x hx => by simp at hx⟩⟩ h2
      · exact h.elim
theorem setB_rel (hR : Rel w0 I0 s a w) {c : Operand} {b : Bool} (hb : boolOf (ev s c) = some b) : a.eval c = .bool b ∧ Rel w0 I0 (setB s c b) a w := by
  obtain ⟨L, I, hR⟩ := hR
  have hev := ev_rel hR.tmps c
  have hv : a.eval c = .bool b := by
    unfold boolOf at hb
    split at hb
    · rename_i q hq
      injection hb with hb; subst hb
      rw [hq] at hev
      exact hev.1
    · cases hb
  refine ⟨hv, L, I, ?_⟩
  unfold setB
  split
  · rename_i t ht
    cases c with
    | tmp t' =>
      simp only [tmpOf, Option.some.injEq] at ht
      subst ht
      simp only [Act.eval] at hv
      have hlt : a.tmps[t']? = some (.bool b) := by
        rw [Array.getD_eq_getD_getElem?] at hv
        cases hq : a.tmps[t']? with
        | none => rw [hq] at hv; cases hv
        | some u => rw [hq] at hv; simp at hv; rw [hv]
      refine ⟨hR.heap, ?_, hR.defers, hR.below, hR.old, hR.only, hR.new⟩
      have := hR.tmps.set t' (x := .c (.v (.bool b))) (y := .bool b) ⟨rfl, rfl⟩
      have e : a.tmps.setIfInBounds t' (.bool b) = a.tmps := by
        apply Array.ext_getElem?
        intro i
        rw [Array.getElem?_setIfInBounds]
        split
        · rename_i hi; subst hi; rw [hlt]; simp [(Array.getElem?_eq_some_iff.1 hlt).1]
        · rfl
      rw [e] at this
      exact this
    | _ => cases ht
  · exact hR
end
/-- what an operation does to a state -/
structure Eff where
  val : AV
  kills : List Nat
  upds : List (Nat × AO)
def updL : List (Nat × AO) → (Nat → AO) → (Nat → AO)
  | [], o => o
  | (k, x) :: r, o => updL r (updO o k x)
def Eff.app (e : Eff) (d : Option Nat) (s : St) : St := AM.put ⟨(s.kill e.kills).t, updL e.upds (s.kill e.kills).o⟩ d e.val
def Res.eff (r : Res) : Eff := ⟨r.val, r.kills, r.upd.toList⟩
theorem killO_nil (o : Nat → AO) : killO [] o = o := by
  funext k; simp [killO, AO.kill_nil]
theorem kill_t (s : St) (ks : List Nat) : s.kill ks = ⟨s.t.map (AV.kill ks), killO ks s.o⟩ := by
  cases ks with
  | nil => simp [St.kill, AV.kill_nil', killO_nil]
  | cons k r => rfl
theorem Eff.app_eq (e : Eff) (d : Option Nat) (s : St) : e.app d s = AM.put ⟨s.t.map (AV.kill e.kills), updL e.upds (killO e.kills s.o)⟩ d e.val := by
  unfold Eff.app; rw [kill_t]
theorem Res.st_eff (r : Res) (d : Option Nat) (s : St) : r.st d s = r.eff.app d s := by
  rw [Eff.app_eq]; unfold Res.st Res.eff
  rw [kill_t]
  cases r.upd with
  | none => rfl
  | some x => rfl

section
variable {A : Prims} {T : TT} {s s' : St}
theorem allParts_frame : ∀ (ps : List (Nat × Operand)), (∀ x ∈ ps.map (·.2), ev s' x = ev s x) → allParts s' ps = allParts s ps
  | [], _ => rfl
  | (i, x) :: r, h => by
    unfold allParts
    rw [h x (by simp), allParts_frame r (fun y hy => h y (by simp at hy ⊢; exact .inr hy))]
theorem capsOf_frame : ∀ (ps : List Operand), (∀ x ∈ ps, ev s' x = ev s x) → capsOf s' ps = capsOf s ps
  | [], _ => rfl
  | x :: r, h => by
    unfold capsOf
    rw [h x (by simp), capsOf_frame r (fun y hy => h y (by simp [hy]))]
theorem srcOf_frame {sz : Nat} {o o' : Nat → AO} {y : AV} (h : ∀ k ∈ y.refs, o' k = o k) : srcOf A sz o' y = srcOf A sz o y := by
  unfold srcOf
  split <;> try rfl
  rename_i k off n
  rw [h k (by simp [AV.refs, AV.refs1, AC.ref])]
theorem appA_frame {ats : Array TypeId} {dst : Option Nat} {x y : AV} {o o' : Nat → AO} (hx : ∀ k ∈ x.refs, o' k = o k) (hy : ∀ k ∈ y.refs, o' k = o k) : appA A T ats dst x y o' = appA A T ats dst x y o := by
  unfold appA
  split; · rfl
  split; · rfl
  split; · rfl
  rw [srcOf_frame hy]
  split; · rfl
  split
  · rename_i k off n0
    rw [hx k (by simp [AV.refs, AV.refs1, AC.ref])]
  · rfl
  · rfl
theorem evalOp_frame (o : Oper) (h1 : ∀ x ∈ o.op.operands.toList, ev s' x = ev s x) (h2 : ∀ x ∈ o.op.operands.toList, ∀ k ∈ (ev s x).refs, s'.o k = s.o k) : evalOp A T o s' = evalOp A T o s := by
  unfold evalOp
  cases ho : o.op with
  | move x => rw [ho] at h1; simp only; rw [h1 x (by simp [Op.operands])]
  | assign x => rw [ho] at h1; simp only; rw [h1 x (by simp [Op.operands])]
  | pick c x y => rw [ho] at h1; simp only; rw [h1 c (by simp [Op.operands]), h1 x (by simp [Op.operands]), h1 y (by simp [Op.operands])]
  | alloc e => rfl
  | box e x => rw [ho] at h1; simp only; rw [h1 x (by simp [Op.operands])]
  | build t ps => rw [ho] at h1; simp only; rw [allParts_frame ps.toList (fun x hx => h1 x (by simpa [Op.operands] using hx))]
  | buildSlice t n ps => rw [ho] at h1; simp only; rw [allParts_frame ps.toList (fun x hx => h1 x (by simpa [Op.operands] using hx))]
  | load t x =>
    rw [ho] at h1 h2
    have hx := h1 x (by simp [Op.operands])
    have hk := h2 x (by simp [Op.operands])
    simp only; rw [hx]
    revert hk
    cases ev s x with
    | c q => cases q <;> intro hk <;> first | rfl | (simp only [AV.refs, AV.refs1, AC.ref, List.mem_singleton, forall_eq] at hk; simp only [hk])
    | agg l => intro _; rfl
    | tup l => intro _; rfl
    | any => intro _; rfl
  | store t x y =>
    rw [ho] at h1 h2
    have hx := h1 x (by simp [Op.operands])
    have hy := h1 y (by simp [Op.operands])
    have hk := h2 x (by simp [Op.operands])
    simp only; rw [hx, hy]
    revert hk
    cases ev s x with
    | c q => cases q <;> intro hk <;> first | rfl | (simp only [AV.refs, AV.refs1, AC.ref, List.mem_singleton, forall_eq] at hk; simp only [hk])
    | agg l => intro _; rfl
    | tup l => intro _; rfl
    | any => intro _; rfl
  | nilCheck x => rw [ho] at h1; simp only; rw [h1 x (by simp [Op.operands])]
  | binOp op t x y t' => rw [ho] at h1; simp only; rw [h1 x (by simp [Op.operands]), h1 y (by simp [Op.operands])]
  | unOp op t x => rw [ho] at h1; simp only; rw [h1 x (by simp [Op.operands])]
  | convert t t' x => rw [ho] at h1; simp only [convA]; rw [h1 x (by simp [Op.operands])]
  | makeFunc fn f cs =>
    cases fn with
    | func g => rw [ho] at h1; simp only; rw [capsOf_frame cs.toList (fun x hx => h1 x (by simp [Op.operands, hx]))]
    | _ => rfl
  | slice t x lo hi mx =>
    rw [ho] at h1 h2
    have hm : ∀ (p : Option Operand), (∀ y, p = some y → y ∈ (Op.slice t x lo hi mx).operands.toList) → p.map (ev s') = p.map (ev s) := by
      intro p hp
      cases p with
      | none => rfl
      | some y => simp only [Option.map_some]; rw [h1 y (hp y rfl)]
    have hk := h2 x (by simp [Op.operands])
    simp only
    rw [h1 x (by simp [Op.operands]), hm lo (fun y hy => by subst hy; simp [Op.operands]), hm hi (fun y hy => by subst hy; simp [Op.operands])]
    cases T t with
    | none => rfl
    | some d =>
      simp only
      split <;> try rfl
      rename_i k _ _ _ hex
      rw [hk k (by rw [hex]; simp [AV.refs, AV.refs1, AC.ref])]
  | makeSlice t x y => rw [ho] at h1; simp only; rw [h1 x (by simp [Op.operands]), h1 y (by simp [Op.operands])]
  | fieldAddr t x f => rw [ho] at h1; simp only; rw [h1 x (by simp [Op.operands])]
  | field t x f => rw [ho] at h1; simp only; rw [h1 x (by simp [Op.operands])]
  | indexAddr t x i =>
    rw [ho] at h1 h2
    have hx := h1 x (by simp [Op.operands])
    have hy := h1 i (by simp [Op.operands])
    have hk := h2 x (by simp [Op.operands])
    simp only; rw [hx, hy]
    revert hk
    cases ev s x with
    | c q => cases q <;> intro hk <;> first | rfl | (simp only [AV.refs, AV.refs1, AC.ref, List.mem_singleton, forall_eq] at hk; simp only [hk])
    | agg l => intro _; rfl
    | tup l => intro _; rfl
    | any => intro _; rfl
  | index t x i => rw [ho] at h1; simp only; rw [h1 x (by simp [Op.operands]), h1 i (by simp [Op.operands])]
  | extract x i => rw [ho] at h1; simp only; rw [h1 x (by simp [Op.operands])]
  | call c =>
    rw [ho] at h1 h2
    simp only
    have hks : ∀ v ∈ c.args.toList.map (ev s), ∀ k ∈ v.refs, s'.o k = s.o k := by
      intro v hv k hk
      obtain ⟨x, hx, rfl⟩ := List.mem_map.1 hv
      exact h2 x (by simp [Op.operands, Call.operands, hx]) k hk
    have : c.args.toList.map (ev s') = c.args.toList.map (ev s) := by
      apply List.map_congr_left
      intro x hx
      exact h1 x (by simp [Op.operands, Call.operands, hx])
    rw [this]
    revert hks
    generalize c.args.toList.map (ev s) = vs
    intro hks
    split <;> try rfl
    rename_i x y _
    exact appA_frame (hks x (by simp)) (hks y (by simp))
  | _ => rfl
end
structure Lg where
  refs : List Nat
  writes : List Nat
  whole : Bool
def deepO : AO → List Nat
  | .var l => l.flatMap AC.ref
  | _ => []
def wholeO : AO → Bool
  | .var l => l.all AC.whole
  | _ => true
def wholeV1 : AV → Bool
  | .c x => x.whole
  | .agg l => l.all AC.whole
  | .tup _ => true
  | .any => false
def wholeV : AV → Bool
  | .tup l => l.all wholeV1
  | x => wholeV1 x
def xRefs (xs : List Operand) (s : St) : List Nat := xs.flatMap fun x => (ev s x).refs
def opRefs (o : Oper) (s : St) : List Nat := xRefs o.op.operands.toList s
def lgX (xs : List Operand) (s : St) (e : Eff) : Lg where
  refs := xRefs xs s ++ ((xRefs xs s).flatMap fun k => deepO (s.o k)) ++ e.val.refs ++ e.upds.flatMap fun p => deepO p.2
  writes := e.kills ++ e.upds.map (·.1)
  whole := (xs.all fun x => wholeV (ev s x)) && (xRefs xs s).all fun k => wholeO (s.o k)
def lgOf (o : Oper) (s : St) (e : Eff) : Lg := lgX o.op.operands.toList s e
def guardOps (all : List Oper) (o : Oper) : List Operand := match o.guard with
  | some (g, _) => match all[g]? with
    | some p => match p.dst with | some d => [.tmp d] | none => []
    | none => []
  | none => []
def xsOf (all : List Oper) (o : Oper) (skip : Bool) : List Operand := guardOps all o ++ if skip then [] else o.op.operands.toList
def e0 : Eff := ⟨.tup [], [], []⟩
def lg0 : Lg := ⟨[], [], true⟩
def freezeL (o : Nat → AO) : List Nat → List (Nat × AO)
  | [] => []
  | k :: r => (k, (o k).freeze) :: freezeL o r
def callEff (s : St) (args : List AV) (r : AV) : Eff := ⟨r, [], if r.flat then [] else freezeL s.o (args.flatMap AV.refs)⟩
section
variable (A : Prims) (P : Program) (T : TT)
def Gives (o : Oper) (s : St) (e : Eff) : Prop :=
  match callOf o s with
  | some (f, args) => match lendAll s.o args with
    | some l => ∃ l' r, AV.les l l' ∧ Fun P f l' r ∧ e = callEff s args r
    | none => False
  | none => (evalOp A T o s).ok ∧ e = (evalOp A T o s).eff
def wpOneD (all : List Oper) (o : Oper) (s : St) (K : St → Lg → Prop) : Prop :=
  match callOf o s with
  | some (f, args) => match lendAll s.o args with
    | some l => ∃ l' r, AV.les l l' ∧ Fun P f l' r ∧ K ((callEff s args r).app o.dst s) (lgX (xsOf all o false) s (callEff s args r))
    | none => False
  | none => (evalOp A T o s).ok ∧ K ((evalOp A T o s).eff.app o.dst s) (lgX (xsOf all o false) s (evalOp A T o s).eff)
def wpD (all : List Oper) : List Oper → St → List Lg → (List Lg → St → Prop) → Prop
  | [], s, ls, K => K ls s
  | o :: r, s, ls, K => match o.guard with
    | none => wpOneD A P T all o s fun s' lg => wpD all r s' (ls ++ [lg]) K
    | some (j, want) => match deadG all s j with
      | true => wpD all r (e0.app o.dst s) (ls ++ [lgX (xsOf all o true) s e0]) K
      | false => match yld all s j with
        | some (d, b) => (b = want → wpOneD A P T all o (setTB s d want) fun s' lg => wpD all r s' (ls ++ [lg]) K) ∧
            (b = !want → wpD all r (e0.app o.dst (setTB s d (!want))) (ls ++ [lgX (xsOf all o true) (setTB s d (!want)) e0]) K)
        | none => False
end
def disj (a b : List Nat) : Bool := a.all fun x => !b.contains x
def indep (a b : Lg) : Bool := disj a.writes (b.refs ++ b.writes) && disj b.writes a.refs
def maskOf (acc : List Nat) (o : Oper) : Nat := o.after.toList.foldl (fun m e => if Region.binds .any e then m ||| (1 <<< e.on) ||| acc.getD e.on 0 else m) 0
def masksL : List Oper → List Nat → List Nat
  | [], acc => acc
  | o :: r, acc => masksL r (acc ++ [maskOf acc o])
def pairOk (all : List Oper) (ms : List Nat) (ls : List Lg) (j i : Nat) : Bool :=
  (ms.getD i 0).testBit j || (indep (ls.getD j lg0) (ls.getD i lg0) && match all[j]?, all[i]? with | some a, some b => a.apart all.toArray b | _, _ => false)
def chk (all : List Oper) (ls : List Lg) : Bool :=
  (all.zipIdx.all fun p => p.1.after.toList.all fun e => !Region.binds .any e || decide (e.on < p.2)) &&
  (all.all fun o => match o.op with | .select _ _ => false | _ => true) &&
  (ls.all fun l => l.whole) &&
  (List.range all.length).all fun i => (List.range i).all fun j => pairOk all (masksL all []) ls j i

section
variable {A : Prims} {P : Program} {T : TT} {s s' s1 s2 : St}
theorem updL_freeze (o : Nat → AO) : ∀ (ks : List Nat) (o1 : Nat → AO), (∀ k, k ∉ ks → True) → updL (freezeL o ks) o1 = fun k => if ks.contains k then (o k).freeze else o1 k
  | [], o1, _ => by funext k; simp [freezeL, updL]
  | k' :: r, o1, _ => by
    rw [freezeL, updL, updL_freeze o r _ (fun _ _ => trivial)]
    funext k
    cases h1 : r.contains k with
    | true =>
      have : (k' :: r).contains k = true := by simp at h1 ⊢; exact .inr h1
      simp only [this, if_true]
    | false =>
      simp only [Bool.false_eq_true, if_false, updO]
      by_cases h2 : k = k'
      · subst h2
        have : (k :: r).contains k = true := by simp
        simp only [this, if_true]
      · have : (k' :: r).contains k = false := by simp at h1 ⊢; exact ⟨h2, h1⟩
        simp only [this, if_neg h2, Bool.false_eq_true, if_false]
theorem callEff_app (s : St) (args : List AV) (r : AV) (d : Option Nat) : (callEff s args r).app d s = put (afterCall s args r) d r := by
  rw [Eff.app_eq]; unfold callEff afterCall
  simp only [AV.kill_nil', List.map_id, killO_nil]
  cases hf : r.flat with
  | true => simp only [if_true, updL]
  | false =>
    simp only [Bool.false_eq_true, if_false]
    rw [updL_freeze s.o _ _ (fun _ _ => trivial)]
    congr 1
    unfold St.freeze
    split
    · rename_i h; rw [h]; simp
    · rfl
theorem gives_of_oneD {all : List Oper} {o : Oper} {K : St → Lg → Prop} (h : wpOneD A P T all o s K) : ∃ e, Gives A P T o s e ∧ K (e.app o.dst s) (lgX (xsOf all o false) s e) := by
  unfold wpOneD at h
  unfold Gives
  split at h
  · rename_i f args hc
    split at h
    · rename_i l hl
      obtain ⟨l', r, h1, h2, h3⟩ := h
      exact ⟨_, ⟨l', r, h1, h2, rfl⟩, h3⟩
    · exact h.elim
  · rename_i hc
    exact ⟨_, ⟨h.1, rfl⟩, h.2⟩
theorem one_of_gives {o : Oper} {e : Eff} {K : St → Prop} (h : Gives A P T o s e) (hK : K (e.app o.dst s)) : wpOne A P T o s K := by
  unfold Gives at h
  unfold wpOne
  split at h
  · rename_i f args hc
    split at h
    · rename_i l hl
      obtain ⟨l', r, h1, h2, rfl⟩ := h
      simp only [hc, hl]
      rw [callEff_app] at hK
      exact ⟨l', r, h1, h2, hK⟩
    · exact h.elim
  · rename_i hc
    obtain ⟨h1, rfl⟩ := h
    simp only [hc]
    rw [← Res.st_eff] at hK
    exact ⟨h1, hK⟩
theorem lendC_frame {o o' : Nat → AO} (x : AC) (h : ∀ k ∈ x.ref, o' k = o k) : lendC o' x = lendC o x := by
  cases x <;> first | rfl | (simp only [AC.ref, List.mem_singleton, forall_eq] at h; simp only [lendC, h])
theorem lendL_frame {o o' : Nat → AO} : ∀ (l : List AC), (∀ k ∈ l.flatMap AC.ref, o' k = o k) → lendL o' l = lendL o l
  | [], _ => rfl
  | x :: r, h => by
    unfold lendL
    rw [lendC_frame x (fun k hk => h k (by simp [hk])), lendL_frame r (fun k hk => h k (by simp at hk ⊢; exact .inr hk))]
theorem lend1_frame {o o' : Nat → AO} (x : AV) (h : ∀ k ∈ x.refs, o' k = o k) : lend1 o' x = lend1 o x := by
  cases x with
  | c x => simp only [lend1]; rw [lendC_frame x h]
  | agg l => simp only [lend1]; rw [lendL_frame l h]
  | tup l => rfl
  | any => rfl
theorem lendAll_frame {o o' : Nat → AO} : ∀ (l : List AV), (∀ k ∈ l.flatMap AV.refs, o' k = o k) → lendAll o' l = lendAll o l
  | [], _ => rfl
  | x :: r, h => by
    unfold lendAll
    rw [lend1_frame x (fun k hk => h k (by simp [hk])), lendAll_frame r (fun k hk => h k (by simp at hk ⊢; exact .inr hk))]
theorem freezeL_frame {o o' : Nat → AO} : ∀ (l : List Nat), (∀ k ∈ l, o' k = o k) → freezeL o' l = freezeL o l
  | [], _ => rfl
  | k :: r, h => by rw [freezeL, freezeL, h k (by simp), freezeL_frame r (fun j hj => h j (by simp [hj]))]
theorem imm_ref {x : AC} (h : x.imm = true) : x.ref = [] := by cases x <;> simp_all [AC.imm, AC.ref]
/-- what a call's arguments refer to is what the operands refer to -/
theorem callOf_refs {o : Oper} {f : FuncId} {args : List AV} (h : callOf o s = some (f, args)) : ∀ k ∈ args.flatMap AV.refs, k ∈ opRefs o s := by
  intro k hk
  unfold callOf at h
  split at h
  · rename_i c ho
    split at h
    · rename_i x hx
      split at h
      · rename_i f' n caps hev
        split at h
        · rename_i himm
          injection h with h; injection h with h1 h2
          subst h2
          simp only [List.flatMap_append, List.mem_append] at hk
          rcases hk with hk | hk
          · simp only [List.mem_flatMap, List.mem_map] at hk
            obtain ⟨v, ⟨y, hy, rfl⟩, hk⟩ := hk
            simp only [opRefs, xRefs, ho, Op.operands, Call.operands, hx, List.mem_flatMap]
            exact ⟨y, by simp [hy], hk⟩
          · simp only [List.mem_flatMap, List.mem_map] at hk
            obtain ⟨v, ⟨j, hj, rfl⟩, hk⟩ := hk
            have := List.all_eq_true.1 himm j hj
            simp only [AV.refs, AV.refs1, imm_ref this] at hk
            cases hk
        · cases h
      · cases h
    · cases h
  · cases h
theorem callOf_frame {o : Oper} (h1 : ∀ x ∈ o.op.operands.toList, ev s' x = ev s x) : callOf o s' = callOf o s := by
  unfold callOf
  split
  · rename_i c ho
    rw [ho] at h1
    split
    · rename_i x hx
      rw [h1 x (by simp [Op.operands, Call.operands, hx])]
      have : c.args.toList.map (ev s') = c.args.toList.map (ev s) := by
        apply List.map_congr_left
        intro y hy
        exact h1 y (by simp [Op.operands, Call.operands, hy])
      rw [this]
    · rfl
  · rfl
theorem gives_frame {o : Oper} {e : Eff} (h : Gives A P T o s e) (h1 : ∀ x ∈ o.op.operands.toList, ev s' x = ev s x) (h2 : ∀ k ∈ opRefs o s, s'.o k = s.o k) : Gives A P T o s' e := by
  unfold Gives at h ⊢
  rw [callOf_frame h1]
  split at h
  · rename_i f args hc
    have hr := callOf_refs hc
    rw [lendAll_frame args (fun k hk => h2 k (hr k hk))]
    split at h
    · rename_i l hl
      obtain ⟨l', r, g1, g2, rfl⟩ := h
      refine ⟨l', r, g1, g2, ?_⟩
      unfold callEff
      rw [freezeL_frame _ (fun k hk => h2 k (hr k hk))]
    · exact h.elim
  · rename_i hc
    rw [evalOp_frame o h1 (fun x hx k hk => h2 k (List.mem_flatMap.2 ⟨x, hx, hk⟩))]
    exact h
end
section
variable {A : Prims} {P : Program} {T : TT} {s s' s1 s2 : St}
theorem disj_spec {a b : List Nat} (h : disj a b = true) : ∀ k ∈ a, k ∉ b := by
  intro k hk hb
  have := List.all_eq_true.1 h k hk
  simp at this
  exact this hb
theorem map_same {α : Type} {f : α → α} {l : List α} (h : ∀ x ∈ l, f x = x) : l.map f = l := by
  induction l with
  | nil => rfl
  | cons x r ih => rw [List.map_cons, h x (by simp), ih (fun y hy => h y (by simp [hy]))]
theorem AC.kill_id {x : AC} {ks : List Nat} (h : ∀ k ∈ x.ref, k ∉ ks) : x.kill ks = x := by
  cases x <;> simp_all [AC.ref, AC.kill]
theorem mapC_kill_id {l : List AC} {ks : List Nat} (h : ∀ k ∈ l.flatMap AC.ref, k ∉ ks) : l.map (AC.kill ks) = l := by
  exact map_same (fun x hx => AC.kill_id (fun k hk => h k (List.mem_flatMap.2 ⟨x, hx, hk⟩)))
theorem AV.kill1_id {x : AV} {ks : List Nat} (h : ∀ k ∈ x.refs1, k ∉ ks) : x.kill1 ks = x := by
  cases x with
  | c x => simp only [AV.kill1]; rw [AC.kill_id h]
  | agg l => simp only [AV.kill1]; rw [mapC_kill_id h]
  | tup l => rfl
  | any => rfl
theorem AV.kill_id {x : AV} {ks : List Nat} (h : ∀ k ∈ x.refs, k ∉ ks) : x.kill ks = x := by
  cases x with
  | c x => exact AV.kill1_id (x := .c x) h
  | agg l => exact AV.kill1_id (x := .agg l) h
  | tup l =>
    simp only [AV.kill]
    rw [map_same (fun x hx => AV.kill1_id (fun k hk => h k (by simp only [AV.refs, List.mem_flatMap]; exact ⟨x, hx, hk⟩)))]
  | any => rfl
theorem AO.kill_id {x : AO} {ks : List Nat} (h : ∀ k ∈ deepO x, k ∉ ks) : x.kill ks = x := by
  cases x with
  | var l => simp only [AO.kill]; rw [mapC_kill_id h]
  | _ => rfl
theorem AC.kill_comm (a b : List Nat) (x : AC) : (x.kill a).kill b = (x.kill b).kill a := by
  cases x with
  | os k p q => by_cases h1 : k ∈ a <;> by_cases h2 : k ∈ b <;> simp [AC.kill, h1, h2]
  | ptr k p => by_cases h1 : k ∈ a <;> by_cases h2 : k ∈ b <;> simp [AC.kill, h1, h2]
  | ep k p q => by_cases h1 : k ∈ a <;> by_cases h2 : k ∈ b <;> simp [AC.kill, h1, h2]
  | _ => rfl
theorem AV.kill1_comm (a b : List Nat) (x : AV) : (x.kill1 a).kill1 b = (x.kill1 b).kill1 a := by
  cases x with
  | c x => simp only [AV.kill1, AC.kill_comm a b]
  | agg l =>
    simp only [AV.kill1, List.map_map]
    congr 1
    apply List.map_congr_left
    intro x _
    exact AC.kill_comm a b x
  | tup l => rfl
  | any => rfl
theorem AV.kill_comm (a b : List Nat) (x : AV) : (x.kill a).kill b = (x.kill b).kill a := by
  cases x with
  | c x => exact AV.kill1_comm a b (.c x)
  | agg l => exact AV.kill1_comm a b (.agg l)
  | tup l =>
    simp only [AV.kill, List.map_map]
    congr 1
    apply List.map_congr_left
    intro x _
    exact AV.kill1_comm a b x
  | any => rfl
theorem AO.kill_comm (a b : List Nat) (x : AO) : (x.kill a).kill b = (x.kill b).kill a := by
  cases x with
  | var l =>
    simp only [AO.kill, List.map_map]
    congr 1
    apply List.map_congr_left
    intro x _
    exact AC.kill_comm a b x
  | _ => rfl
/-- a value without holes that is what is left of another: nothing was killed -/
theorem AC.whole_kill {x : AC} {ks : List Nat} (h : (x.kill ks).whole = true) : x.kill ks = x := by
  cases x with
  | os k p q => by_cases h1 : k ∈ ks <;> simp_all [AC.kill, AC.whole]
  | ptr k p => by_cases h1 : k ∈ ks <;> simp_all [AC.kill, AC.whole]
  | ep k p q => by_cases h1 : k ∈ ks <;> simp_all [AC.kill, AC.whole]
  | _ => rfl
theorem mapC_whole {l : List AC} {ks : List Nat} (h : (l.map (AC.kill ks)).all AC.whole = true) : l.map (AC.kill ks) = l := by
  exact map_same (fun x hx => AC.whole_kill (List.all_eq_true.1 h _ (List.mem_map.2 ⟨x, hx, rfl⟩)))
theorem wholeV1_kill {x : AV} {ks : List Nat} (h : wholeV1 (x.kill1 ks) = true) : x.kill1 ks = x := by
  cases x with
  | c x => simp only [AV.kill1]; rw [AC.whole_kill h]
  | agg l => simp only [AV.kill1]; rw [mapC_whole h]
  | tup l => rfl
  | any => rfl
theorem wholeV_kill {x : AV} {ks : List Nat} (h : wholeV (x.kill ks) = true) : x.kill ks = x := by
  cases x with
  | c x => exact wholeV1_kill (x := .c x) h
  | agg l => exact wholeV1_kill (x := .agg l) h
  | tup l =>
    simp only [AV.kill]
    rw [map_same (fun x hx => wholeV1_kill (List.all_eq_true.1 h _ (List.mem_map.2 ⟨x, hx, rfl⟩)))]
  | any => rfl
theorem wholeO_kill {x : AO} {ks : List Nat} (h : wholeO (x.kill ks) = true) : x.kill ks = x := by
  cases x with
  | var l => simp only [AO.kill]; rw [mapC_whole h]
  | _ => rfl
theorem updL_other : ∀ (us : List (Nat × AO)) (o : Nat → AO) (k : Nat), k ∉ us.map (·.1) → updL us o k = o k
  | [], o, k, _ => rfl
  | (j, x) :: r, o, k, h => by
    rw [updL, updL_other r _ k (fun hk => h (by simp at hk ⊢; exact .inr hk))]
    have : k ≠ j := by rintro rfl; exact h (by simp)
    simp [updO, this]
theorem updL_in : ∀ (us : List (Nat × AO)) (o o' : Nat → AO) (k : Nat), k ∈ us.map (·.1) → updL us o k = updL us o' k
  | [], o, o', k, h => by simp at h
  | (j, x) :: r, o, o', k, h => by
    rw [updL, updL]
    by_cases hk : k ∈ r.map (·.1)
    · exact updL_in r _ _ k hk
    · have : k = j := by
        rw [List.map_cons, List.mem_cons] at h
        rcases h with h | h
        · exact h
        · exact absurd h hk
      subst this
      rw [updL_other r _ k hk, updL_other r _ k hk]
      simp [updO]
theorem updL_mem : ∀ (us : List (Nat × AO)) (o : Nat → AO) (k : Nat), k ∈ us.map (·.1) → ∃ p ∈ us, updL us o k = p.2
  | [], o, k, h => by simp at h
  | (j, x) :: r, o, k, h => by
    rw [updL]
    by_cases hk : k ∈ r.map (·.1)
    · obtain ⟨p, hp, e⟩ := updL_mem r (updO o j x) k hk
      exact ⟨p, by simp [hp], e⟩
    · have : k = j := by
        rw [List.map_cons, List.mem_cons] at h
        rcases h with h | h
        · exact h
        · exact absurd h hk
      subst this
      rw [updL_other r _ k hk]
      exact ⟨(k, x), by simp, by simp [updO]⟩
/-- the objects behind an effect -/
theorem app_o (e : Eff) (d : Option Nat) (s : St) (k : Nat) : (e.app d s).o k = updL e.upds (killO e.kills s.o) k := by
  simp only [Eff.app_eq]; unfold AM.put
  cases d <;> rfl
theorem app_o_other {e : Eff} {d : Option Nat} {s : St} {k : Nat} (h1 : k ∉ e.kills) (h2 : k ∉ e.upds.map (·.1)) : (e.app d s).o k = (s.o k).kill e.kills := by
  rw [app_o, updL_other _ _ _ h2]
  simp [killO, h1]
theorem app_t (e : Eff) (d : Option Nat) (s : St) : (e.app d s).t = match d with | some d => (s.t.map (AV.kill e.kills)).set d e.val | none => s.t.map (AV.kill e.kills) := by
  simp only [Eff.app_eq]; unfold AM.put
  cases d <;> rfl
theorem ev_app {e : Eff} {d : Option Nat} {s : St} {x : Operand} (h : ∀ t, d = some t → x ≠ .tmp t) : ev (e.app d s) x = (ev s x).kill e.kills := by
  cases x with
  | tmp t =>
    simp only [ev]
    rw [app_t]
    have : ∀ l : List AV, (l.map (AV.kill e.kills)).getD t (.tup []) = (l.getD t (.tup [])).kill e.kills := by
      intro l
      simp only [List.getD_eq_getElem?_getD, List.getElem?_map]
      cases l[t]? <;> simp [AV.kill]
    cases d with
    | none => exact this s.t
    | some d =>
      have hne : d ≠ t := by rintro rfl; exact h d rfl rfl
      simp only
      rw [List.getD_eq_getElem?_getD, List.getElem?_set_ne hne, ← List.getD_eq_getElem?_getD]
      exact this s.t
  | const v =>
    simp only [ev]
    have : (constAV v).refs = [] := by
      unfold constAV
      split
      · split
        · simp [AV.refs, AV.refs1, List.flatMap_map, AC.ref]
        · rfl
      · split <;> rfl
      · rfl
    exact (AV.kill_id (by rw [this]; simp)).symm
  | func f => rfl
  | global g => rfl
end
section
variable {A : Prims} {P : Program} {T : TT} {s s' s1 s2 : St} {all : Array Oper}
theorem xRefs_same {xs : List Operand} (h : ∀ x ∈ xs, ev s' x = ev s x) : xRefs xs s' = xRefs xs s := by
  unfold xRefs
  induction xs with
  | nil => rfl
  | cons x r ih => rw [List.flatMap_cons, List.flatMap_cons, h x (by simp), ih (fun y hy => h y (by simp [hy]))]
theorem flatMap_same {α β : Type} {f g : α → List β} : ∀ (l : List α), (∀ x ∈ l, f x = g x) → l.flatMap f = l.flatMap g
  | [], _ => rfl
  | x :: r, h => by rw [List.flatMap_cons, List.flatMap_cons, h x (by simp), flatMap_same r (fun y hy => h y (by simp [hy]))]
theorem all_same {α : Type} {f g : α → Bool} : ∀ (l : List α), (∀ x ∈ l, f x = g x) → l.all f = l.all g
  | [], _ => rfl
  | x :: r, h => by rw [List.all_cons, List.all_cons, h x (by simp), all_same r (fun y hy => h y (by simp [hy]))]
theorem lgX_same {xs : List Operand} {e : Eff} (h1 : ∀ x ∈ xs, ev s' x = ev s x) (h2 : ∀ k ∈ xRefs xs s, s'.o k = s.o k) : lgX xs s' e = lgX xs s e := by
  unfold lgX
  rw [xRefs_same h1, flatMap_same (f := fun k => deepO (s'.o k)) (g := fun k => deepO (s.o k)) _ (fun k hk => by rw [h2 k hk]),
    all_same (f := fun x => wholeV (ev s' x)) (g := fun x => wholeV (ev s x)) _ (fun x hx => by rw [h1 x hx]),
    all_same (f := fun k => wholeO (s'.o k)) (g := fun k => wholeO (s.o k)) _ (fun k hk => by rw [h2 k hk])]
theorem looks_operand {o : Oper} {t : Nat} (h : Operand.tmp t ∈ o.op.operands.toList) : t ∈ o.looksAt all := by
  unfold Oper.looksAt
  rw [List.mem_append]
  left
  rw [List.mem_filterMap]
  exact ⟨_, h, rfl⟩
/-- two operations that are apart -/
theorem commute {xi xj : List Operand} {di dj : Option Nat} {ei ej : Eff} {Gi Gj : St → Prop} (fi : ∀ s s' : St, (∀ x ∈ xi, ev s' x = ev s x) → (∀ k ∈ xRefs xi s, s'.o k = s.o k) → Gi s → Gi s')
    (fj : ∀ s s' : St, (∀ x ∈ xj, ev s' x = ev s x) → (∀ k ∈ xRefs xj s, s'.o k = s.o k) → Gj s → Gj s') (hj : Gj s) (hi : Gi (ej.app dj s))
    (hind : indep (lgX xj s ej) (lgX xi (ej.app dj s) ei) = true) (a1 : ∀ d, dj = some d → .tmp d ∉ xi) (a2 : ∀ d, dj = some d → di ≠ some d) (a3 : ∀ d, di = some d → .tmp d ∉ xj) (hwi : (lgX xi (ej.app dj s) ei).whole = true) :
    Gi s ∧ lgX xi s ei = lgX xi (ej.app dj s) ei ∧ Gj (ei.app di s) ∧ lgX xj (ei.app di s) ej = lgX xj s ej ∧ ej.app dj (ei.app di s) = ei.app di (ej.app dj s) := by
  simp only [indep, Bool.and_eq_true] at hind
  have d1 := disj_spec hind.1
  have d2 := disj_spec hind.2
  simp only [lgX, Bool.and_eq_true] at hwi
  -- (a) the operands of oi
  have ha : ∀ x ∈ xi, ev (ej.app dj s) x = ev s x := by
    intro x hx
    have h1 : ev (ej.app dj s) x = (ev s x).kill ej.kills := ev_app (fun t ht hxt => by subst hxt; exact a1 t ht hx)
    have h2 := List.all_eq_true.1 hwi.1 x hx
    rw [h1] at h2 ⊢
    exact wholeV_kill h2
  have hrefs : xRefs xi (ej.app dj s) = xRefs xi s := xRefs_same ha
  have hb : ∀ k ∈ xRefs xi s, (ej.app dj s).o k = s.o k := by
    intro k hk
    have hk' : k ∉ ej.kills ++ ej.upds.map (·.1) := fun hw => d1 k hw (by
      simp only [lgX]
      rw [hrefs]
      simp only [List.mem_append]
      exact .inl (.inl (.inl (.inl hk))))
    simp only [List.mem_append, not_or] at hk'
    have h1 := app_o_other (e := ej) (d := dj) (s := s) hk'.1 hk'.2
    have h2 := List.all_eq_true.1 hwi.2 k (by rw [hrefs]; exact hk)
    rw [h1] at h2 ⊢
    exact wholeO_kill h2
  have hgi : Gi s := fi _ _ (fun x hx => (ha x hx).symm) (fun k hk => (hb k (by rwa [hrefs] at hk)).symm) hi
  have hli : lgX xi s ei = lgX xi (ej.app dj s) ei := (lgX_same ha hb).symm
  rw [← hli] at d1 d2
  -- (c) the operands of oj
  have hKi : ∀ k ∈ (lgX xj s ej).refs, k ∉ ei.kills := fun k hk hw => d2 k (by simp only [lgX, List.mem_append]; exact .inl hw) hk
  have hUi : ∀ k ∈ (lgX xj s ej).refs, k ∉ ei.upds.map (·.1) := fun k hk hw => d2 k (by simp only [lgX, List.mem_append]; exact .inr hw) hk
  have hc : ∀ x ∈ xj, ev (ei.app di s) x = ev s x := by
    intro x hx
    rw [ev_app (fun t ht hxt => by subst hxt; exact a3 t ht hx)]
    exact AV.kill_id (fun k hk => hKi k (by simp only [lgX, List.mem_append]; exact .inl (.inl (.inl (List.mem_flatMap.2 ⟨x, hx, hk⟩)))))
  have hd : ∀ k ∈ xRefs xj s, (ei.app di s).o k = s.o k := by
    intro k hk
    have hk1 : k ∈ (lgX xj s ej).refs := by simp only [lgX, List.mem_append]; exact .inl (.inl (.inl hk))
    rw [app_o_other (hKi k hk1) (hUi k hk1)]
    exact AO.kill_id (fun q hq => hKi q (by simp only [lgX, List.mem_append]; exact .inl (.inl (.inr (List.mem_flatMap.2 ⟨k, hk, hq⟩)))))
  refine ⟨hgi, hli, fj _ _ hc hd hj, lgX_same hc hd, ?_⟩
  -- (d) the two orders
  have hKj : ∀ k ∈ (lgX xi s ei).refs, k ∉ ej.kills := fun k hk hw => d1 k (by simp only [lgX, List.mem_append]; exact .inl hw) (by rw [List.mem_append]; exact .inl hk)
  have hvj : ej.val.kill ei.kills = ej.val := AV.kill_id (fun k hk => hKi k (by simp only [lgX, List.mem_append]; exact .inl (.inr hk)))
  have hvi : ei.val.kill ej.kills = ei.val := AV.kill_id (fun k hk => hKj k (by simp only [lgX, List.mem_append]; exact .inl (.inr hk)))
  have hmap : (s.t.map (AV.kill ei.kills)).map (AV.kill ej.kills) = (s.t.map (AV.kill ej.kills)).map (AV.kill ei.kills) := by
    rw [List.map_map, List.map_map]
    apply List.map_congr_left
    intro x _
    exact AV.kill_comm _ _ x
  have ht : (ej.app dj (ei.app di s)).t = (ei.app di (ej.app dj s)).t := by
    rw [app_t, app_t, app_t, app_t]
    cases hdj : dj with
    | none =>
      cases hdi : di with
      | none => exact hmap
      | some di => simp only; rw [List.map_set, hvi, hmap]
    | some dj =>
      cases hdi : di with
      | none => simp only; rw [List.map_set, hvj, hmap]
      | some di =>
        simp only
        rw [List.map_set, List.map_set, hvi, hvj, hmap]
        exact List.set_comm _ _ (fun h => a2 dj hdj (by rw [hdi, h]))
  have hw : ∀ k, k ∈ ej.upds.map (·.1) → k ∉ ei.upds.map (·.1) ∧ k ∉ ei.kills := by
    intro k hk
    have := d1 k (by simp only [lgX, List.mem_append]; exact .inr hk)
    simp only [lgX, List.mem_append, not_or] at this
    exact ⟨this.2.2, this.2.1⟩
  have hw' : ∀ k, k ∈ ei.upds.map (·.1) → k ∉ ej.kills := by
    intro k hk hkj
    have := d1 k (by simp only [lgX, List.mem_append]; exact .inl hkj)
    simp only [lgX, List.mem_append, not_or] at this
    exact this.2.2 hk
  have ho : (ej.app dj (ei.app di s)).o = (ei.app di (ej.app dj s)).o := by
    funext k
    rw [app_o, app_o]
    by_cases hkj : k ∈ ej.upds.map (·.1)
    · obtain ⟨h1, h2⟩ := hw k hkj
      obtain ⟨p, hp, e1⟩ := updL_mem ej.upds (killO ej.kills (ei.app di s).o) k hkj
      rw [updL_other ei.upds _ k h1]
      have : killO ei.kills (ej.app dj s).o k = ((ej.app dj s).o k).kill ei.kills := by simp [killO, h2]
      rw [this, app_o, updL_in ej.upds (killO ej.kills s.o) (killO ej.kills (ei.app di s).o) k hkj, e1]
      exact (AO.kill_id (fun q hq => hKi q (by simp only [lgX, List.mem_append]; exact .inr (List.mem_flatMap.2 ⟨p, hp, hq⟩)))).symm
    · rw [updL_other ej.upds _ k hkj]
      by_cases hki : k ∈ ei.upds.map (·.1)
      · have h2 := hw' k hki
        obtain ⟨p, hp, e1⟩ := updL_mem ei.upds (killO ei.kills (ej.app dj s).o) k hki
        have : killO ej.kills (ei.app di s).o k = ((ei.app di s).o k).kill ej.kills := by simp [killO, h2]
        rw [this, app_o, updL_in ei.upds (killO ei.kills s.o) (killO ei.kills (ej.app dj s).o) k hki, e1]
        exact AO.kill_id (fun q hq => hKj q (by simp only [lgX, List.mem_append]; exact .inr (List.mem_flatMap.2 ⟨p, hp, hq⟩)))
      · rw [updL_other ei.upds _ k hki]
        by_cases h1 : k ∈ ej.kills <;> by_cases h2 : k ∈ ei.kills
        · simp [killO, h1, h2]
        · have e1 : killO ej.kills (ei.app di s).o k = .gone := by simp [killO, h1]
          have e2 : killO ei.kills (ej.app dj s).o k = ((ej.app dj s).o k).kill ei.kills := by simp [killO, h2]
          rw [e1, e2, app_o, updL_other ej.upds _ k hkj]
          simp [killO, h1, AO.kill]
        · have e1 : killO ei.kills (ej.app dj s).o k = .gone := by simp [killO, h2]
          have e2 : killO ej.kills (ei.app di s).o k = ((ei.app di s).o k).kill ej.kills := by simp [killO, h1]
          rw [e1, e2, app_o, updL_other ei.upds _ k hki]
          simp [killO, h2, AO.kill]
        · have e1 : killO ei.kills (ej.app dj s).o k = ((ej.app dj s).o k).kill ei.kills := by simp [killO, h2]
          have e2 : killO ej.kills (ei.app di s).o k = ((ei.app di s).o k).kill ej.kills := by simp [killO, h1]
          rw [e1, e2, app_o_other h1 hkj, app_o_other h2 hki]
          exact AO.kill_comm _ _ _
  cases hx : ej.app dj (ei.app di s)
  cases hy : ei.app di (ej.app dj s)
  rw [hx, hy] at ht ho
  simp only at ht ho
  rw [ht, ho]
end
section
variable {A : Prims} {P : Program} {T : TT} {s s' s1 s2 : St} {all : List Oper}
def wantedA (all : List Oper) (o : Oper) (s : St) : Option Bool := match o.guard with
  | none => some true
  | some (j, want) => match deadG all s j with
    | true => some false
    | false => match yld all s j with
      | some (_, b) => some (b == want)
      | none => none
def GI (A : Prims) (P : Program) (T : TT) (all : List Oper) (o : Oper) (sk : Bool) (e : Eff) (s : St) : Prop :=
  wantedA all o s = some (!sk) ∧ if sk then e = e0 else Gives A P T o s e
theorem yld_frame {j : Nat} {o : Oper} {want : Bool} (hg : o.guard = some (j, want)) (h : ∀ x ∈ guardOps all o, ev s' x = ev s x) : yld all s' j = yld all s j := by
  unfold yld
  unfold guardOps at h
  rw [hg] at h
  simp only at h
  cases ho : all[j]? with
  | none => rfl
  | some p =>
    rw [ho] at h
    simp only at h ⊢
    cases hd : p.dst with
    | none => rfl
    | some d =>
      rw [hd] at h
      have := h (.tmp d) (by simp)
      simp only [ev] at this
      simp only [this]
theorem dead_frame {j : Nat} {o : Oper} {want : Bool} (hg : o.guard = some (j, want)) (h : ∀ x ∈ guardOps all o, ev s' x = ev s x) : deadG all s' j = deadG all s j := by
  unfold deadG
  unfold guardOps at h
  rw [hg] at h
  simp only at h
  cases ho : all[j]? with
  | none => rfl
  | some p =>
    rw [ho] at h
    simp only at h ⊢
    cases hd : p.dst with
    | none => rfl
    | some d =>
      rw [hd] at h
      have := h (.tmp d) (by simp)
      simp only [ev] at this
      simp only [this]
theorem wantedA_frame {o : Oper} (h : ∀ x ∈ guardOps all o, ev s' x = ev s x) : wantedA all o s' = wantedA all o s := by
  unfold wantedA
  cases hg : o.guard with
  | none => rfl
  | some p =>
    obtain ⟨j, want⟩ := p
    simp only [yld_frame hg h, dead_frame hg h]
theorem GI_frame {o : Oper} {sk : Bool} {e : Eff} (h1 : ∀ x ∈ xsOf all o sk, ev s' x = ev s x) (h2 : ∀ k ∈ xRefs (xsOf all o sk) s, s'.o k = s.o k) (h : GI A P T all o sk e s) : GI A P T all o sk e s' := by
  refine ⟨by rw [wantedA_frame (fun x hx => h1 x (by unfold xsOf; simp [hx]))]; exact h.1, ?_⟩
  cases sk with
  | true => exact h.2
  | false =>
    refine gives_frame h.2 (fun x hx => h1 x (by unfold xsOf; simp only [List.mem_append]; exact .inr hx)) (fun k hk => h2 k ?_)
    unfold opRefs at hk
    unfold xRefs xsOf at *
    rw [List.flatMap_append, List.mem_append]
    exact .inr hk
theorem looks_mem {o : Oper} {sk : Bool} {t : Nat} (h : Operand.tmp t ∈ xsOf all o sk) : t ∈ o.looksAt all.toArray := by
  unfold Oper.looksAt
  unfold xsOf guardOps at h
  rw [List.mem_append] at h ⊢
  rcases h with h | h
  · right
    cases hg : o.guard with
    | none => rw [hg] at h; cases h
    | some p =>
      obtain ⟨g, want⟩ := p
      rw [hg] at h
      simp only at h ⊢
      cases hp : all[g]? with
      | none => rw [hp] at h; cases h
      | some q =>
        rw [hp] at h
        simp only at h
        cases hd : q.dst with
        | none => rw [hd] at h; cases h
        | some d => rw [hd] at h; simp at h; subst h; simp [hp, hd]
  · left
    cases sk with
    | true => cases h
    | false => rw [List.mem_filterMap]; exact ⟨_, h, rfl⟩
def Run (A : Prims) (P : Program) (T : TT) (all : List Oper) : List (Nat × Lg) → St → St → Prop
  | [], s, s' => s' = s
  | (i, lg) :: r, s, s' => ∃ o sk e, all[i]? = some o ∧ GI A P T all o sk e s ∧ lg = lgX (xsOf all o sk) s e ∧ Run A P T all r (e.app o.dst s) s'
def Ind (all : List Oper) (p q : Nat × Lg) : Prop := indep p.2 q.2 = true ∧ ∃ oj oi, all[p.1]? = some oj ∧ all[q.1]? = some oi ∧ oj.apart all.toArray oi = true
theorem run_front : ∀ (L1 : List (Nat × Lg)) (q : Nat × Lg) (L2 : List (Nat × Lg)) (s s' : St), Run A P T all (L1 ++ q :: L2) s s' → q.2.whole = true → (∀ p ∈ L1, Ind all p q) → Run A P T all (q :: (L1 ++ L2)) s s'
  | [], q, L2, s, s', h, _, _ => h
  | (j, lj) :: L1, (i, li), L2, s, s', h, hw, hind => by
    obtain ⟨oj, skj, ej, hoj, hgj, hlj, hrun⟩ := h
    obtain ⟨oi, ski, ei, hoi, hgi, hli, hrest⟩ := run_front L1 (i, li) L2 _ s' hrun hw (fun p hp => hind p (by simp [hp]))
    obtain ⟨hin, oj', oi', hoj', hoi', hap⟩ := hind (j, lj) (by simp)
    simp only at hoj' hoi' hin hw
    rw [hoj] at hoj'; injection hoj' with hoj'; subst hoj'
    rw [hoi] at hoi'; injection hoi' with hoi'; subst hoi'
    obtain ⟨a1, a2, a3⟩ := Oper.apart_spec hap
    rw [hlj, hli] at hin
    rw [hli] at hw
    obtain ⟨c1, c2, c3, c4, c5⟩ := commute (Gi := GI A P T all oi ski ei) (Gj := GI A P T all oj skj ej) (fun s s' h1 h2 h => GI_frame h1 h2 h) (fun s s' h1 h2 h => GI_frame h1 h2 h) hgj hgi hin
      (fun d hd hm => a1 d hd (looks_mem hm)) a2 (fun d hd hm => a3 d hd (looks_mem hm)) hw
    exact ⟨oi, ski, ei, hoi, c1, by rw [hli, c2], oj, skj, ej, hoj, c3, by rw [hlj, c4], by rw [c5]; exact hrest⟩
theorem setTB_self {j d : Nat} {b : Bool} (h : yld all s j = some (d, b)) : setTB s d b = s := by
  unfold yld at h
  split at h
  · rename_i o ho
    split at h
    · rename_i d' hd
      split at h
      · rename_i b' hb
        injection h with h; injection h with h1 h2; subst h1; subst h2
        unfold boolOf at hb
        split at hb
        · rename_i q hq
          injection hb with hb; subst hb
          unfold setTB
          have : s.t.set d' (.c (.v (.bool q))) = s.t := by
            apply List.ext_getElem?
            intro i
            rw [List.getElem?_set]
            split
            · rename_i hi
              subst hi
              rw [List.getD_eq_getElem?_getD] at hq
              cases hx : s.t[d']? with
              | none => rw [hx] at hq; cases hq
              | some u => rw [hx] at hq; simp at hq; subst hq; simp [(List.getElem?_eq_some_iff.1 hx).1]
            · rfl
          rw [this]
        · cases hb
      · cases h
    · cases h
  · cases h
theorem run_of_wpD {K : List Lg → St → Prop} : ∀ (l : List Oper) (k : Nat) (s : St) (ls : List Lg), (∀ j, l[j]? = all[k + j]?) → wpD A P T all l s ls K →
    ∃ L s', Run A P T all L s s' ∧ L.map (·.1) = List.range' k l.length ∧ K (ls ++ L.map (·.2)) s'
  | [], k, s, ls, _, h => ⟨[], s, rfl, rfl, by unfold wpD at h; simpa using h⟩
  | o :: r, k, s, ls, hl, h => by
    have ho : all[k]? = some o := by have := hl 0; simpa using this.symm
    have hr : ∀ j, r[j]? = all[k + 1 + j]? := fun j => by
      have := hl (j + 1)
      rw [List.getElem?_cons_succ] at this
      rw [this]; congr 1; omega
    have key : ∀ (sk : Bool) (e : Eff), GI A P T all o sk e s → wpD A P T all r (e.app o.dst s) (ls ++ [lgX (xsOf all o sk) s e]) K → ∃ L s', Run A P T all L s s' ∧ L.map (·.1) = List.range' k (o :: r).length ∧ K (ls ++ L.map (·.2)) s' := by
      intro sk e hg hw
      obtain ⟨L, s', h1, h2, h3⟩ := run_of_wpD r (k + 1) _ _ hr hw
      refine ⟨(k, lgX (xsOf all o sk) s e) :: L, s', ⟨o, sk, e, ho, hg, rfl, h1⟩, by simp [h2, List.range'_succ], by simpa using h3⟩
    unfold wpD at h
    split at h
    · rename_i hg
      obtain ⟨e, h1, h2⟩ := gives_of_oneD h
      exact key false e ⟨by unfold wantedA; rw [hg]; rfl, h1⟩ h2
    · rename_i j want hg
      split at h
      · rename_i hd
        exact key true e0 ⟨by unfold wantedA; rw [hg]; simp only [hd]; rfl, rfl⟩ h
      rename_i hd
      split at h
      · rename_i d b hy
        have hwa : wantedA all o s = some (b == want) := by unfold wantedA; rw [hg]; simp only [hy, hd]
        by_cases hb : b = want
        · subst hb
          have h1 := h.1 rfl
          rw [setTB_self hy] at h1
          obtain ⟨e, h1, h2⟩ := gives_of_oneD h1
          exact key false e ⟨by rw [hwa]; simp, h1⟩ h2
        · have hb' : b = !want := by cases b <;> cases want <;> simp_all
          have h1 := h.2 hb'
          rw [← hb', setTB_self hy] at h1
          exact key true e0 ⟨by rw [hwa]; simp [hb], rfl⟩ h1
      · exact h.elim

theorem maskOf_bit {acc : List Nat} {j : Nat} : ∀ (l : List Edge) (m : Nat), (l.foldl (fun m e => if Region.binds .any e then m ||| (1 <<< e.on) ||| acc.getD e.on 0 else m) m).testBit j = true →
    m.testBit j = true ∨ ∃ e ∈ l, Region.binds .any e = true ∧ (e.on = j ∨ (acc.getD e.on 0).testBit j = true)
  | [], m, h => .inl h
  | e :: r, m, h => by
    rw [List.foldl_cons] at h
    rcases maskOf_bit r _ h with h1 | ⟨e', he', hb, hh⟩
    · by_cases hb : Region.binds .any e = true
      · rw [if_pos hb] at h1
        rw [Nat.testBit_or, Nat.testBit_or, Bool.or_eq_true, Bool.or_eq_true] at h1
        rcases h1 with (h1 | h1) | h1
        · exact .inl h1
        · refine .inr ⟨e, by simp, hb, .inl ?_⟩
          rw [Nat.testBit_shiftLeft, Bool.and_eq_true] at h1
          obtain ⟨g1, g2⟩ := h1
          have g1 : e.on ≤ j := by simpa using g1
          by_cases hz : j - e.on = 0
          · omega
          · exfalso
            obtain ⟨q, hq⟩ : ∃ q, j - e.on = q + 1 := ⟨j - e.on - 1, by omega⟩
            rw [hq] at g2
            simp [Nat.testBit_succ] at g2
        · exact .inr ⟨e, by simp, hb, .inr h1⟩
      · rw [if_neg hb] at h1
        exact .inl h1
    · exact .inr ⟨e', by simp [he'], hb, hh⟩
theorem masksL_acc : ∀ (l : List Oper) (acc : List Nat) (i : Nat), i < acc.length → (masksL l acc).getD i 0 = acc.getD i 0
  | [], acc, i, _ => rfl
  | o :: r, acc, i, h => by
    rw [masksL, masksL_acc r _ i (by simp; omega)]
    simp [List.getD_eq_getElem?_getD, List.getElem?_append_left h]
theorem masksL_get : ∀ (l : List Oper) (acc : List Nat) (k : Nat) (o : Oper), l[k]? = some o → (∀ e ∈ o.after.toList, Region.binds .any e = true → e.on < acc.length + k) → ∀ j, ((masksL l acc).getD (acc.length + k) 0).testBit j = true →
    ∃ e ∈ o.after.toList, Region.binds .any e = true ∧ (e.on = j ∨ ((masksL l acc).getD e.on 0).testBit j = true)
  | [], acc, k, o, h, _, _, _ => by simp at h
  | o' :: r, acc, k, o, h, hlt, j, hj => by
    rw [masksL] at hj ⊢
    cases k with
    | zero =>
      simp at h
      subst h
      rw [Nat.add_zero, masksL_acc r _ _ (by simp)] at hj
      have : (acc ++ [maskOf acc o']).getD acc.length 0 = maskOf acc o' := by simp [List.getD_eq_getElem?_getD]
      rw [this] at hj
      rcases maskOf_bit _ _ hj with h1 | ⟨e, he, hb, hh⟩
      · simp at h1
      · refine ⟨e, he, hb, ?_⟩
        have hl := hlt e he hb
        rw [masksL_acc r _ _ (by simp; omega)]
        have : (acc ++ [maskOf acc o']).getD e.on 0 = acc.getD e.on 0 := by
          simp [List.getD_eq_getElem?_getD, List.getElem?_append_left (show e.on < acc.length by omega)]
        rw [this]
        exact hh
    | succ k =>
      have hlen : acc.length + (k + 1) = (acc ++ [maskOf acc o']).length + k := by simp; omega
      rw [hlen] at hj hlt
      exact masksL_get r _ k o (by simpa using h) hlt j hj
end
end Go.Proofs.Ytcfmllknnfoghaa.AM
