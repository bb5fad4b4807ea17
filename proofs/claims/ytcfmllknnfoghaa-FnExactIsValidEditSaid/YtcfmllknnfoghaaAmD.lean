/-
  THE ABSTRACT MACHINE, FOURTH PART: functions, loops, and the arguments of a law. No condition.
-/
import Derived.Test.YtcfmllknnfoghaaAmC
import Derived.ChangeArms
namespace Go.Proofs.Ytcfmllknnfoghaa.AM
open Go Go.RowKit
set_option linter.unusedVariables false
set_option linter.unusedSimpArgs false
set_option maxRecDepth 100000

section
variable {P : Program} {T : TT} {w0 : World} {I0 : Nat → Prop} {all : List Oper}
structure Good (all : List Oper) (L : List (Nat × Lg)) (listed : Array Bool) : Prop where
  size : listed.size = all.length
  mem : ∀ i, i ∈ L.map (·.1) ↔ i < all.length ∧ listed.getD i true = false
  ind : L.Pairwise fun p q => ((masksL all []).getD q.1 0).testBit p.1 = true ∨ Ind all p q
  asc : L.Pairwise fun p q => p.1 < q.1
  whole : ∀ p ∈ L, p.2.whole = true
  closed : ∀ k o, all[k]? = some o → listed.getD k true = true → ∀ e ∈ o.after.toList, Region.binds .any e = true → listed.getD e.on true = true
def EdgesOk (all : List Oper) : Prop := ∀ (k : Nat) o, all[k]? = some o → ∀ e ∈ o.after.toList, Region.binds .any e = true → e.on < k
theorem ready_iff {listed : Array Bool} {i : Nat} : i ∈ Region.ready .any all.toArray listed ↔ i < all.length ∧ listed.getD i true = false ∧ ∃ o, all[i]? = some o ∧ ∀ e ∈ o.after.toList, Region.binds .any e = true → listed.getD e.on false = true := by
  unfold Region.ready
  rw [List.mem_filter, List.mem_range]
  simp only [List.size_toArray, Bool.and_eq_true, Bool.not_eq_true', List.getElem?_toArray]
  constructor
  · rintro ⟨h1, h2, h3⟩
    refine ⟨h1, h2, ?_⟩
    cases ho : all[i]? with
    | none => rw [List.getElem?_eq_none_iff] at ho; omega
    | some o =>
      rw [ho] at h3
      simp only [Option.map_some, Option.getD_some] at h3
      refine ⟨o, rfl, fun e he hb => ?_⟩
      rw [Array.all_eq_true'] at h3
      have := h3 e (by simpa using he)
      simpa [hb] using this
  · rintro ⟨h1, h2, o, ho, h3⟩
    refine ⟨h1, h2, ?_⟩
    rw [ho]
    simp only [Option.map_some, Option.getD_some]
    rw [Array.all_eq_true']
    intro e he
    have := h3 e (by simpa using he)
    cases hb : Region.binds .any e <;> simp_all
theorem getD_tf {listed : Array Bool} {i : Nat} (h : i < listed.size) : listed.getD i true = listed.getD i false := by
  simp [Array.getD_eq_getD_getElem?, h]
theorem mask_listed {L : List (Nat × Lg)} {listed : Array Bool} (hE : EdgesOk all) (hG : Good all L listed) : ∀ (n i : Nat) (o : Oper), i < n → all[i]? = some o → (∀ e ∈ o.after.toList, Region.binds .any e = true → listed.getD e.on true = true) → ∀ j, ((masksL all []).getD i 0).testBit j = true → listed.getD j true = true
  | 0, i, _, h, _, _, _, _ => absurd h (by omega)
  | n + 1, i, o, h, ho, hl, j, hj => by
    obtain ⟨e, he, hb, hh⟩ := masksL_get all [] i o ho (by simpa using hE i o ho) j (by simpa using hj)
    have h1 := hl e he hb
    rcases hh with rfl | hh
    · exact h1
    · have hlt := hE i o ho e he hb
      have hi : i < all.length := (List.getElem?_eq_some_iff.1 ho).1
      have ho' : all[e.on]? = some all[e.on] := List.getElem?_eq_getElem (by omega)
      exact mask_listed hE hG n e.on _ (by omega) ho' (hG.closed e.on _ ho' h1) j hh
theorem any_sound (hT : TOk P T) (hE : EdgesOk all) {Q : Exit → Act → World → Prop} {send : St} (hQ : ∀ a w, Rel w0 I0 send a w → Q .normal a w) :
    ∀ (n : Nat) (L : List (Nat × Lg)) (listed : Array Bool) (s : St) (a : Act) (w : World), L.length = n → Run std P T all L s send → Rel w0 I0 s a w → Good all L listed → wpAny P .any all.toArray Q n listed a w := by
  intro n
  induction n with
  | zero =>
    intro L listed s a w hn hrun hR hG
    have : L = [] := List.length_eq_zero_iff.1 hn
    subst this
    simp only [Run] at hrun
    subst hrun
    refine ⟨?_, hQ a w hR⟩
    rw [List.eq_nil_iff_forall_not_mem]
    intro i hi
    obtain ⟨h1, h2, _⟩ := ready_iff.1 hi
    have := (hG.mem i).2 ⟨h1, h2⟩
    simp at this
  | succ n ih =>
    intro L listed s a w hn hrun hR hG
    refine ⟨fun hnil => ?_, fun i hi => ?_⟩
    · exfalso
      cases L with
      | nil => simp at hn
      | cons p r =>
        obtain ⟨h1, h2⟩ := (hG.mem p.1).1 (by simp)
        have ho : all[p.1]? = some all[p.1] := List.getElem?_eq_getElem h1
        have : p.1 ∈ Region.ready .any all.toArray listed := ready_iff.2 ⟨h1, h2, _, ho, fun e he hb => by
          have hlt := hE p.1 _ ho e he hb
          have hl : listed.getD e.on true = true := by
            by_cases hx : listed.getD e.on true = true
            · exact hx
            · exfalso
              have hx' : listed.getD e.on true = false := by simpa using hx
              have hm := (hG.mem e.on).2 ⟨by omega, hx'⟩
              rw [List.map_cons, List.mem_cons] at hm
              rcases hm with hm | hm
              · omega
              · obtain ⟨q, hq, hq1⟩ := List.mem_map.1 hm
                have := (List.pairwise_cons.1 hG.asc).1 q hq
                omega
          rwa [getD_tf (by rw [hG.size]; omega)] at hl⟩
        rw [hnil] at this
        cases this
    · obtain ⟨h1, h2, o, ho, h3⟩ := ready_iff.1 hi
      have hm := (hG.mem i).2 ⟨h1, h2⟩
      obtain ⟨q, hq, hqi⟩ := List.mem_map.1 hm
      obtain ⟨L1, L2, rfl⟩ := List.append_of_mem hq
      subst hqi
      have hlist : ∀ e ∈ o.after.toList, Region.binds .any e = true → listed.getD e.on true = true := fun e he hb => by
        have := h3 e he hb
        have hlt := hE q.1 o ho e he hb
        rwa [getD_tf (by rw [hG.size]; omega)]
      have hind : ∀ p ∈ L1, Ind all p q := by
        intro p hp
        have := (List.pairwise_append.1 hG.ind).2.2 p hp q (by simp)
        rcases this with hb | hb
        · exfalso
          have hl := mask_listed hE hG (q.1 + 1) q.1 o (by omega) ho hlist p.1 hb
          have := ((hG.mem p.1).1 (List.mem_map.2 ⟨p, by simp [hp], rfl⟩)).2
          rw [this] at hl
          cases hl
        · exact hb
      have hrun' := run_front L1 q L2 s send hrun (hG.whole q (by simp)) hind
      obtain ⟨oi, sk, e, hoi, hgi, hlg, hrest⟩ := hrun'
      rw [ho] at hoi; injection hoi with hoi; subst hoi
      have hG' : Good all (L1 ++ L2) (listed.setIfInBounds q.1 true) := by
        have hsub : (L1 ++ L2).Sublist (L1 ++ q :: L2) := List.Sublist.append (List.Sublist.refl _) (List.sublist_cons_self _ _)
        have hasc := hG.asc
        rw [List.pairwise_append] at hasc
        obtain ⟨p1, p2, p3⟩ := hasc
        have hne : ∀ p ∈ L1 ++ L2, p.1 ≠ q.1 := by
          intro p hp
          rw [List.mem_append] at hp
          rcases hp with hp | hp
          · have := p3 p hp q (by simp); omega
          · have := (List.pairwise_cons.1 p2).1 p hp; omega
        have hget : ∀ k, (listed.setIfInBounds q.1 true).getD k true = if k = q.1 then true else listed.getD k true := by
          intro k
          rw [Array.getD_eq_getD_getElem?, Array.getD_eq_getD_getElem?, Array.getElem?_setIfInBounds]
          by_cases hk : k = q.1
          · subst hk; simp [hG.size, h1]
          · rw [if_neg (fun h => hk h.symm), if_neg hk]
        refine ⟨by simp [hG.size], fun i => ?_, hG.ind.sublist hsub, hG.asc.sublist hsub, fun p hp => hG.whole p (by simp only [List.mem_append, List.mem_cons] at hp ⊢; rcases hp with h | h <;> simp [h]), fun k o' hk hl e' he' hb => ?_⟩
        · rw [hget]
          constructor
          · intro hm
            obtain ⟨p, hp, rfl⟩ := List.mem_map.1 hm
            have hh := (hG.mem p.1).1 (List.mem_map.2 ⟨p, by simp only [List.mem_append, List.mem_cons] at hp ⊢; rcases hp with h | h <;> simp [h], rfl⟩)
            rw [if_neg (hne p hp)]
            exact hh
          · rintro ⟨g1, g2⟩
            split at g2
            · cases g2
            · rename_i hiq
              obtain ⟨p, hp, hpi⟩ := List.mem_map.1 ((hG.mem i).2 ⟨g1, g2⟩)
              refine List.mem_map.2 ⟨p, ?_, hpi⟩
              simp only [List.mem_append, List.mem_cons] at hp ⊢
              rcases hp with h | h | h
              · exact .inl h
              · subst h; exact absurd hpi.symm hiq
              · exact .inr h
        · rw [hget] at hl ⊢
          split
          · rfl
          · split at hl
            · rename_i hkq
              subst hkq
              rw [ho] at hk; injection hk with hk; subst hk
              exact hlist e' he' hb
            · exact hG.closed k o' hk hl e' he' hb
      have hlen : (L1 ++ L2).length = n := by simp at hn ⊢; omega
      unfold wpOp
      rw [List.getElem?_toArray, ho]
      simp only
      have hwa : Region.wanted o (yielded all.toArray a.tmps) = !sk := by
        have hw := hgi.1
        unfold wantedA at hw
        cases hg : o.guard with
        | none => rw [hg] at hw; simp at hw; subst hw; simp [Region.wanted, hg]
        | some p =>
          obtain ⟨j, want⟩ := p
          rw [hg] at hw
          simp only at hw
          split at hw
          · rename_i hd
            have hyl := dead_sound (ops := all.toArray) hR (by simpa using hd)
            injection hw with hw
            simp [Region.wanted, hg, hyl, ← hw]
          split at hw
          · rename_i d b hy
            obtain ⟨hyl, _⟩ := yld_sound (ops := all.toArray) hR (by simpa using hy)
            injection hw with hw
            simp [Region.wanted, hg, hyl, ← hw]
          · cases hw
      rw [hwa]
      cases sk with
      | true =>
        simp only [Bool.not_true, Bool.false_eq_true, if_false]
        have he := hgi.2
        simp only [if_true] at he
        subst he
        refine ih (L1 ++ L2) _ _ _ _ hlen hrest ?_ hG'
        obtain ⟨L, I, hR⟩ := hR
        have : (e0.app o.dst s) = AM.put s o.dst (.tup []) := by
          rw [Eff.app_eq]; unfold e0
          simp only [AV.kill_nil', List.map_id, killO_nil, updL]
        rw [this]
        exact ⟨L, I, hR.put o.dst (y := undef) ⟨#[], rfl, rfl, fun i x hx => by simp at hx⟩⟩
      | false =>
        simp only [Bool.not_false, if_true]
        left
        have he := hgi.2
        simp only [Bool.false_eq_true, if_false] at he
        exact wpOne_sound hT hR (K := fun s' => s' = e.app o.dst s) (one_of_gives he rfl) fun s' a' w' hR' hs' => by
          subst hs'
          exact ih (L1 ++ L2) _ _ _ _ hlen hrest hR' hG'
theorem draw_sound (hT : TOk P T) (hm : P.follows .mixedOrders = true) {id : Nat} {ops : Array Oper} {Q : Exit → Act → World → Prop} {K : St → Prop} {s : St} {a : Act} {w : World} (hR : Rel w0 I0 s a w) (hQ : ∀ s' a w, Rel w0 I0 s' a w → K s' → Q .normal a w)
    (h : wpD std P T ops.toList ops.toList s [] fun ls s' => chk ops.toList ls = true ∧ K s') : (Code.region id ops true).wp P Q a w := by
  obtain ⟨L, send, hrun, hidx, hchk, hK⟩ := run_of_wpD ops.toList 0 s [] (fun j => by simp) h
  simp only [List.nil_append] at hchk
  unfold chk at hchk
  simp only [Bool.and_eq_true] at hchk
  obtain ⟨⟨⟨c1, _⟩, c3⟩, c4⟩ := hchk
  have hlen : L.length = ops.toList.length := by have := congrArg List.length hidx; simpa using this
  have hE : EdgesOk ops.toList := by
    intro k o ho e he hb
    have h1 := List.all_eq_true.1 c1 (o, k) (by
      rw [List.mem_iff_getElem?]
      exact ⟨k, by rw [List.getElem?_zipIdx, ho]; simp⟩)
    have h2 := List.all_eq_true.1 h1 e he
    simp only [hb, Bool.not_true, Bool.false_or, decide_eq_true_eq] at h2
    exact h2
  have hfst : ∀ (i : Nat) (p : Nat × Lg), L[i]? = some p → p.1 = i := by
    intro i p hp
    have h1 : (L.map (·.1))[i]? = some p.1 := by simp [hp]
    rw [hidx] at h1
    have hi : i < ops.toList.length := by rw [← hlen]; exact (List.getElem?_eq_some_iff.1 hp).1
    rw [List.getElem?_range' (by exact hi)] at h1
    injection h1 with h1
    omega
  have hRd : Rel w0 I0 s a { w with drawn := w.drawn + 1 } := by
    obtain ⟨L, I, hR⟩ := hR
    refine ⟨L, I, ⟨?_, ?_, hR.defers, hR.below.drew, hR.old, hR.only, hR.new⟩⟩
    · have hc : ∀ x y, RelC L I w s.o x y → RelC L I { w with drawn := w.drawn + 1 } s.o x y := by
        intro x y h
        have hK : Keeps [] L I w s.o L I { w with drawn := w.drawn + 1 } s.o := ⟨fun b hb => ⟨hb, rfl⟩, fun k _ hg => ⟨rfl, AO.like_refl _ hg⟩, fun k _ hg b x C e hL hC => ⟨C, hC, rfl⟩⟩
        have := RelC.step hK x y h
        rwa [AC.kill_nil] at this
      have hi : ∀ x y, RelI I w x y → RelI I { w with drawn := w.drawn + 1 } x y := fun x y h => RelI.mono (I := I) (I' := I) (w := w) (w' := { w with drawn := w.drawn + 1 }) (fun b hb => ⟨hb, rfl⟩) x y h
      refine ⟨fun k l hl => ?_, fun k m N sz get hl => ?_, hR.heap.inj, hR.heap.imm⟩
      · obtain ⟨b, C, e, g1, g2, g3, g4, g5⟩ := hR.heap.var k l hl
        exact ⟨b, C, e, g1, g2, g3, g4, fun i x hx => by obtain ⟨u, hu, hr⟩ := g5 i x hx; exact ⟨u, hu, hc _ _ hr⟩⟩
      · rcases hR.heap.arr k m N sz get hl with h | ⟨b, base, C, e, g1, g2, g3, g4, g5⟩
        · exact .inl h
        · exact .inr ⟨b, base, C, e, g1, g2, g3, g4, fun i hi' j hj => by obtain ⟨u, hu, hr⟩ := g5 i hi' j hj; exact ⟨u, hu, hi _ _ hr⟩⟩
    · refine ⟨hR.tmps.1, fun i x hx => ?_⟩
      obtain ⟨u, hu, hr⟩ := hR.tmps.2 i x hx
      refine ⟨u, hu, hr.imp fun x y h => ?_⟩
      have hK : Keeps [] L I w s.o L I { w with drawn := w.drawn + 1 } s.o := ⟨fun b hb => ⟨hb, rfl⟩, fun k _ hg => ⟨rfl, AO.like_refl _ hg⟩, fun k _ hg b x C e hL hC => ⟨C, hC, rfl⟩⟩
      have := RelC.step hK x y h
      rwa [AC.kill_nil] at this
  refine wp_region_any hm ?_
  have hpair : ∀ (i j : Nat) (p q : Nat × Lg), i < j → L[i]? = some p → L[j]? = some q → ((masksL ops.toList []).getD q.1 0).testBit p.1 = true ∨ Ind ops.toList p q := by
    intro i j p q hij hp hq
    have hpi := hfst i p hp
    have hqj := hfst j q hq
    have hj : j < ops.toList.length := by rw [← hlen]; exact (List.getElem?_eq_some_iff.1 hq).1
    have h1 := List.all_eq_true.1 c4 j (by simpa using hj)
    have h2 := List.all_eq_true.1 h1 i (by simpa using hij)
    unfold pairOk at h2
    rw [Bool.or_eq_true] at h2
    rw [hpi, hqj]
    rcases h2 with h2 | h2
    · exact .inl h2
    · rw [Bool.and_eq_true] at h2
      obtain ⟨g1, g2⟩ := h2
      have e1 : (L.map (·.2)).getD i lg0 = p.2 := by simp [List.getD_eq_getElem?_getD, hp]
      have e2 : (L.map (·.2)).getD j lg0 = q.2 := by simp [List.getD_eq_getElem?_getD, hq]
      rw [e1, e2] at g1
      split at g2
      · rename_i oa ob ha hb
        exact .inr ⟨g1, oa, ob, by rw [hpi]; exact ha, by rw [hqj]; exact hb, g2⟩
      · cases g2
  have hsz : ops.size = L.length := by rw [hlen, Array.length_toList]
  have := any_sound (all := ops.toList) hT hE (Q := Q) (send := send) (fun a w hR' => hQ send a w hR' hK) ops.size L (Array.replicate ops.size false) s a _ hsz.symm hrun hRd ⟨by simp, fun i => by
    rw [hidx, List.mem_range']
    simp only [Nat.zero_add, Nat.one_mul, Array.length_toList]
    constructor
    · rintro ⟨k, hk, rfl⟩; exact ⟨hk, by simp [Array.getD_eq_getD_getElem?, hk]⟩
    · rintro ⟨hi, _⟩; exact ⟨i, hi, rfl⟩,
    List.pairwise_iff_getElem.2 (fun i j hi hj hij => hpair i j _ _ hij (List.getElem?_eq_getElem hi) (List.getElem?_eq_getElem hj)),
    List.pairwise_iff_getElem.2 (fun i j hi hj hij => by rw [hfst i _ (List.getElem?_eq_getElem hi), hfst j _ (List.getElem?_eq_getElem hj)]; exact hij),
    fun p hp => List.all_eq_true.1 c3 p.2 (List.mem_map.2 ⟨p, hp, rfl⟩), fun k o hk hl => by
      have : k < ops.size := by have := (List.getElem?_eq_some_iff.1 hk).1; simpa using this
      simp [Array.getD_eq_getD_getElem?, this] at hl⟩
  simpa using this
end
section
variable (A : Prims) (P : Program) (T : TT)
def wp : Code → St → (Exit → St → Prop) → Prop
  | .skip, s, K => K .normal s
  | .region _ ops false, s, K => wpOps A P T ops.toList ops.toList s (K .normal)
  | .region _ ops true, s, K => wpD A P T ops.toList ops.toList s [] fun ls s' => chk ops.toList ls = true ∧ K .normal s'
  | .seq a b, s, K => wp a s fun e s' => match e with | .normal => wp b s' K | e => K e s'
  | .cond c t e, s, K => match boolOf (ev s c) with
    | some b => (b = true → wp t (setB s c true) K) ∧ (b = false → wp e (setB s c false) K)
    | none => False
  | .block id b, s, K => wp b s fun e s' => match e with | .exit i => if i = id then K .normal s' else K (.exit i) s' | e => K e s'
  | .loop b, s, K => ∃ s' n, s.le s' ∧ iter (wp b) n s' K
  | .exit i, s, K => K (.exit i) s
  | .ret, s, K => K .ret s
  | _, _, _ => False
end
section
variable {P : Program} {T : TT} {w0 w w' : World} {I0 I I' : Nat → Prop} {L L' : Nat → Option (Nat × Nat)} {s : St} {a : Act} {o : Oper} {ob o' : Nat → AO}

theorem code_sound (hT : TOk P T) (hm : P.follows .mixedOrders = true) : ∀ (c : Code) (s : St) (a : Act) (w : World) (K : Exit → St → Prop) (Q : Exit → Act → World → Prop), Rel w0 I0 s a w → AM.wp std P T c s K → (∀ e s' a' w', Rel w0 I0 s' a' w' → K e s' → Q e a' w') → c.wp P Q a w := by
  intro c
  induction c with
  | skip => intro s a w K Q hR h hQ; exact wp_skip (hQ _ _ _ _ hR h)
  | region id ops draw =>
    intro s a w K Q hR h hQ
    cases draw with
    | false =>
      refine wp_region ?_
      rw [List.range_eq_range', ← Array.length_toList]
      exact ops_sound hT (fun s' a' w' hR' hK => hQ _ _ _ _ hR' hK) ops.toList 0 s a w (fun j => by simp) hR h
    | true => exact draw_sound hT hm hR (fun s' a w hR' hK => hQ _ _ _ _ hR' hK) h
  | seq x y hx hy =>
    intro s a w K Q hR h hQ
    refine wp_seq (hx s a w _ _ hR h fun e s' a' w' hR' hK => ?_)
    cases e with
    | normal => exact hy s' a' w' K Q hR' hK hQ
    | _ => exact hQ _ _ _ _ hR' hK
  | cond c x y hx hy =>
    intro s a w K Q hR h hQ
    simp only [AM.wp] at h
    split at h
    · rename_i b hb
      obtain ⟨hv, hR'⟩ := setB_rel hR hb
      cases b with
      | true => exact wp_cond_true hv (hx _ _ _ K Q hR' (h.1 rfl) hQ)
      | false => exact wp_cond_false hv (hy _ _ _ K Q hR' (h.2 rfl) hQ)
    · exact h.elim
  | block id x hx =>
    intro s a w K Q hR h hQ
    refine wp_block (hx s a w _ _ hR h fun e s' a' w' hR' hK => ?_)
    cases e with
    | exit i =>
      simp only [Exit.inBlock]
      simp only at hK
      split
      · rename_i hi; rw [if_pos hi] at hK; exact hQ _ _ _ _ hR' hK
      · rename_i hi; rw [if_neg hi] at hK; exact hQ _ _ _ _ hR' hK
    | _ => exact hQ _ _ _ _ hR' hK
  | loop x hx =>
    intro s a w K Q hR h hQ
    obtain ⟨s', n, hle, h⟩ := h
    refine wp_loop_rounds n ?_
    have hR' := hle _ _ _ _ hR
    clear hR hle
    revert s' a w
    induction n with
    | zero => intro a w s' h; exact h.elim
    | succ n ih =>
      intro a w s' h hR'
      rw [rounds_succ]
      refine hx s' a w _ _ hR' h fun e s'' a' w' hR'' hK => ?_
      cases e with
      | normal =>
        obtain ⟨s3, hle, h3⟩ := hK
        exact ih a' w' s3 h3 (hle _ _ _ _ hR'')
      | _ => exact hQ _ _ _ _ hR'' hK
  | exit i => intro s a w K Q hR h hQ; exact wp_exit (hQ _ _ _ _ hR h)
  | ret => intro s a w K Q hR h hQ; exact wp_ret (hQ _ _ _ _ hR h)
  | _ => intro s a w K Q hR h hQ; exact h.elim

/-- what a result variable holds at the end -/
def resOne (s : St) (T : TT) : ResultVar → Option AV
  | .tmp t => lend s.o (s.t.getD t (.tup []))
  | .cell t ty => match (T ty), s.t.getD t (.tup []) with
    | some d, .c (.ptr k off) => match s.o k with
      | .var l => if off + d.size ≤ l.length ∧ 0 < d.size then lend s.o (takeC d l off) else none
      | _ => none
    | _, _ => none
def resAll (s : St) (T : TT) : List ResultVar → Option (List AV)
  | [] => some []
  | x :: r => match resOne s T x, resAll s T r with
    | some (.c y), some q => some (.c y :: q)
    | some (.agg y), some q => some (.agg y :: q)
    | _, _ => none
def resOf (s : St) (T : TT) (l : List ResultVar) : Option AV :=
  match l with
  | [x] => resOne s T x
  | l => match resAll s T l with | some q => some (.tup q) | none => none
/-- the end of a function: it returns r -/
def endsIn (T : TT) (rs : List ResultVar) (r : AV) : Exit → St → Prop
  | .normal, s | .ret, s => match resOf s T rs with | some x => x.le r | none => False
  | _, _ => False
def startSt (n : Nat) (args : List AV) : St := ⟨args ++ List.replicate (n - args.length) (.tup []), fun _ => .gone⟩

theorem lendV_rel {ks : Nat → Prop} (hH : HRel L I w ob) {x z : AV} {y : Value} (h : RelV (RelC L I w ob) x y) (hz : lend ob x = some z) (hk : ∀ k, ks k) : RelV (RelI (lentI L I ob ks) w) z y := by
  cases x with
  | c x => exact lend1_rel hH h hz (fun k _ => hk k)
  | agg l => exact lend1_rel (x := .agg l) hH h hz (fun k _ => hk k)
  | tup l =>
    simp only [lend] at hz
    split at hz
    · rename_i q hq
      injection hz with hz; subst hz
      obtain ⟨ys, rfl, hs, hc⟩ := h
      have hone : ∀ (x : AV) (y : Value), Rel1 (RelI (lentI L I ob ks) w) x y → True := fun _ _ _ => trivial
      obtain ⟨g1, g2⟩ := lendAll_rel (ks := ks) hH l q ys.toList hq (fun _ _ k _ => hk k) (by simpa using hs) (fun i x hx => by
        obtain ⟨u, hu, hr⟩ := hc i x hx
        exact ⟨u, by rw [Array.getElem?_toList]; exact hu, hr.toV⟩)
      refine ⟨ys, rfl, by rw [hs, g1], fun i x hx => ?_⟩
      obtain ⟨u, hu, hr⟩ := g2 i x hx
      refine ⟨u, by rwa [Array.getElem?_toList] at hu, ?_⟩
      -- a lent value is no tuple
      have hnt : ∀ (l q : List AV), lendAll ob l = some q → ∀ (i : Nat) l', q[i]? = some (.tup l') → False := by
        intro l
        induction l with
        | nil => intro q h i l' hi; simp [lendAll] at h; subst h; simp at hi
        | cons x r ih =>
          intro q h i l' hi
          unfold lendAll at h
          split at h
          · rename_i y q' hy hq'
            injection h with h; subst h
            cases i with
            | zero =>
              simp at hi
              subst hi
              cases x with
              | c x => simp only [lend1] at hy; split at hy <;> cases hy
              | agg l => simp only [lend1] at hy; split at hy <;> cases hy
              | tup l => cases hy
              | any => cases hy
            | succ i => exact ih q' hq' i l' (by simpa using hi)
          · cases h
      have hna : ∀ (l q : List AV), lendAll ob l = some q → ∀ (i : Nat), q[i]? = some .any → False := by
        intro l
        induction l with
        | nil => intro q h i hi; simp [lendAll] at h; subst h; simp at hi
        | cons x r ih =>
          intro q h i hi
          unfold lendAll at h
          split at h
          · rename_i y q' hy hq'
            injection h with h; subst h
            cases i with
            | zero =>
              simp at hi
              subst hi
              cases x with
              | c x => simp only [lend1] at hy; split at hy <;> cases hy
              | agg l => simp only [lend1] at hy; split at hy <;> cases hy
              | tup l => cases hy
              | any => cases hy
            | succ i => exact ih q' hq' i (by simpa using hi)
          · cases h
      cases x with
      | c x => exact hr
      | agg l => exact hr
      | tup l' => exact (hnt l q hq i l' hx).elim
      | any => exact (hna l q hq i hx).elim
    · cases hz
  | any => trivial
def runRes (fn : Func) (tmps : Array Value) : ResultVar → Sem Value
  | .tmp t => pure (tmps.getD t undef)
  | .cell a t => do loadVar t (← asAddr (tmps.getD a undef))
theorem resOne_sound (hT : TOk P T) (hR : RelL w0 I0 L I s a w) {fn : Func} {x : ResultVar} {z : AV} (h : resOne s T x = some z) :
    ∃ y, (runRes fn a.tmps x).run P w = .ok y w ∧ RelV (RelI (lentI L I s.o fun _ => True) w) z y := by
  cases x with
  | tmp t =>
    refine ⟨_, rfl, lendV_rel hR.heap ?_ h (fun _ => trivial)⟩
    exact ev_rel hR.tmps (.tmp t)
  | cell t ty =>
    simp only [resOne] at h
    have hev := ev_rel hR.tmps (.tmp t)
    simp only [ev, Act.eval] at hev
    split at h
    · rename_i d k off hd hq
      rw [hq] at hev
      split at h
      · rename_i l hl
        split at h
        · rename_i hb
          obtain ⟨l', b, h2, h3, hy⟩ := hev
          rw [hl] at h2; injection h2 with h2; subst h2
          obtain ⟨b', C, e, h4, h5, h6, h7, h8⟩ := hR.heap.var k l hl
          rw [h3] at h4; injection h4 with h4; injection h4 with h4; subst h4
          obtain ⟨hb1, hb2⟩ := hb
          obtain ⟨f, hf⟩ := choose_cells (R := RelC L I w s.o) (n := d.size) (g := fun j => l.getD (off + j) .junk) (c := fun j => w.cell? ⟨b, off + j, none⟩) (fun j hj => by
            have hlt : off + j < l.length := by omega
            obtain ⟨u, hu, hr⟩ := h8 (off + j) l[off + j] (by simp [hlt])
            refine ⟨u, by rw [cell_of h6]; exact hu, ?_⟩
            simp only [List.getD_eq_getElem?_getD, List.getElem?_eq_getElem hlt, Option.getD_some]
            exact hr)
          have hrun := run_loadVar_cells (w := w) hT hd hb2 b off f fun j hj => (hf j hj).1
          have hrel := fnC_rel (R := RelC L I w s.o) (d := d) hb2 fun j hj => (hf j hj).2
          refine ⟨if aggB d.und = true then .agg ((List.range d.size).map f).toArray else f 0, ?_, lendV_rel hR.heap ?_ h (fun _ => trivial)⟩
          · simp only [runRes, hy]
            simp [asAddr, hrun]
          · have e1 : takeC d l off = fnC d fun j => l.getD (off + j) .junk := by
              unfold takeC fnC
              split
              · congr 1
                apply List.ext_getElem?
                intro i
                rw [List.getElem?_take, List.getElem?_map]
                by_cases hi : i < d.size
                · rw [if_pos hi, List.getElem?_drop, List.getElem?_range hi]
                  simp [List.getD_eq_getElem?_getD, List.getElem?_eq_getElem (show off + i < l.length by omega)]
                · rw [if_neg hi, List.getElem?_eq_none (by simp; omega)]
                  rfl
              · rfl
            rw [e1]
            exact hrel
        · cases h
      · cases h
    · cases h
theorem resAll_sound (hT : TOk P T) (hR : RelL w0 I0 L I s a w) {fn : Func} : ∀ (l : List ResultVar) (q : List AV), resAll s T l = some q →
    ∃ vs : List Value, (l.mapM (runRes fn a.tmps)).run P w = .ok vs w ∧ vs.length = q.length ∧ ∀ (i : Nat) x, q[i]? = some x → ∃ u, vs[i]? = some u ∧ Rel1 (RelI (lentI L I s.o fun _ => True) w) x u
  | [], q, h => by
    simp [resAll] at h
    subst h
    exact ⟨[], rfl, rfl, fun i x hx => by simp at hx⟩
  | x :: r, q, h => by
    unfold resAll at h
    have key : ∀ (y : AV) (q' : List AV), resOne s T x = some y → resAll s T r = some q' → (∀ v, RelV (RelI (lentI L I s.o fun _ => True) w) y v → Rel1 (RelI (lentI L I s.o fun _ => True) w) y v) → q = y :: q' →
        ∃ vs : List Value, ((x :: r).mapM (runRes fn a.tmps)).run P w = .ok vs w ∧ vs.length = q.length ∧ ∀ (i : Nat) x, q[i]? = some x → ∃ u, vs[i]? = some u ∧ Rel1 (RelI (lentI L I s.o fun _ => True) w) x u := by
      intro y q' hy hq h1 hqq
      subst hqq
      obtain ⟨v, hv, hr⟩ := resOne_sound (fn := fn) hT hR hy
      obtain ⟨vs, g1, g2, g3⟩ := resAll_sound hT hR (fn := fn) r q' hq
      refine ⟨v :: vs, by rw [List.mapM_cons]; simp [hv, g1], by simp [g2], fun i x hx => ?_⟩
      cases i with
      | zero => simp at hx; subst hx; exact ⟨v, rfl, h1 v hr⟩
      | succ i => obtain ⟨u, hu, hr⟩ := g3 i x (by simpa using hx); exact ⟨u, by simpa using hu, hr⟩
    split at h
    · rename_i y q' hy hq
      injection h with h
      exact key _ _ hy hq (fun v h => h) h.symm
    · rename_i y q' hy hq
      injection h with h
      exact key _ _ hy hq (fun v h => h) h.symm
    · cases h
theorem results_run {fn : Func} {tm : Array Value} {vs : List Value} (h : (fn.results.toList.mapM (runRes fn tm)).run P w = .ok vs w) : (results fn tm).run P w = .ok (if h : vs.length = 1 then vs[0] else .tuple vs.toArray) w := by
  have e0 : results fn tm = (do let vs ← fn.results.mapM (runRes fn tm); pure (if h : vs.size = 1 then vs[0] else .tuple vs)) := by
    unfold results
    congr 2
  have e : (fn.results.mapM (runRes fn tm)).run P w = .ok vs.toArray w := by
    rw [Array.mapM_eq_mapM_toList]
    simp [h]
  rw [e0]
  simp only [Sem.run_bind, e, Result.andThen_ok, Sem.run_pure]
  congr 1
/-- the code does this from every world that reads as s: the triple that can be cut at a statement's end -/
def Wp (P : Program) (c : Code) (s : St) (K : Exit → St → Prop) : Prop := ∀ (w0 : World) (I0 : Nat → Prop) (a : Act) (w : World) (Q : Exit → Act → World → Prop), Rel w0 I0 s a w → (∀ e s' a' w', Rel w0 I0 s' a' w' → K e s' → Q e a' w') → c.wp P Q a w
theorem Wp.of (hT : TOk P T) (hm : P.follows .mixedOrders = true) {c : Code} {s : St} {K : Exit → St → Prop} (h : AM.wp std P T c s K) : Wp P c s K :=
  fun _ _ a w Q hR hQ => code_sound hT hm c s a w K Q hR h hQ
theorem Wp.seq {σ : Type} (S : σ → St) (inv : σ → Prop) {x y : Code} {s : St} {K : Exit → St → Prop} (h1 : Wp P x s fun e s' => match e with | .normal => ∃ z, inv z ∧ s'.le (S z) | e => K e s')
    (h2 : ∀ z, inv z → Wp P y (S z) K) : Wp P (x.seq y) s K := by
  intro w0 I0 a w Q hR hQ
  refine wp_seq (h1 w0 I0 a w _ hR fun e s' a' w' hR' hK => ?_)
  cases e with
  | normal =>
    obtain ⟨z, hz, hle⟩ := hK
    exact h2 z hz w0 I0 a' w' Q (hle _ _ _ _ hR') hQ
  | _ => exact hQ _ _ _ _ hR' hK
theorem Wp.weak {c : Code} {s : St} (S : St) {K : Exit → St → Prop} (hle : s.le S) (h : Wp P c S K) : Wp P c s K :=
  fun w0 I0 a w Q hR hQ => h w0 I0 a w Q (hle _ _ _ _ hR) hQ
/-- **a function whose code, evaluated on these arguments, ends in r, returns r** -/
theorem Fun.of_Wp (hT : TOk P T) {f : FuncId} {fn : Func} {c : Code} (hf : P.funcs[f]? = some fn) (hname : (fn.name == "runtime.NumGoroutine") = false) (hb : fn.body = some c) {n : Nat} (hn : fn.ntmps = n) {rs : List ResultVar} (hrs : fn.results.toList = rs) {args : List AV} {r : AV}
    (h : Wp P c (startSt n args) (endsIn T rs r)) : Fun P f args r := by
  subst hn
  subst hrs
  refine ⟨⟨fn, hf, hname, by rw [hb]; rfl⟩, fun vals w I himm hargs => ?_⟩
  refine calls_of_wp hf hb ?_
  have hR : Rel w I (startSt fn.ntmps args) { tmps := vals ++ Array.replicate (fn.ntmps - vals.size) undef, defers := [] } w := by
    refine ⟨fun _ => none, I, ⟨⟨fun k l h => (by cases h), fun k m N sz get h => (by cases h), fun k k' b x x' hk => (by exact absurd rfl hk), himm⟩, ?_, rfl, Below.refl _ _, fun b hb => hb, fun b hb _ => hb, fun k b x hk => absurd rfl hk⟩⟩
    refine ⟨by simp [startSt, hargs.1], fun i x hx => ?_⟩
    simp only [startSt] at hx
    rw [List.getElem?_append] at hx
    rw [Array.getElem?_append]
    split at hx
    · rename_i hi
      rw [if_pos (by rw [hargs.1]; exact hi)]
      obtain ⟨u, hu, hr⟩ := hargs.2 i x hx
      exact ⟨u, hu, hr.imp fun x y h => h.toC⟩
    · rename_i hi
      rw [if_neg (by rw [hargs.1]; exact hi)]
      rw [List.getElem?_replicate] at hx
      split at hx
      · rename_i hlt
        injection hx with hx; subst hx
        exact ⟨undef, by rw [hargs.1]; simp [hlt], #[], rfl, rfl, fun i x hx => by simp at hx⟩
      · cases hx
  refine h _ _ _ w _ hR fun e s' a' w' hR' hK => ?_
  have key : (match resOf s' T fn.results.toList with | some x => x.le r | none => False) → a'.defers = [] ∧ ∃ v, (results fn a'.tmps).run P w' = .ok v w' ∧ ∃ v_1 I', (Ending.returned v) = .returned v_1 ∧ (∀ b, I b → I' b) ∧ (∀ b, I' b → b < w'.heap.size ∧ (b < w.heap.size → I b)) ∧ RelV (RelI I' w') r v_1 ∧ Below w.heap.size w w' := by
    intro hK
    obtain ⟨L, J, hR'⟩ := hR'
    refine ⟨hR'.defers, ?_⟩
    have hJ1 : ∀ b, I b → lentI L J s'.o (fun _ => True) b := fun b hb => .inl (hR'.old b hb)
    have hJ2 : ∀ b, lentI L J s'.o (fun _ => True) b → b < w'.heap.size ∧ (b < w.heap.size → I b) := by
      rintro b (hb | ⟨k, _, base, m, N, sz, get, hk, hL⟩)
      · exact ⟨hR'.heap.imm b hb, hR'.only b hb⟩
      · refine ⟨(hR'.heap.lt (by rw [hk]; simp) hL).1, fun hlt => ?_⟩
        have := hR'.new k b base (by rw [hk]; simp) hL
        omega
    split at hK
    · rename_i x hx
      have hres : ∃ v, (results fn a'.tmps).run P w' = .ok v w' ∧ RelV (RelI (lentI L J s'.o fun _ => True) w') x v := by
        unfold resOf at hx
        split at hx
        · rename_i q hq
          obtain ⟨y, hy, hr⟩ := resOne_sound (fn := fn) hT hR' hx
          refine ⟨y, ?_, hr⟩
          have := results_run (P := P) (w := w') (fn := fn) (tm := a'.tmps) (vs := [y]) (by rw [hq, List.mapM_cons]; simp [hy])
          simpa using this
        · rename_i l hl
          split at hx
          · rename_i q hq
            injection hx with hx; subst hx
            obtain ⟨vs, h1, h2, h3⟩ := resAll_sound (fn := fn) hT hR' _ _ hq
            have hne : vs.length ≠ 1 := by
              intro h
              have hlen : ∀ (l : List ResultVar) (q : List AV), resAll s' T l = some q → q.length = l.length := by
                intro l
                induction l with
                | nil => intro q h; simp [resAll] at h; subst h; rfl
                | cons x r ih =>
                  intro q h
                  unfold resAll at h
                  split at h
                  · rename_i y q' hy hq'
                    injection h with h; subst h
                    simp [ih _ hq']
                  · rename_i y q' hy hq'
                    injection h with h; subst h
                    simp [ih _ hq']
                  · cases h
              have := hlen _ _ hq
              rw [h2] at h
              rw [h] at this
              match hfr : fn.results.toList, this with
              | [x], _ => exact hl x hfr
            refine ⟨.tuple vs.toArray, ?_, vs.toArray, rfl, by simp [h2], fun i x hx => ?_⟩
            · have := results_run (P := P) (w := w') (fn := fn) (tm := a'.tmps) h1
              simpa [hne] using this
            · obtain ⟨u, hu, hr⟩ := h3 i x hx
              exact ⟨u, by simpa using hu, hr⟩
          · cases hx
      obtain ⟨v, hv, hr⟩ := hres
      exact ⟨v, hv, v, _, rfl, hJ1, hJ2, hK _ _ _ hr, hR'.below⟩
    · exact hK.elim
  cases e with
  | normal => exact key hK
  | ret => exact key hK
  | _ => exact hK.elim
theorem Fun.of_wp (hT : TOk P T) (hm : P.follows .mixedOrders = true) {f : FuncId} {fn : Func} {c : Code} (hf : P.funcs[f]? = some fn) (hname : (fn.name == "runtime.NumGoroutine") = false) (hb : fn.body = some c) {n : Nat} (hn : fn.ntmps = n) {rs : List ResultVar} (hrs : fn.results.toList = rs) {args : List AV} {r : AV}
    (h : AM.wp std P T c (startSt n args) (endsIn T rs r)) : Fun P f args r := Fun.of_Wp hT hf hname hb hn hrs (Wp.of hT hm h)
end
def lookT (l : List (Nat × AV)) (i : Nat) : AV := match l with | [] => .any | (j, x) :: r => if i = j then x else lookT r i
def lookO (l : List (Nat × AO)) (k : Nat) : AO := match l with | [] => .gone | (j, x) :: r => if k = j then x else lookO r k
/-- a state of n temporaries of which only those of l are known, and the objects of os -/
def sparse (n : Nat) (l : List (Nat × AV)) (os : List (Nat × AO)) : St := ⟨(List.range n).map (lookT l), lookO os⟩
def Ole : AO → AO → Prop
  | .var l, .var l' => l = l'
  | .arr m n sz g, .arr m' n' sz' g' => (m' = true → m = true) ∧ n = n' ∧ sz = sz' ∧ ∀ i, i < n → ∀ j, j < sz → g i j = g' i j
  | _, _ => False
theorem Ole.refl (x : AO) (h : x ≠ .gone) : Ole x x := by cases x <;> simp_all [Ole]
def allLe (s : St) : List (Nat × AV) → Prop
  | [] => True
  | (i, x) :: r => s.t[i]? = some x ∧ allLe s r
def allOle (s : St) : List (Nat × AO) → Prop
  | [] => True
  | (k, x) :: r => Ole (s.o k) x ∧ allOle s r
def refsIn (l : List (Nat × AV)) (os : List (Nat × AO)) : Bool :=
  (l.all fun p => p.2.refs.all fun k => (os.map (·.1)).contains k) && os.all fun p => (deepO p.2).all fun k => (os.map (·.1)).contains k
section
variable {s : St} {n : Nat} {l : List (Nat × AV)} {os : List (Nat × AO)}
theorem allLe_get : ∀ (l : List (Nat × AV)), allLe s l → ∀ i x, lookT l i = x → x = .any ∨ (s.t[i]? = some x ∧ (i, x) ∈ l)
  | [], _, i, x, h => .inl h.symm
  | (j, y) :: r, hl, i, x, h => by
    unfold lookT at h
    split at h
    · rename_i hij; subst hij; subst h; exact .inr ⟨hl.1, by simp⟩
    · rcases allLe_get r hl.2 i x h with h1 | ⟨h1, h2⟩
      · exact .inl h1
      · exact .inr ⟨h1, by simp [h2]⟩
theorem allOle_get : ∀ (os : List (Nat × AO)), allOle s os → ∀ k x, lookO os k = x → x = .gone ∨ (Ole (s.o k) x ∧ (k, x) ∈ os)
  | [], _, k, x, h => .inl h.symm
  | (j, y) :: r, hl, k, x, h => by
    unfold lookO at h
    split at h
    · rename_i hij; subst hij; subst h; exact .inr ⟨hl.1, by simp⟩
    · rcases allOle_get r hl.2 k x h with h1 | ⟨h1, h2⟩
      · exact .inl h1
      · exact .inr ⟨h1, by simp [h2]⟩
theorem lookO_live : ∀ (os : List (Nat × AO)), allOle s os → ∀ k, k ∈ os.map (·.1) → lookO os k ≠ .gone ∧ Ole (s.o k) (lookO os k)
  | [], _, k, h => by simp at h
  | (j, y) :: r, hl, k, h => by
    unfold lookO
    split
    · rename_i hij
      subst hij
      refine ⟨?_, hl.1⟩
      rintro rfl
      have := hl.1
      unfold Ole at this
      split at this <;> first | (rename_i h1 h2; cases h2) | exact this.elim
    · rename_i hij
      refine lookO_live r hl.2 k ?_
      rw [List.map_cons, List.mem_cons] at h
      exact h.resolve_left hij
theorem le_sparse (hn : s.t.length = n) (ht : allLe s l) (ho : allOle s os) (hr : refsIn l os = true) : s.le (sparse n l os) := by
  intro w0 I0 a w ⟨L, I, h⟩
  unfold refsIn at hr
  rw [Bool.and_eq_true] at hr
  have hlive : ∀ k, k ∈ os.map (·.1) → s.o k ≠ .gone ∧ lookO os k ≠ .gone ∧ Ole (s.o k) (lookO os k) := by
    intro k hk
    obtain ⟨h1, h2⟩ := lookO_live os ho k hk
    refine ⟨fun hg => ?_, h1, h2⟩
    rw [hg] at h2
    unfold Ole at h2
    split at h2 <;> first | (rename_i h1 h2; cases h1) | exact h2.elim
  have hC : ∀ (x : AC) (y : Value), (∀ k ∈ x.ref, k ∈ os.map (·.1)) → RelC L I w s.o x y → RelC L I w (lookO os) x y := by
    intro x y hx hrel
    cases x with
    | os k off n =>
      obtain ⟨h1, h2, h3⟩ := hlive k (hx k (by simp [AC.ref]))
      obtain ⟨m, N, sz, get, hk, hh⟩ := hrel
      rw [hk] at h3
      cases hk' : lookO os k with
      | gone => exact (h2 hk').elim
      | var l => rw [hk'] at h3; exact h3.elim
      | arr m' N' sz' get' =>
        rw [hk'] at h3
        obtain ⟨_, rfl, rfl, _⟩ := h3
        exact ⟨m', N, sz, get', hk', hh⟩
    | ptr k off =>
      obtain ⟨h1, h2, h3⟩ := hlive k (hx k (by simp [AC.ref]))
      obtain ⟨l', b, hk, hL, hy⟩ := hrel
      rw [hk] at h3
      cases hk' : lookO os k with
      | gone => exact (h2 hk').elim
      | var l => exact ⟨l, b, hk', hL, hy⟩
      | arr m' N' sz' get' => rw [hk'] at h3; exact h3.elim
    | ep k i j =>
      obtain ⟨h1, h2, h3⟩ := hlive k (hx k (by simp [AC.ref]))
      obtain ⟨m, N, sz, get, b, base, hk, hL, hy⟩ := hrel
      rw [hk] at h3
      cases hk' : lookO os k with
      | gone => exact (h2 hk').elim
      | var l => rw [hk'] at h3; exact h3.elim
      | arr m' N' sz' get' =>
        rw [hk'] at h3
        obtain ⟨_, rfl, rfl, _⟩ := h3
        exact ⟨m', N, sz, get', b, base, hk', hL, hy⟩
    | v x => exact hrel
    | bs n sz g => exact hrel
    | bp n g => exact hrel
    | fn f n g => exact hrel
    | junk => exact hrel
  have h1 : ∀ (x : AV) (y : Value), (∀ k ∈ x.refs1, k ∈ os.map (·.1)) → Rel1 (RelC L I w s.o) x y → Rel1 (RelC L I w (lookO os)) x y := by
    intro x y hx hrel
    cases x with
    | c x => exact hC x y hx hrel
    | agg l =>
      obtain ⟨ys, rfl, hs, hc⟩ := hrel
      refine ⟨ys, rfl, hs, fun i x hi => ?_⟩
      obtain ⟨u, hu, hr⟩ := hc i x hi
      exact ⟨u, hu, hC x u (fun k hk => hx k (List.mem_flatMap.2 ⟨x, List.mem_of_getElem? hi, hk⟩)) hr⟩
    | tup l => exact hrel.elim
    | any => exact hrel.elim
  have hV : ∀ (x : AV) (y : Value), (∀ k ∈ x.refs, k ∈ os.map (·.1)) → RelV (RelC L I w s.o) x y → RelV (RelC L I w (lookO os)) x y := by
    intro x y hx hrel
    cases x with
    | c x => exact h1 (.c x) y hx hrel
    | agg l => exact h1 (.agg l) y hx hrel
    | tup l =>
      obtain ⟨ys, rfl, hs, hc⟩ := hrel
      refine ⟨ys, rfl, hs, fun i x hi => ?_⟩
      obtain ⟨u, hu, hr⟩ := hc i x hi
      exact ⟨u, hu, h1 x u (fun k hk => hx k (by simp only [AV.refs, List.mem_flatMap]; exact ⟨x, List.mem_of_getElem? hi, hk⟩)) hr⟩
    | any => trivial
  refine ⟨L, I, ⟨⟨fun k l' hk => ?_, fun k m N sz get hk => ?_, fun k k' b x x' hk hk' g1 g2 => ?_, h.heap.imm⟩, ⟨by simp [sparse, h.tmps.1, hn], fun i x hx => ?_⟩, h.defers, h.below, h.old, h.only, fun k b x hk hL => ?_⟩⟩
  · rcases allOle_get os ho k _ hk with hg | ⟨hle, hmem⟩
    · cases hg
    · cases hsk : s.o k with
      | gone => rw [hsk] at hle; exact hle.elim
      | arr m N sz g => rw [hsk] at hle; exact hle.elim
      | var l0 =>
        rw [hsk] at hle
        simp only [Ole] at hle
        subst hle
        obtain ⟨b, C, e, g1, g2, g3, g4, g5⟩ := h.heap.var k l0 hsk
        refine ⟨b, C, e, g1, g2, g3, g4, fun i x hx => ?_⟩
        obtain ⟨u, hu, hr'⟩ := g5 i x hx
        refine ⟨u, hu, hC x u (fun q hq => ?_) hr'⟩
        have h5 := List.all_eq_true.1 hr.2 (k, .var l0) hmem
        have h6 := List.all_eq_true.1 h5 q (List.mem_flatMap.2 ⟨x, List.mem_of_getElem? hx, hq⟩)
        simpa using h6
  · rcases allOle_get os ho k _ hk with hg | ⟨hle, hmem⟩
    · cases hg
    · cases hsk : s.o k with
      | gone => rw [hsk] at hle; exact hle.elim
      | var l => rw [hsk] at hle; exact hle.elim
      | arr m0 N0 sz0 g0 =>
        rw [hsk] at hle
        obtain ⟨hm, rfl, rfl, hg⟩ := hle
        rcases h.heap.arr k m0 N0 sz0 g0 hsk with g1 | ⟨b, base, C, e, g1, g2, g3, g4, g5⟩
        · exact .inl g1
        · refine .inr ⟨b, base, C, e, g1, fun h => g2 (hm h), g3, g4, fun i hi j hj => ?_⟩
          obtain ⟨u, hu, hr'⟩ := g5 i hi j hj
          exact ⟨u, hu, by rw [← hg i hi j hj]; exact hr'⟩
  · have ha : ∀ k, lookO os k ≠ .gone → s.o k ≠ .gone := by
      intro k hk
      rcases allOle_get os ho k _ rfl with hg | ⟨hle, hmem⟩
      · exact (hk hg).elim
      · intro hg; rw [hg] at hle; unfold Ole at hle; split at hle <;> first | (rename_i h1 h2; cases h1) | exact hle.elim
    exact h.heap.inj k k' b x x' (ha k hk) (ha k' hk') g1 g2
  · simp only [sparse, List.getElem?_map, Option.map_eq_some_iff] at hx
    obtain ⟨j, hj, hx⟩ := hx
    have hi : i < n := by
      have := (List.getElem?_eq_some_iff.1 hj).1
      simpa using this
    rw [List.getElem?_range hi] at hj
    injection hj with hj; subst hj
    rcases allLe_get l ht i x hx with rfl | ⟨g1, g2⟩
    · have : i < a.tmps.size := by rw [h.tmps.1, hn]; exact hi
      exact ⟨a.tmps[i], by simp [this], trivial⟩
    · obtain ⟨u, hu, hr'⟩ := h.tmps.2 i x g1
      refine ⟨u, hu, hV x u (fun k hk => ?_) hr'⟩
      have h5 := List.all_eq_true.1 hr.1 (i, x) g2
      have h6 := List.all_eq_true.1 h5 k hk
      simpa using h6
  · have ha : s.o k ≠ .gone := by
      rcases allOle_get os ho k _ rfl with hg | ⟨hle, hmem⟩
      · exact (hk hg).elim
      · intro hg; rw [hg] at hle; unfold Ole at hle; split at hle <;> first | (rename_i h1 h2; cases h1) | exact hle.elim
    exact h.new k b x ha hL
theorem St.le_trans {a b c : St} (h : a.le b) (h' : b.le c) : a.le c := fun _ _ _ _ hr => h' _ _ _ _ (h _ _ _ _ hr)
/-- a loop that counts up to n -/
theorem iter_up {f : St → (Exit → St → Prop) → Prop} {K : Exit → St → Prop} (S : Nat → St) (n : Nat)
    (hstep : ∀ k, k < n → ∀ Kn : St → Prop, (∀ s', s'.le (S (k + 1)) → Kn s') → f (S k) fun e s' => match e with | .normal => Kn s' | e => K e s')
    (hend : ∀ Kn : St → Prop, f (S n) fun e s' => match e with | .normal => Kn s' | e => K e s') : ∀ m k, k + m = n → iter f (m + 1) (S k) K
  | 0, k, h => by
    have : k = n := by omega
    subst this
    exact hend _
  | m + 1, k, h => hstep k (by omega) _ fun s' hs' => ⟨S (k + 1), hs', iter_up S n hstep hend m (k + 1) (by omega)⟩
/-- a loop whose measure goes down -/
theorem iter_down {σ : Type} {f : St → (Exit → St → Prop) → Prop} {K : Exit → St → Prop} (S : σ → St) (μ : σ → Nat) (inv : σ → Prop)
    (h : ∀ x, inv x → ∀ Kn : St → Prop, (∀ y s', inv y → μ y < μ x → s'.le (S y) → Kn s') → f (S x) fun e s' => match e with | .normal => Kn s' | e => K e s') : ∀ m x, inv x → μ x < m → iter f m (S x) K
  | 0, x, _, hx => absurd hx (by omega)
  | m + 1, x, hi, hx => h x hi _ fun y s' hy hlt hs' => ⟨S y, hs', iter_down S μ inv h m y hy (by omega)⟩
/-- a loop whose measure goes down, entered at x -/
theorem loop_at {σ : Type} {f : St → (Exit → St → Prop) → Prop} {K : Exit → St → Prop} {s : St} (S : σ → St) (μ : σ → Nat) (inv : σ → Prop) (x : σ) (hle : s.le (S x)) (hi : inv x)
    (h : ∀ x, inv x → ∀ Kn : St → Prop, (∀ y s', inv y → μ y < μ x → s'.le (S y) → Kn s') → f (S x) fun e s' => match e with | .normal => Kn s' | e => K e s') : ∃ s' m, s.le s' ∧ iter f m s' K :=
  ⟨S x, μ x + 1, hle, iter_down S μ inv h (μ x + 1) x hi (by omega)⟩
theorem AV.le_of_eq {x y : AV} (h : x = y) : x.le y := h ▸ AV.le_refl x
theorem les_refl : ∀ (l : List AV), AV.les l l
  | [] => trivial
  | x :: r => ⟨AV.le_refl x, les_refl r⟩
theorem AV.le_bs {n sz : Nat} {g g' : Nat → Nat → AC} (h : ∀ i, i < n → ∀ j, j < sz → g i j = g' i j) : (AV.c (.bs n sz g)).le (.c (.bs n sz g')) := by
  intro I w v hv
  obtain ⟨a, cap, rfl, hnc, hc⟩ := hv
  refine ⟨a, cap, rfl, hnc, fun hn => ?_⟩
  obtain ⟨b, off, ha, hb, hcell⟩ := hc hn
  refine ⟨b, off, ha, hb, fun i hi j hj => ?_⟩
  obtain ⟨u, hu, hr⟩ := hcell i hi j hj
  exact ⟨u, hu, by rw [← h i hi j hj]; exact hr⟩
end
def layoutB (T : TT) : List Field → Nat → Nat → Bool
  | [], off, n => off == n
  | f :: fs, off, n => f.offset == off && match T f.type with | some d => layoutB T fs (off + d.size) n | none => false
/-- types whose values are read as trees -/
def okB (T : TT) : Nat → Nat → Bool
  | 0, _ => false
  | d + 1, t => match T t with
    | none => false
    | some td => match td.und with
      | .bool => td.size == 1
      | .int _ => td.size == 1
      | .string => td.size == 1
      | .slice e => td.size == 1 && okB T d e && match T e with | some ed => decide (0 < ed.size) | none => false
      | .struct fs => layoutB T fs.toList 0 td.size && fs.toList.all fun f => okB T d f.type
      | _ => false
def ShF (S : Nat → List AC → Prop) : List Field → List AC → Prop
  | [], cs => cs = []
  | f :: fs, cs => ∃ a b, cs = a ++ b ∧ S f.type a ∧ ShF S fs b
/-- the shape of a value of a type -/
def Shape (T : TT) : Nat → Nat → List AC → Prop
  | 0, _, _ => False
  | d + 1, t, cs => match T t with
    | none => False
    | some td => match td.und with
      | .bool => ∃ b, cs = [.v (.bool b)]
      | .int k => ∃ x, cs = [.v (.int k x)] ∧ (Lit.int k x).wf = true
      | .string => ∃ s : ByteArray, cs = [.v (.string s)] ∧ s.size ≤ maxLen
      | .slice e => ∃ n sz get, cs = [.bs n sz get] ∧ n ≤ maxLen ∧ (∃ ed, T e = some ed ∧ sz = ed.size) ∧ ∀ i, i < n → Shape T d e ((List.range sz).map (get i))
      | .struct fs => ShF (Shape T d) fs.toList cs
      | _ => False
section
variable {P : Program} {T : TT} {H : Type} {enc : TypeId × Value → H} {W : World} {spare : Nat → Bool} {held : Bool}
def RelVs (W : World) (cs : List AC) (vs : List Value) : Prop := cs.length = vs.length ∧ ∀ (i : Nat) c, cs[i]? = some c → ∃ u, vs[i]? = some u ∧ RelI (fun b => b < W.heap.size) W c u
theorem cellsOf_T (hT : TOk P T) {t : Nat} {d : TD} (h : T t = some d) : P.cellsOf t = d.size := by
  obtain ⟨i, h1, h2, _⟩ := (hT t d h).2.1
  simp [Program.cellsOf, h1, h2]
theorem one_rel {c : AC} {v : Value} (h : RelI (fun b => b < W.heap.size) W c v) : RelVs W [c] [v] := by
  refine ⟨rfl, fun i x hx => ?_⟩
  cases i with
  | zero => simp at hx; subst hx; exact ⟨v, rfl, h⟩
  | succ i => simp at hx
theorem shape_of_trod (hT : TOk P T) : ∀ (d t fuel : Nat) (vs : List Value) (x : DataW H × List MemPlace), okB T d t = true → DataW.trod enc P W 0 spare held fuel t vs = some x →
    ∃ cs, Shape T d t cs ∧ vs.length = P.cellsOf t ∧ RelVs W cs vs := by
  intro d
  induction d with
  | zero => intro t fuel vs x h; cases h
  | succ d ih =>
    intro t fuel vs x hok h
    unfold okB at hok
    unfold Shape
    cases htd : T t with
    | none => rw [htd] at hok; cases hok
    | some td =>
      rw [htd] at hok
      simp only at hok ⊢
      have hu := (hT t td htd).1
      have hsz := cellsOf_T hT htd
      split at hok
      · rename_i hund
        rw [hund] at hu
        obtain ⟨b, rfl, _⟩ := DataW.trod_bool hu h
        exact ⟨_, ⟨b, rfl⟩, by simp at hok; simp [hsz, hok], one_rel ⟨rfl, rfl⟩⟩
      · rename_i k hund
        rw [hund] at hu
        obtain ⟨n, rfl, _, hw⟩ := DataW.trod_int hu h
        exact ⟨_, ⟨n, rfl, hw⟩, by simp at hok; simp [hsz, hok], one_rel ⟨rfl, rfl⟩⟩
      · rename_i hund
        rw [hund] at hu
        obtain ⟨s, rfl, _, hw⟩ := DataW.trod_string hu h
        exact ⟨_, ⟨s, rfl, hw⟩, by simp at hok; simp [hsz, hok], one_rel ⟨rfl, rfl⟩⟩
      · rename_i e hund
        rw [hund] at hu
        simp only [Bool.and_eq_true, beq_iff_eq] at hok
        obtain ⟨⟨ho1, ho2⟩, ho3⟩ := hok
        cases hte : T e with
        | none => rw [hte] at ho3; cases ho3
        | some ed =>
          rw [hte] at ho3
          have hpos : 0 < ed.size := by simpa using ho3
          have hce := cellsOf_T hT hte
          rcases DataW.trod_slice hu h with ⟨rfl, _⟩ | ⟨a, len, cap, elems, rest, n, rfl, rfl, _, _, hlc, hcm, hel, hget, _, _⟩
          · exact ⟨_, ⟨0, ed.size, fun _ _ => .junk, rfl, Nat.zero_le _, ⟨ed, rfl, rfl⟩, fun i hi => absurd hi (by omega)⟩, by simp [hsz, ho1], one_rel ⟨none, 0, rfl, Nat.le_refl _, fun hh => absurd hh (by omega)⟩⟩
          · have hall : ∀ i, i < len → ∃ cs : List AC, Shape T d e cs ∧ cs.length = ed.size ∧ ∀ (j : Nat) c, cs[j]? = some c → ∃ u, W.cell? ((a.add (i * ed.size)).add j) = some u ∧ RelI (fun b => b < W.heap.size) W c u := by
              intro i hi
              have h1 := hget i hi
              rw [hce] at h1
              have h2 : elems[i]? = some elems[i] := List.getElem?_eq_getElem (by omega)
              rw [h2, Option.bind_eq_some_iff] at h1
              obtain ⟨us, hus, htr⟩ := h1
              obtain ⟨_, hul, huc⟩ := World.cells?_some hus
              obtain ⟨cs, hs, _, hl, hc⟩ := ih e n us _ ho2 htr
              refine ⟨cs, hs, by rw [hl, hul], fun j c hj => ?_⟩
              obtain ⟨u, hu', hr⟩ := hc j c hj
              have hjl : j < ed.size := by rw [← hul, ← hl]; exact (List.getElem?_eq_some_iff.1 hj).1
              exact ⟨u, by rw [huc j hjl]; exact hu', hr⟩
            have hex : ∃ g : Nat → List AC, ∀ i, i < len → Shape T d e (g i) ∧ (g i).length = ed.size ∧ ∀ (j : Nat) c, (g i)[j]? = some c → ∃ u, W.cell? ((a.add (i * ed.size)).add j) = some u ∧ RelI (fun b => b < W.heap.size) W c u := by
              classical
              refine ⟨fun i => if hi : i < len then (hall i hi).choose else [], fun i hi => ?_⟩
              simp only [dif_pos hi]
              exact (hall i hi).choose_spec
            obtain ⟨g, hg⟩ := hex
            refine ⟨_, ⟨len, ed.size, fun i j => (g i).getD j .junk, rfl, by omega, ⟨ed, rfl, rfl⟩, fun i hi => ?_⟩, by simp [hsz, ho1], one_rel ⟨some a, cap, rfl, hlc, fun hn => ?_⟩⟩
            · have h1 := (hg i hi).1
              have h2 : (List.range ed.size).map (fun j => (g i).getD j .junk) = g i := by
                apply List.ext_getElem?
                intro j
                rw [List.getElem?_map]
                by_cases hj : j < ed.size
                · rw [List.getElem?_range hj]
                  have : j < (g i).length := by rw [(hg i hi).2.1]; exact hj
                  simp [List.getD_eq_getElem?_getD, List.getElem?_eq_getElem this]
                · rw [List.getElem?_eq_none (by simpa using hj), List.getElem?_eq_none (by rw [(hg i hi).2.1]; omega)]; rfl
              rw [h2]; exact h1
            · have hcell : ∀ i, i < len → ∀ j, j < ed.size → ∃ u, W.cell? ((a.add (i * ed.size)).add j) = some u ∧ RelI (fun b => b < W.heap.size) W ((g i).getD j .junk) u := by
                intro i hi j hj
                have hjl : j < (g i).length := by rw [(hg i hi).2.1]; exact hj
                have e1 : (g i)[j]? = some ((g i).getD j .junk) := by simp [List.getD_eq_getElem?_getD, List.getElem?_eq_getElem hjl]
                exact (hg i hi).2.2 j _ e1
              obtain ⟨u0, hu0, _⟩ := hcell 0 hn 0 hpos
              have hsp : a.spot = none ∧ a.block < W.heap.size := by
                simp only [Nat.zero_mul, Addr.add, if_true] at hu0
                unfold World.cell? at hu0
                split at hu0
                · rename_i c _ _ hb
                  split at hu0
                  · cases hu0
                  · rename_i hs
                    exact ⟨by simpa using hs, (Array.getElem?_eq_some_iff.1 hb).1⟩
                · cases hu0
              obtain ⟨ab, ao, asp⟩ := a
              simp only at hsp
              obtain ⟨rfl, hblk⟩ := hsp
              refine ⟨ab, ao, rfl, hblk, fun i hi j hj => ?_⟩
              obtain ⟨u, hu', hr⟩ := hcell i hi j hj
              refine ⟨u, ?_, hr⟩
              rw [← hu', addr_add, addr_add, Nat.add_assoc]
      · rename_i fs hund
        rw [hund] at hu
        simp only [Bool.and_eq_true] at hok
        obtain ⟨hlay, hall⟩ := hok
        obtain ⟨xs, n, rfl, _, hlen, hxl, hget⟩ := DataW.trod_struct hu h
        have key : ∀ (l : List Field) (off : Nat), layoutB T l off td.size = true → (∀ f ∈ l, okB T d f.type = true ∧ ∃ x, DataW.trod enc P W 0 spare held n f.type ((vs.drop f.offset).take (P.cellsOf f.type)) = some x) →
            ∃ cs, ShF (Shape T d) l cs ∧ off + cs.length = td.size ∧ ∀ (i : Nat) c, cs[i]? = some c → ∃ u, vs[off + i]? = some u ∧ RelI (fun b => b < W.heap.size) W c u := by
          intro l
          induction l with
          | nil =>
            intro off hl _
            simp [layoutB] at hl
            exact ⟨[], rfl, by simpa using hl, fun i c hc => by simp at hc⟩
          | cons f l ihl =>
            intro off hl hf
            unfold layoutB at hl
            simp only [Bool.and_eq_true, beq_iff_eq] at hl
            obtain ⟨hoff, hl⟩ := hl
            cases htf : T f.type with
            | none => rw [htf] at hl; cases hl
            | some fd =>
              rw [htf] at hl
              simp only at hl
              obtain ⟨hf1, y, hf2⟩ := hf f (by simp)
              obtain ⟨ca, hs1, hs2, hs3, hs4⟩ := ih f.type n _ _ hf1 hf2
              obtain ⟨cb, hb1, hb2, hb3⟩ := ihl (off + fd.size) hl (fun f' hf' => hf f' (by simp [hf']))
              have hcf := cellsOf_T hT htf
              have hcal : ca.length = fd.size := by rw [hs3, hs2, hcf]
              refine ⟨ca ++ cb, ⟨ca, cb, rfl, hs1, hb1⟩, by simp [hcal]; omega, fun i c hc => ?_⟩
              rw [List.getElem?_append, hcal] at hc
              split at hc
              · rename_i hi
                obtain ⟨u, hu', hr⟩ := hs4 i c hc
                rw [List.getElem?_take, hcf, if_pos hi, List.getElem?_drop, hoff] at hu'
                exact ⟨u, hu', hr⟩
              · rename_i hi
                obtain ⟨u, hu', hr⟩ := hb3 (i - fd.size) c hc
                exact ⟨u, by rw [show off + i = off + fd.size + (i - fd.size) by omega]; exact hu', hr⟩
        obtain ⟨cs, g1, g2, g3⟩ := key fs.toList 0 hlay (fun f hf => by
          refine ⟨List.all_eq_true.1 hall f hf, ?_⟩
          obtain ⟨i, hi⟩ := List.mem_iff_getElem?.1 hf
          have h1 := hget i f (by rwa [Array.getElem?_toList] at hi)
          have hil : i < xs.length := by
            have := (List.getElem?_eq_some_iff.1 hi).1
            rw [hxl]; simpa using this
          exact ⟨xs[i], by rw [h1]; exact List.getElem?_eq_getElem hil⟩)
        refine ⟨cs, g1, hlen, ?_, fun i c hc => by obtain ⟨u, hu', hr⟩ := g3 i c hc; exact ⟨u, by simpa using hu', hr⟩⟩
        rw [hlen, hsz]; omega
      · cases hok
/-- a struct given as argument -/
theorem open_agg (hT : TOk P T) {d t : Nat} {v : Value} {x : DataW H} {ps : List MemPlace} (hok : okB T d t = true) {a : Array Value} (hv : v = .agg a) (h : DataW.Trod enc P W 0 spare held t v x ps) :
    ∃ cs, Shape T d t cs ∧ RelV (RelI (fun b => b < W.heap.size) W) (.agg cs) v := by
  obtain ⟨fuel, h⟩ := h
  subst hv
  obtain ⟨cs, hs, _, hl, hc⟩ := shape_of_trod hT d t fuel _ _ hok h
  refine ⟨cs, hs, a, rfl, by simpa [Value.cells] using hl.symm, fun i c hi => ?_⟩
  obtain ⟨u, hu, hr⟩ := hc i c hi
  exact ⟨u, by simpa [Value.cells] using hu, hr⟩
/-- a slice, a number, a string given as argument -/
theorem open_one (hT : TOk P T) {d t : Nat} {v : Value} {x : DataW H} {ps : List MemPlace} (hok : okB T d t = true) (hv : v.cells = #[v]) (h : DataW.Trod enc P W 0 spare held t v x ps) :
    ∃ c, Shape T d t [c] ∧ RelV (RelI (fun b => b < W.heap.size) W) (.c c) v := by
  obtain ⟨fuel, h⟩ := h
  rw [hv] at h
  obtain ⟨cs, hs, _, hl, hc⟩ := shape_of_trod hT d t fuel _ _ hok h
  obtain ⟨c, rfl⟩ : ∃ c, cs = [c] := by
    simp at hl
    exact List.length_eq_one_iff.1 hl
  · obtain ⟨u, hu, hr⟩ := hc 0 c rfl
    simp at hu
    subst hu
    exact ⟨c, hs, hr⟩
end
def AC.le (x y : AC) : Prop := ∀ I w v, RelI I w x v → RelI I w y v
theorem AC.le_refl (x : AC) : x.le x := fun _ _ _ h => h
def AC.les : List AC → List AC → Prop
  | [], [] => True
  | x :: r, y :: q => x.le y ∧ AC.les r q
  | _, _ => False
theorem AC.les_get : ∀ {l q : List AC}, AC.les l q → l.length = q.length ∧ ∀ (i : Nat) y, q[i]? = some y → ∃ x, l[i]? = some x ∧ x.le y
  | [], [], _ => ⟨rfl, fun i y h => by simp at h⟩
  | x :: r, y :: q, h => by
    obtain ⟨h1, h2⟩ := AC.les_get h.2
    refine ⟨by simp [h1], fun i z hz => ?_⟩
    cases i with
    | zero => simp at hz; subst hz; exact ⟨x, rfl, h.1⟩
    | succ i => simpa using h2 i z (by simpa using hz)
  | [], _ :: _, h => h.elim
  | _ :: _, [], h => h.elim
theorem AV.le_agg {l q : List AC} (h : AC.les l q) : (AV.agg l).le (.agg q) := by
  intro I w v hv
  obtain ⟨ys, rfl, hs, hc⟩ := hv
  obtain ⟨h1, h2⟩ := AC.les_get h
  refine ⟨ys, rfl, by rw [hs, h1], fun i y hy => ?_⟩
  obtain ⟨x, hx, hle⟩ := h2 i y hy
  obtain ⟨u, hu, hr⟩ := hc i x hx
  exact ⟨u, hu, hle _ _ _ hr⟩
theorem AC.le_bs {n sz : Nat} {g g' : Nat → Nat → AC} (h : ∀ i, i < n → ∀ j, j < sz → (g i j).le (g' i j)) : (AC.bs n sz g).le (.bs n sz g') := by
  intro I w v hv
  obtain ⟨a, cap, rfl, hnc, hc⟩ := hv
  refine ⟨a, cap, rfl, hnc, fun hn => ?_⟩
  obtain ⟨b, off, ha, hb, hcell⟩ := hc hn
  refine ⟨b, off, ha, hb, fun i hi j hj => ?_⟩
  obtain ⟨u, hu, hr⟩ := hcell i hi j hj
  exact ⟨u, hu, h i hi j hj _ _ _ hr⟩
/-- a call that is said to return true -/
theorem Fun.yes {P : Program} {f : FuncId} {args : List AV} (h : Fun P f args (.c (.v (.bool true)))) {vals : Array Value} {W : World} (hrel : RelT (RelI (fun b => b < W.heap.size) W) args vals) :
    Calls P f vals W fun e w' => e = .returned (.bool true) ∧ Below W.heap.size W w' := by
  refine (h.2 vals W _ (fun _ h => h) hrel).mono fun e w' hh => ?_
  obtain ⟨v, I', rfl, _, _, hr, hb⟩ := hh
  have hv : v = .bool true := hr.1
  subst hv
  exact ⟨rfl, hb⟩
theorem relT_nil {R : AC → Value → Prop} : RelT R [] #[] := ⟨rfl, fun i x h => by simp at h⟩
theorem relT_of {R : AC → Value → Prop} {l : List AV} {vs : List Value} (hl : vs.length = l.length) (h : ∀ (i : Nat) x, l[i]? = some x → ∃ u, vs[i]? = some u ∧ RelV R x u) : RelT R l vs.toArray :=
  ⟨by simpa using hl, fun i x hx => by obtain ⟨u, hu, hr⟩ := h i x hx; exact ⟨u, by simpa using hu, hr⟩⟩
theorem relT_cons {R : AC → Value → Prop} {l : List AV} {vs : List Value} {x : AV} {v : Value} (h : RelV R x v) (ht : RelT R l vs.toArray) : RelT R (x :: l) (v :: vs).toArray := by
  refine relT_of (by have := ht.1; simp at this; simp [this]) fun i y hy => ?_
  cases i with
  | zero => simp at hy; subst hy; exact ⟨v, rfl, h⟩
  | succ i =>
    obtain ⟨u, hu, hr⟩ := ht.2 i y (by simpa using hy)
    exact ⟨u, by simpa using hu, hr⟩
end Go.Proofs.Ytcfmllknnfoghaa.AM
