/-
  THE ABSTRACT MACHINE, FIFTH PART: functions, loops, and the arguments of a law. No condition.
-/
import Derived.Test.YtpobpihakgegbaaGreatAmD
import Derived.ChangeArms
import Derived.WideShapes
import Derived.Lib.SliceRun
import Derived.Laws.IdiomCopy
import Derived.Laws.Rows
import Derived.Shelf.Spec.SlicesInsertGrow
namespace Go.Proofs.YtpobpihakgegbaaGreat.AM
open Go Go.Proofs Go.RowKit
set_option linter.unusedVariables false
set_option linter.unusedSimpArgs false
set_option maxRecDepth 100000

def below (s : St) : Option St → Prop
 | some S => s.le S
 | none => False
def ifSome : Option St → (St → Prop) → Prop
 | some S, K => K S
 | none, _ => True
def tmpKey (c : Operand) : Nat := match tmpOf c with | some t => t | none => 0
def Wp (P : Program) (c : Code) (s : St) (K : Exit → St → Prop) : Prop := ∀ (w0 : World) (I0 : Fr) (a : Act) (w : World) (Q : Exit → Act → World → Prop), Rel w0 I0 s a w → (∀ e s' a' w', Rel w0 I0 s' a' w' → K e s' → Q e a' w') → c.wp P Q a w
def SemR (P : Program) (id : Nat) (ops : Array Oper) (s S : St) : Prop := Wp P (.region id ops false) s fun e s' => e = .normal ∧ s' = S
section
variable (A : Prims) (P : Program) (T : TT) (J : Nat → Bool)
def wp : Code → St → (Exit → St → Prop) → Prop
 | .skip, s, K => K .normal s
 | .region id ops false, s, K => match J id with
  | false => match J (200000 + id) with
   | false => wpOps A P T ops.toList ops.toList s (K .normal)
   | true => ∃ S, SemR P id ops s S ∧ K .normal S
  | true => ∃ S, (wpOps A P T ops.toList ops.toList s fun s' => s'.le S) ∧ K .normal S
 | .region id ops true, s, K => match J id with
  | false => wpD A P T ops.toList ops.toList s [] fun ls s' => chk ops.toList ls = true ∧ K .normal s'
  | true => ∃ S, (wpD A P T ops.toList ops.toList s [] fun ls s' => chk ops.toList ls = true ∧ s'.le S) ∧ K .normal S
 | .seq a b, s, K => wp a s fun e s' => match e with | .normal => wp b s' K | e => K e s'
 | .cond c t e, s, K => match boolOf (ev s c) with
  | some b => match J (100000 + tmpKey c) with
   | false => brP b (fun _ => wp t (setB s c true) K) (fun _ => wp e (setB s c false) K)
   | true => ∃ S : Option St, brP b (fun _ => wp t (setB s c true) fun x s' => match x with | .normal => below s' S | x => K x s') (fun _ => wp e (setB s c false) fun x s' => match x with | .normal => below s' S | x => K x s') ∧ ifSome S (K .normal)
  | none => False
 | .block id b, s, K => wp b s fun e s' => match e with | .exit i => if i = id then ∃ s2, s'.le s2 ∧ K .normal s2 else K (.exit i) s' | e => K e s'
 | .loop b, s, K => ∃ s' n, s.le s' ∧ iter (wp b) n s' K
 | .exit i, s, K => K (.exit i) s
 | .ret, s, K => K .ret s
 | _, _, _ => False
end
section
variable {P : Program} {T : TT} {w0 w w' : World} {I0 : Fr} {I I' : Nat → Prop} {L L' : Lay} {s : St} {a : Act} {o : Oper} {ob o' : Obs}

theorem code_sound {J : Nat → Bool} (hT : TOk P T) (hm : P.follows .mixedOrders = true) : ∀ (c : Code) (s : St) (a : Act) (w : World) (K : Exit → St → Prop) (Q : Exit → Act → World → Prop), Rel w0 I0 s a w → AM.wp std P T J c s K → (∀ e s' a' w', Rel w0 I0 s' a' w' → K e s' → Q e a' w') → c.wp P Q a w := by
 intro c
 induction c with
 | skip => intro s a w K Q hR h hQ; exact wp_skip (hQ _ _ _ _ hR h)
 | region id ops draw =>
  intro s a w K Q hR h hQ
  cases draw with
  | false =>
   simp only [AM.wp] at h
   split at h
   split at h
   rotate_left
   ·obtain ⟨S, h1, h2⟩ := h
    exact h1 w0 I0 a w Q hR fun e s' a' w' hR' hK => by obtain ⟨rfl, rfl⟩ := hK; exact hQ _ _ _ _ hR' h2
   all_goals refine wp_region ?_
   all_goals rw [List.range_eq_range', ← Array.length_toList]
   rotate_left
   ·exact ops_sound hT (fun s' a' w' hR' hK => hQ _ _ _ _ hR' hK) ops.toList 0 s a w (fun j => by simp) hR h
   ·obtain ⟨S, h1, h2⟩ := h
    exact ops_sound hT (fun s' a' w' hR' hK => hQ _ S _ _ (hK _ _ _ _ hR') h2) ops.toList 0 s a w (fun j => by simp) hR h1
  | true =>
   simp only [AM.wp] at h
   split at h
   ·exact draw_sound hT hm hR (fun s' a w hR' hK => hQ _ _ _ _ hR' hK) h
   ·obtain ⟨S, h1, h2⟩ := h
    exact draw_sound hT hm hR (fun s' a w hR' hK => hQ _ S _ _ (hK _ _ _ _ hR') h2) h1
 | seq x y hx hy =>
  intro s a w K Q hR h hQ
  refine wp_seq (hx s a w _ _ hR h fun e s' a' w' hR' hK => ?_)
  cases e with
  | normal => exact hy s' a' w' K Q hR' hK hQ
  | _ => exact hQ _ _ _ _ hR' hK
 | cond c x y hx hy =>
  intro s a w K Q hR h hQ
  simp only [AM.wp] at h
  split at h
  ·rename_i b hb
   obtain ⟨hv, hR'⟩ := setB_rel hR hb
   split at h
   ·cases b with
    | true => exact wp_cond_true hv (hx _ _ _ K Q hR' h hQ)
    | false => exact wp_cond_false hv (hy _ _ _ K Q hR' h hQ)
   ·obtain ⟨S, h, h2⟩ := h
    have hQ2 : ∀ e s' a' w', Rel w0 I0 s' a' w' → (match e with | .normal => below s' S | x => K x s') → Q e a' w' := by
     intro e s' a' w' hR' hK
     cases e with
     | normal =>
      cases S with
      | none => exact hK.elim
      | some S => exact hQ _ S _ _ (hK _ _ _ _ hR') h2
     | _ => exact hQ _ _ _ _ hR' hK
    cases b with
    | true => exact wp_cond_true hv (hx _ _ _ _ Q hR' h hQ2)
    | false => exact wp_cond_false hv (hy _ _ _ _ Q hR' h hQ2)
  ·exact h.elim
 | block id x hx =>
  intro s a w K Q hR h hQ
  refine wp_block (hx s a w _ _ hR h fun e s' a' w' hR' hK => ?_)
  cases e with
  | exit i =>
   simp only [Exit.inBlock]
   simp only at hK
   split
   ·rename_i hi
    rw [if_pos hi] at hK
    obtain ⟨s2, hle, hK⟩ := hK
    exact hQ _ _ _ _ (hle _ _ _ _ hR') hK
   ·rename_i hi; rw [if_neg hi] at hK; exact hQ _ _ _ _ hR' hK
  | _ => exact hQ _ _ _ _ hR' hK
 | loop x hx =>
  intro s a w K Q hR h hQ
  obtain ⟨s', n, hle, h⟩ := h
  refine wp_loop_rounds n ?_
  have hR' := hle _ _ _ _ hR
  clear hR hle
  revert s' a w
  induction n with
  | zero => intro a w s' h; exact h.elim
  | succ n ih =>
   intro a w s' h hR'
   rw [rounds_succ]
   refine hx s' a w _ _ hR' h fun e s'' a' w' hR'' hK => ?_
   cases e with
   | normal =>
    obtain ⟨s3, hle, h3⟩ := hK
    exact ih a' w' s3 h3 (hle _ _ _ _ hR'')
   | _ => exact hQ _ _ _ _ hR'' hK
 | exit i => intro s a w K Q hR h hQ; exact wp_exit (hQ _ _ _ _ hR h)
 | ret => intro s a w K Q hR h hQ; exact wp_ret (hQ _ _ _ _ hR h)
 | _ => intro s a w K Q hR h hQ; exact h.elim

def resOne (s : St) (T : TT) : ResultVar → Option AV
 | .tmp t => some (s.t.getD t (.tup []))
 | .cell t ty => match (T ty), s.t.getD t (.tup []) with
  | some d, .c (.ptr k off) => match s.o k with
   | .var l => if off + d.size ≤ l.length ∧ 0 < d.size then some (takeC d l off) else none
   | _ => none
  | _, _ => none
def resAll (s : St) (T : TT) : List ResultVar → Option (List AV)
 | [] => some []
 | x :: r => match resOne s T x, resAll s T r with
  | some (.c y), some q => some (.c y :: q)
  | some (.agg y), some q => some (.agg y :: q)
  | _, _ => none
def resOf (s : St) (T : TT) (l : List ResultVar) : Option AV :=
 match l with
 | [x] => resOne s T x
 | l => match resAll s T l with | some q => some (.tup q) | none => none
def endsIn (T : TT) (rs : List ResultVar) (r : AV) (o1 : List (Nat × AO)) : Exit → St → Prop
 | .normal, s | .ret, s => ∃ s2, s.le s2 ∧ match resOf s2 T rs with | some x => x.le r ∧ allOle s2 o1 ∧ refsIn [(s2.t.length, x)] o1 = true | none => False
 | _, _ => False
theorem allOle_congr {s s' : St} (h : s.o = s'.o) : ∀ (os : List (Nat × AO)), allOle s os → allOle s' os
 | [], _ => trivial
 | (k, x) :: r, hh => ⟨by rw [← h]; exact hh.1, allOle_congr h r hh.2⟩
def startSt (n : Nat) (args : List AV) (o0 : List (Nat × AO)) : St := ⟨args ++ List.replicate (n - args.length) (.tup []), lookO o0⟩
def runRes (fn : Func) (tmps : Array Value) : ResultVar → Sem Value
 | .tmp t => pure (tmps.getD t undef)
 | .cell a t => do loadVar t (← asAddr (tmps.getD a undef))
theorem resOne_sound (hT : TOk P T) (hR : RelL w0 I0 L I s a w) {fn : Func} {x : ResultVar} {z : AV} (h : resOne s T x = some z) :
  ∃ y, (runRes fn a.tmps x).run P w = .ok y w ∧ RelV (RelC L I w (obj s.o)) z y := by
 cases x with
 | tmp t =>
  injection h with h
  subst h
  exact ⟨_, rfl, ev_rel hR.tmps (.tmp t)⟩
 | cell t ty =>
  simp only [resOne] at h
  have hev := ev_rel hR.tmps (.tmp t)
  simp only [ev, Act.eval] at hev
  split at h
  ·rename_i d k off hd hq
   rw [hq] at hev
   split at h
   ·rename_i l hl
    split at h
    ·rename_i hb
     injection h with h
     subst h
     obtain ⟨l', b, h2, h3, hy⟩ := hev
     have h2' : s.o k = .var l' := h2
     rw [hl] at h2'; injection h2' with h2'; subst h2'
     obtain ⟨b', C, e, h4, h5, h6, h7, h8⟩ := hR.heap.var h2
     rw [h3] at h4; injection h4 with h4; injection h4 with h4; subst h4
     obtain ⟨hb1, hb2⟩ := hb
     obtain ⟨f, hf⟩ := choose_cells (R := RelC L I w (obj s.o)) (n := d.size) (g := fun j => l.getD (off + j) .junk) (c := fun j => w.cell? ⟨b, off + j, none⟩) (fun j hj => by
      have hlt : off + j < l.length := by omega
      obtain ⟨u, hu, hr⟩ := h8 (off + j) l[off + j] (by simp [hlt])
      refine ⟨u, by rw [cell_of h6]; exact hu, ?_⟩
      simp only [List.getD_eq_getElem?_getD, List.getElem?_eq_getElem hlt, Option.getD_some]
      exact hr)
     have hrun := run_loadVar_cells (w := w) hT hd hb2 b off f fun j hj => (hf j hj).1
     have hrel := fnC_rel (R := RelC L I w (obj s.o)) (d := d) hb2 fun j hj => (hf j hj).2
     refine ⟨if aggB d.und = true then .agg ((List.range d.size).map f).toArray else f 0, ?_, ?_⟩
     ·simp only [runRes, hy]
      simp [asAddr, hrun]
     ·have e1 : takeC d l off = fnC d fun j => l.getD (off + j) .junk := by
       unfold takeC fnC
       split
       ·congr 1
        apply List.ext_getElem?
        intro i
        rw [List.getElem?_take, List.getElem?_map]
        by_cases hi : i < d.size
        ·rw [if_pos hi, List.getElem?_drop, List.getElem?_range hi]
         simp [List.getD_eq_getElem?_getD, List.getElem?_eq_getElem (show off + i < l.length by omega)]
        ·rw [if_neg hi, List.getElem?_eq_none (by simp; omega)]
         rfl
       ·rfl
      rw [e1]
      exact hrel
    ·cases h
   ·cases h
  ·cases h
theorem resAll_sound (hT : TOk P T) (hR : RelL w0 I0 L I s a w) {fn : Func} : ∀ (l : List ResultVar) (q : List AV), resAll s T l = some q →
  ∃ vs : List Value, (l.mapM (runRes fn a.tmps)).run P w = .ok vs w ∧ vs.length = q.length ∧ q.length = l.length ∧ ∀ (i : Nat) x, q[i]? = some x → ∃ u, vs[i]? = some u ∧ Rel1 (RelC L I w (obj s.o)) x u
 | [], q, h => by
  simp [resAll] at h
  subst h
  exact ⟨[], rfl, rfl, rfl, fun i x hx => by simp at hx⟩
 | x :: r, q, h => by
  unfold resAll at h
  have key : ∀ (y : AV) (q' : List AV), resOne s T x = some y → resAll s T r = some q' → (∀ v, RelV (RelC L I w (obj s.o)) y v → Rel1 (RelC L I w (obj s.o)) y v) → q = y :: q' →
    ∃ vs : List Value, ((x :: r).mapM (runRes fn a.tmps)).run P w = .ok vs w ∧ vs.length = q.length ∧ q.length = (x :: r).length ∧ ∀ (i : Nat) x, q[i]? = some x → ∃ u, vs[i]? = some u ∧ Rel1 (RelC L I w (obj s.o)) x u := by
   intro y q' hy hq h1 hqq
   subst hqq
   obtain ⟨v, hv, hr⟩ := resOne_sound (fn := fn) hT hR hy
   obtain ⟨vs, g1, g2, g4, g3⟩ := resAll_sound hT hR (fn := fn) r q' hq
   refine ⟨v :: vs, by rw [List.mapM_cons]; simp [hv, g1], by simp [g2], by simp [g4], fun i x hx => ?_⟩
   cases i with
   | zero => simp at hx; subst hx; exact ⟨v, rfl, h1 v hr⟩
   | succ i => obtain ⟨u, hu, hr⟩ := g3 i x (by simpa using hx); exact ⟨u, by simpa using hu, hr⟩
  split at h
  ·rename_i y q' hy hq
   injection h with h
   exact key _ _ hy hq (fun v h => h) h.symm
  ·rename_i y q' hy hq
   injection h with h
   exact key _ _ hy hq (fun v h => h) h.symm
  ·cases h
theorem results_run {fn : Func} {tm : Array Value} {vs : List Value} (h : (fn.results.toList.mapM (runRes fn tm)).run P w = .ok vs w) : (results fn tm).run P w = .ok (if h : vs.length = 1 then vs[0] else .tuple vs.toArray) w := by
 have e0 : results fn tm = (do let vs ← fn.results.mapM (runRes fn tm); pure (if h : vs.size = 1 then vs[0] else .tuple vs)) := by
  unfold results
  congr 2
 have e : (fn.results.mapM (runRes fn tm)).run P w = .ok vs.toArray w := by
  rw [Array.mapM_eq_mapM_toList]
  simp [h]
 rw [e0]
 simp only [Sem.run_bind, e, Result.andThen_ok, Sem.run_pure]
 congr 1
theorem Wp.of {J : Nat → Bool} (hT : TOk P T) (hm : P.follows .mixedOrders = true) {c : Code} {s : St} {K : Exit → St → Prop} (h : AM.wp std P T J c s K) : Wp P c s K :=
 fun _ _ a w Q hR hQ => code_sound hT hm c s a w K Q hR h hQ
theorem Wp.seq {σ : Type} (S : σ → St) (inv : σ → Prop) {x y : Code} {s : St} {K : Exit → St → Prop} (h1 : Wp P x s fun e s' => match e with | .normal => ∃ z, inv z ∧ s'.le (S z) | e => K e s')
  (h2 : ∀ z, inv z → Wp P y (S z) K) : Wp P (x.seq y) s K := by
 intro w0 I0 a w Q hR hQ
 refine wp_seq (h1 w0 I0 a w _ hR fun e s' a' w' hR' hK => ?_)
 cases e with
 | normal =>
  obtain ⟨z, hz, hle⟩ := hK
  exact h2 z hz w0 I0 a' w' Q (hle _ _ _ _ hR') hQ
 | _ => exact hQ _ _ _ _ hR' hK
theorem Fun.of_Wp (hT : TOk P T) {f : FuncId} {fn : Func} {c : Code} (hf : P.funcs[f]? = some fn) (hname : (fn.name == "runtime.NumGoroutine") = false) (hb : fn.body = some c) {n : Nat} (hn : fn.ntmps = n) {rs : List ResultVar} (hrs : fn.results.toList = rs) {args : List AV} {r : AV} {o0 o1 : List (Nat × AO)} {fl : Bool}
  (hwf : wfO o0) (hfl : fl = true → r.flat ∧ flatO o1) (h : Wp P c (startSt n args o0) (endsIn T rs r o1)) : Fun P f args o0 r o1 fl := by
 subst hn
 subst hrs
 refine ⟨⟨fn, hf, hname, by rw [hb]; rfl⟩, ⟨hwf, hfl⟩, fun vals w I L hH hargs => ?_⟩
 refine calls_of_wp hf hb ?_
 have hR : Rel w ⟨I, Owned L (obj (lookO o0)), fun k => L (.r k)⟩ (startSt fn.ntmps args o0) { tmps := vals ++ Array.replicate (fn.ntmps - vals.size) undef, defers := [] } w := by
  refine ⟨L, I, ⟨hH, ?_, rfl, BelowE.refl _, fun b hb => hb, fun b hb _ => .inl hb, fun id b x hg hL => .inr ⟨id, x, hg, hL⟩, fun k _ _ => ⟨rfl, SameRow.refl _ _⟩⟩⟩
  refine ⟨by simp [startSt, hargs.1], fun i x hx => ?_⟩
  simp only [startSt] at hx
  rw [List.getElem?_append] at hx
  rw [Array.getElem?_append]
  split at hx
  ·rename_i hi
   rw [if_pos (by rw [hargs.1]; exact hi)]
   exact hargs.2 i x hx
  ·rename_i hi
   rw [if_neg (by rw [hargs.1]; exact hi)]
   rw [List.getElem?_replicate] at hx
   split at hx
   ·rename_i hlt
    injection hx with hx; subst hx
    exact ⟨undef, by rw [hargs.1]; simp [hlt], #[], rfl, rfl, fun i x hx => by simp at hx⟩
   ·cases hx
 refine h _ _ _ w _ hR fun e s' a' w' hR' hK => ?_
 have key : (∃ s2, s'.le s2 ∧ match resOf s2 T fn.results.toList with | some x => x.le r ∧ allOle s2 o1 ∧ refsIn [(s2.t.length, x)] o1 = true | none => False) → a'.defers = [] ∧ ∃ v, (results fn a'.tmps).run P w' = .ok v w' ∧ ∃ v_1 I' L', (Ending.returned v) = .returned v_1 ∧ (∀ b, I b → I' b) ∧ (∀ b, I' b → b < w.heap.size → I b ∨ Owned L (obj (lookO o0)) b) ∧
   HRel L' I' w' (obj (lookO o1)) ∧ RelV (RelC L' I' w' (obj (lookO o1))) r v_1 ∧ (∀ k, k % 2 = 1 → lookO o1 k ≠ .gone → L' (.r k) = L (.r k) ∧ SameRow w w' (L (.r k))) ∧
   (∀ id b x, obj (lookO o1) id ≠ .gone → L' id = some (b, x) → w.heap.size ≤ b ∨ Owned L (obj (lookO o0)) b) ∧ BelowE (Owned L (obj (lookO o0))) w w' := by
  rintro ⟨s2, hle, hK⟩
  obtain ⟨L', J, hR'⟩ := hle _ _ _ _ hR'
  refine ⟨hR'.defers, ?_⟩
  split at hK
  ·rename_i x hx
   have hres : ∃ v, (results fn a'.tmps).run P w' = .ok v w' ∧ RelV (RelC L' J w' (obj s2.o)) x v := by
    unfold resOf at hx
    split at hx
    ·rename_i q hq
     obtain ⟨y, hy, hr⟩ := resOne_sound (fn := fn) hT hR' hx
     refine ⟨y, ?_, hr⟩
     have := results_run (P := P) (w := w') (fn := fn) (tm := a'.tmps) (vs := [y]) (by rw [hq, List.mapM_cons]; simp [hy])
     simpa using this
    ·rename_i l hl
     split at hx
     ·rename_i q hq
      injection hx with hx; subst hx
      obtain ⟨vs, h1, h2, h4, h3⟩ := resAll_sound (fn := fn) hT hR' _ _ hq
      have hne : vs.length ≠ 1 := by
       intro h
       rw [h2, h4] at h
       match hfr : fn.results.toList, h with
       | [x], _ => exact hl x hfr
      refine ⟨.tuple vs.toArray, ?_, vs.toArray, rfl, by simp [h2], fun i x hx => ?_⟩
      ·have := results_run (P := P) (w := w') (fn := fn) (tm := a'.tmps) h1
       simpa [hne] using this
      ·obtain ⟨u, hu, hr⟩ := h3 i x hx
       exact ⟨u, by simpa using hu, hr⟩
     ·cases hx
   obtain ⟨v, hv, hr⟩ := hres
   obtain ⟨hxr, hall, href⟩ := hK
   -- the result beside the temporaries
   have hp : Rel w ⟨I, Owned L (obj (lookO o0)), fun k => L (.r k)⟩ ⟨s2.t ++ [x], s2.o⟩ { tmps := a'.tmps.push v, defers := [] } w' := by
    refine ⟨L', J, ⟨hR'.heap, ⟨by simp [hR'.tmps.1], fun i y hy => ?_⟩, rfl, hR'.below, hR'.old, hR'.only, hR'.new, hR'.kept⟩⟩
    rw [List.getElem?_append] at hy
    rw [Array.getElem?_push]
    split at hy
    ·rename_i hlt
     rw [if_neg (by rw [hR'.tmps.1]; omega)]
     exact hR'.tmps.2 i y hy
    ·rename_i hlt
     have hi : i = s2.t.length := by
      have := (List.getElem?_eq_some_iff.1 hy).1
      simp at this; omega
     subst hi
     simp at hy
     subst hy
     rw [if_pos hR'.tmps.1.symm]
     exact ⟨v, rfl, hr⟩
   have hs := le_sparse (s := ⟨s2.t ++ [x], s2.o⟩) (l := [(s2.t.length, x)]) (os := o1) rfl ⟨by simp [leT]; exact AV.le_refl x, trivial⟩ (allOle_congr (s := s2) (s' := ⟨s2.t ++ [x], s2.o⟩) rfl o1 hall) href
   obtain ⟨L2, J2, hR2⟩ := hs _ _ _ _ hp
   have hr2 : RelV (RelC L2 J2 w' (obj (lookO o1))) x v := by
    have h1 := hR2.tmps.2 s2.t.length x (by simp [sparse, lookT])
    obtain ⟨u, hu, hr2⟩ := h1
    rw [Array.getElem?_push, if_pos hR'.tmps.1.symm] at hu
    injection hu with hu
    subst hu
    exact hr2
   exact ⟨v, hv, v, J2, L2, rfl, hR2.old, hR2.only, hR2.heap, hxr _ _ _ _ _ hr2, hR2.kept, hR2.new, hR2.below⟩
  ·exact hK.elim
 cases e with
 | normal => exact key hK
 | ret => exact key hK
 | _ => exact hK.elim
theorem Fun.of_wp (J : Nat → Bool) (hT : TOk P T) (hm : P.follows .mixedOrders = true) {f : FuncId} {fn : Func} {c : Code} (hf : P.funcs[f]? = some fn) (hname : (fn.name == "runtime.NumGoroutine") = false) (hb : fn.body = some c) {n : Nat} (hn : fn.ntmps = n) {rs : List ResultVar} (hrs : fn.results.toList = rs) {args : List AV} {r : AV} {o0 o1 : List (Nat × AO)} {fl : Bool}
  (hwf : wfO o0) (hfl : fl = true → r.flat ∧ flatO o1) (h : AM.wp std P T J c (startSt n args o0) (endsIn T rs r o1)) : Fun P f args o0 r o1 fl := Fun.of_Wp hT hf hname hb hn hrs hwf hfl (Wp.of hT hm h)
end
def oneOf : List Nat → Nat → Bool
 | [], _ => false
 | x :: r, n => if x = n then true else oneOf r n
section
variable {P : Program} {T : TT} {w0 w w' : World} {I0 : Fr} {I I' : Nat → Prop} {L L' : Lay} {s : St} {a : Act}
theorem AV.le_of_eq {x y : AV} (h : x = y) : x.le y := h ▸ AV.le_refl x
end
section
variable {P : Program} {T : TT} {w0 w w' : World} {I0 : Fr} {I I' : Nat → Prop} {L L' : Lay} {s : St} {a : Act} {o : Oper} {ob o' : Obs}
def foldSt (s : St) (k i j S : Nat) : St :=
 match s.o k, s.o S with
 | .arr m rs N sz get, .arr m2 rs2 n2 sz2 g => ⟨(s.kill [S]).t, updO (s.kill [S]).o k (.arr m rs N sz fun a b => if a = i ∧ b = j then .ow n2 sz2 g else (get a b).kill [S])⟩
 | _, _ => s
theorem le_fold {k i j S : Nat} {m m2 : Md} {rs : List Nat} {N sz n2 sz2 : Nat} {get g : Nat → Nat → AC} (hk : s.o k = .arr m rs N sz get) (hS : s.o S = .arr m2 [] n2 sz2 g) (hm2 : m2.w = true) (hkS : k ≠ S) (hi : i < N) (hj : j < sz) (hg : get i j = .os S 0 n2) : s.le (foldSt s k i j S) := by
 intro w0 I0 a w ⟨L, I, hR⟩
 have hfs : foldSt s k i j S = ⟨(s.kill [S]).t, updO (s.kill [S]).o k (.arr m rs N sz fun a b => if a = i ∧ b = j then .ow n2 sz2 g else (get a b).kill [S])⟩ := by simp only [foldSt, hk, hS]
 rw [hfs, kill_t]
 obtain ⟨gx, hgx⟩ : ∃ gx : Nat → Nat → AC, gx = fun a b => if a = i ∧ b = j then .ow n2 sz2 g else (get a b).kill [S] := ⟨_, rfl⟩
 simp only [← hgx]
 obtain ⟨o2, ho2⟩ : ∃ o2, o2 = updO (killO [S] s.o) k (.arr m rs N sz gx) := ⟨_, rfl⟩
 rw [← ho2]
 have hko : o2 k = .arr m rs N sz gx := by rw [ho2]; simp [updO]
 have hSo : o2 S = .gone := by rw [ho2]; simp [updO, killO, Ne.symm hkS]
 have hother : ∀ q, q ≠ k → q ≠ S → o2 q = (s.o q).kill [S] := fun q h1 h2 => by rw [ho2]; simp [updO, killO, h1, h2]
 obtain ⟨L2, hL2⟩ : ∃ L2 : Lay, L2 = fun id => if id = .s k i j then L (.r S) else L id := ⟨_, rfl⟩
 have hLo : ∀ id, id ≠ .s k i j → L2 id = L id := fun id h => by rw [hL2]; simp [h]
 have hLs : L2 (.s k i j) = L (.r S) := by rw [hL2]; simp
 have hsubk : obj o2 (.s k i j) = .arr .rw [] n2 sz2 fun i j => (g i j).cp := by
  simp only [obj, hko, if_pos (show i < N ∧ j < sz from ⟨hi, hj⟩)]
  rw [hgx]; simp [subO']
 have hsubo : ∀ a b, ¬ (a = i ∧ b = j) → obj o2 (.s k a b) = obj s.o (.s k a b) := by
  intro a b hab
  simp only [obj, hko, hk]
  split
  ·have h1 : gx a b = (get a b).kill [S] := by rw [hgx]; simp only [if_neg hab]
   rw [h1]
   cases hgab : get a b with
   | ow p q r => rfl
   | _ => rw [← hgab]; rw [subO'_not (x := (get a b).kill [S]) (by rw [isOw_kill, hgab]; rfl), subO'_not (by rw [hgab]; rfl)]
  ·rfl
 have hlikek : (s.o k).like (o2 k) := by rw [hk, hko]; exact ⟨rfl, rfl, fun c h => h⟩
 have hK : Keeps [S] L I w (obj s.o) L2 I w (obj o2) := by
  refine ⟨fun b hb => ⟨hb, rfl⟩, fun q hq hgq => ⟨hLo _ (by simp), ?_, fun b x C e hL hC => ⟨C, hC, rfl⟩⟩⟩
  have hqS : q ≠ S := by rintro rfl; simp at hq
  by_cases hqk : q = k
  ·subst hqk; exact hlikek
  ·show (s.o q).like (o2 q)
   rw [hother q hqk hqS]; exact AO.like_map _ _ _ _ hgq
 have M := hK.moves
 have hO := hR.heap.arr (id := .r k) hk
 have hOS := hR.heap.arr (id := .r S) hS
 have hnilg : ∀ a, a < n2 → ∀ b, b < sz2 → (g a b).ref = [] := fun a ha b hb => List.eq_nil_iff_forall_not_mem.2 fun z hz => by simpa using hOS.2 a ha b hb z hz
 have hlive : ∀ id : Id, obj o2 id ≠ .gone → id = .s k i j ∨ (id ≠ .s k i j ∧ obj s.o id ≠ .gone ∧ id.root ≠ S) := by
  intro id hid
  by_cases h1 : id = .s k i j
  ·exact .inl h1
  ·have hr : id.root ≠ S := by
    intro hr
    apply hid
    cases id with
    | r q => have e : q = S := hr; subst e; exact hSo
    | s q a b => have e : q = S := hr; subst e; simp only [obj]; rw [hSo]
   refine .inr ⟨h1, ?_, hr⟩
   cases id with
   | r q =>
    by_cases hqk : q = k
    ·subst hqk; show s.o q ≠ .gone; rw [hk]; simp
    ·have : o2 q ≠ .gone := hid
     rw [hother q hqk hr] at this; exact AO.map_gone this
   | s q a b =>
    by_cases hqk : q = k
    ·subst hqk
     rw [hsubo a b (by rintro ⟨rfl, rfl⟩; exact h1 rfl)] at hid; exact hid
    ·rw [obj_map (Turn.kill [S]) (hother q hqk hr) a b] at hid; exact hid
 refine ⟨L2, I, hR.step (Turn.kill [S]) M (o' := o2) (fun q => q = k) (fun q hq => ?_) (fun q hq id hr => ?_) ?_ hR.heap.imm hR.heap.glo (fun b hb => hb) hR.only hR.below ?_ ?_⟩
 ·by_cases hqS : q = S
  ·subst hqS; exact .inl hSo
  ·exact .inr ⟨hother q hq hqS, fun id hr hg2 => ⟨hLo id (by rintro rfl; exact hq hr.symm), fun b x hL => ⟨rfl, fun h => h⟩⟩⟩
 ·subst hq
  cases id with
  | r q' =>
   have e : q' = q := hr
   subst e
   unfold ObjOk
   rw [show obj o2 (.r q') = _ from hko, hLo _ (by simp)]
   refine ⟨?_, fun a ha b hb z hz => ?_⟩
   ·rcases hO.1 with h1 | ⟨b, base, C, e, h1, h2, h3, h4, h5⟩
    ·exact .inl h1
    ·refine .inr ⟨b, base, C, e, h1, h2, h3, h4, fun a ha c hc => ?_⟩
     obtain ⟨u, hu, hr⟩ := h5 a ha c hc
     refine ⟨u, hu, ?_⟩
     by_cases hac : a = i ∧ c = j
     ·obtain ⟨rfl, rfl⟩ := hac
      have e1 : gx a c = .ow n2 sz2 g := by rw [hgx]; simp
      rw [e1]
      rw [hg] at hr
      show Hdr L2 w (obj o2) (.s q' a c) 0 n2 u
      refine Hdr.same (id := .r S) ⟨hLs, ?_⟩ hr
      rw [hsubk]
      show (s.o S).like _
      rw [hS]
      exact ⟨rfl, rfl, fun c hc => by cases hc⟩
     ·have e1 : gx a c = (get a c).kill [S] := by rw [hgx]; simp only [if_neg hac]
      rw [e1]
      refine RelX.map (Turn.kill [S]) M (id := .r q') (i := a) (j := c) (fun k' hk' hg2 => ?_) hr
      injection hk' with hk'; subst hk'
      refine ⟨hLo _ (by intro h; injection h with _ h1 h2; exact hac ⟨h1, h2⟩), ?_, fun b x C e hL hC => ⟨C, hC, rfl⟩⟩
      rw [hsubo a c hac]; exact AO.like_refl _ hg2
   ·by_cases hab : a = i ∧ b = j
    ·have e1 : gx a b = .ow n2 sz2 g := by rw [hgx]; simp [hab]
     rw [e1] at hz; cases hz
    ·have e1 : gx a b = (get a b).kill [S] := by rw [hgx]; simp only [if_neg hab]
     rw [e1] at hz
     exact hO.2 a ha b hb z (kill_ref _ _ z hz).1
  | s q' a b =>
   have e : q' = q := hr
   subst e
   by_cases hab : a = i ∧ b = j
   ·obtain ⟨rfl, rfl⟩ := hab
    unfold ObjOk
    rw [hsubk, hLs]
    refine ⟨?_, fun p hp q hq z hz => by rw [cp_ref] at hz; rw [hnilg p hp q hq] at hz; cases hz⟩
    rcases hOS.1 with ⟨h1, h2, h3⟩ | ⟨b', base, C, e, h1, h2, h3, h4, h5⟩
    ·exact .inl ⟨h1, h2, fun c hc => by cases hc⟩
    ·refine .inr ⟨b', base, C, e, h1, fun _ => h2 hm2, h3, h4, fun p hp q hq => ?_⟩
     obtain ⟨u, hu, hr⟩ := h5 p hp q hq
     refine ⟨u, hu, RelX.of ?_ (isOw_cp _)⟩
     have h6 := M _ _ hr.toC.cp
     rwa [AC.kill_id (fun z hz => by rw [cp_ref, hnilg p hp q hq] at hz; cases hz)] at h6
   ·by_cases hgo : obj o2 (.s q' a b) = .gone
    ·unfold ObjOk; rw [hgo]; trivial
    ·refine (hR.heap.ok (.s q' a b)).map (Turn.kill [S]) M ?_ (fun _ => hLo _ (by intro h; injection h with _ h1 h2; exact hab ⟨h1, h2⟩)) (fun _ b x _ => ⟨rfl, fun h => h⟩) (fun _ _ _ h => by cases h)
     rw [hsubo a b hab]
     obtain ⟨m', rs', n', sz', get', p, q, g', _, _, _, _, h3⟩ := obj_s (by rw [hsubo a b hab] at hgo; exact hgo)
     rw [h3]; rfl
 ·refine inj_back (fun id => if id = .s k i j then .r S else id) hR.heap.inj (fun id hid => ?_) (fun id id' hid hid' he => ?_)
  ·rcases hlive id hid with rfl | ⟨h1, h2, _⟩
   ·simp only [if_true]; exact ⟨hLs, by show s.o S ≠ .gone; rw [hS]; simp⟩
   ·simp only [if_neg h1]; exact ⟨hLo id h1, h2⟩
  ·rcases hlive id hid with rfl | ⟨h1, h2, h3⟩ <;> rcases hlive id' hid' with rfl | ⟨g1, g2, g3⟩
   ·rfl
   ·simp only [if_true, if_neg g1] at he; exact (g3 (by rw [← he]; rfl)).elim
   ·simp only [if_true, if_neg h1] at he; exact (h3 (by rw [he]; rfl)).elim
   ·simpa [h1, g1] using he
 ·intro id b x hid hL
  rcases hlive id hid with rfl | ⟨h1, h2, _⟩
  ·rw [hLs] at hL; exact hR.new (.r S) b x (by show s.o S ≠ .gone; rw [hS]; simp) hL
  ·rw [hLo id h1] at hL; exact hR.new id b x h2 hL
 ·intro q hq hgq
  rcases hlive (.r q) hgq with h | ⟨h1, h2, _⟩
  ·cases h
  ·rw [hLo _ h1]; exact hR.kept q hq h2
def AC.fz (S sz : Nat) (get : Nat → Nat → AC) : AC → AC
 | .os k off n => if k = S then .bs n sz fun a b => (get (off + a) b).lentIn else .os k off n
 | .ptr k a => if k = S then .junk else .ptr k a
 | .ep k a b => if k = S then .junk else .ep k a b
 | .fn f n caps => .fn f n fun j => if j < n then (caps j).fz S sz get else caps j
 | x => x
def freezeSt (s : St) (S : Nat) : St :=
 match s.o S with
 | .arr _ _ _ sz get => ⟨s.t.map (AV.map (AC.fz S sz get)), fun q => if q = S then .gone else (s.o q).map (AC.fz S sz get) id fun rs => !rs.contains S⟩
 | _ => s
theorem fz_ref (S sz : Nat) (get : Nat → Nat → AC) : ∀ (x : AC), ∀ k ∈ (x.fz S sz get).ref, k ∈ x.ref ∧ k ≠ S := by
 intro x
 induction x with
 | fn f n caps ih =>
  intro k hk
  simp only [AC.fz, AC.ref, List.mem_flatMap] at hk ⊢
  obtain ⟨j, hj, hk⟩ := hk
  rw [if_pos (by simpa using hj)] at hk
  exact ⟨⟨j, hj, (ih j k hk).1⟩, (ih j k hk).2⟩
 | os q a b =>
  intro k hk
  by_cases h : q = S
  ·simp [AC.fz, h, AC.ref] at hk
  ·simp [AC.fz, h, AC.ref] at hk ⊢; subst hk; exact ⟨rfl, h⟩
 | ptr q a =>
  intro k hk
  by_cases h : q = S
  ·simp [AC.fz, h, AC.ref] at hk
  ·simp [AC.fz, h, AC.ref] at hk ⊢; subst hk; exact ⟨rfl, h⟩
 | ep q a b =>
  intro k hk
  by_cases h : q = S
  ·simp [AC.fz, h, AC.ref] at hk
  ·simp [AC.fz, h, AC.ref] at hk ⊢; subst hk; exact ⟨rfl, h⟩
 | _ => intro k hk; cases hk
theorem fz_id {S sz : Nat} {get : Nat → Nat → AC} : ∀ {x : AC}, (∀ k ∈ x.ref, k ≠ S) → x.fz S sz get = x := by
 intro x
 induction x with
 | fn f n caps ih =>
  intro h
  simp only [AC.fz]
  congr 1
  funext j
  by_cases hj : j < n
  ·rw [if_pos hj]
   exact ih j fun k hk => h k (by simp only [AC.ref, List.mem_flatMap]; exact ⟨j, by simpa using hj, hk⟩)
  ·rw [if_neg hj]
 | os q a b => intro h; simp [AC.ref] at h; simp [AC.fz, h]
 | ptr q a => intro h; simp [AC.ref] at h; simp [AC.fz, h]
 | ep q a b => intro h; simp [AC.ref] at h; simp [AC.fz, h]
 | _ => intro h; rfl
theorem isOw_fz (S sz : Nat) (get : Nat → Nat → AC) (x : AC) : isOw (x.fz S sz get) = isOw x := by
 cases x with
 | os q a b => by_cases h : q = S <;> simp [AC.fz, h, isOw]
 | ptr q a => by_cases h : q = S <;> simp [AC.fz, h, isOw]
 | ep q a b => by_cases h : q = S <;> simp [AC.fz, h, isOw]
 | _ => rfl
theorem Turn.fz (S sz : Nat) (get : Nat → Nat → AC) : Turn (AC.fz S sz get) id (fun rs => !rs.contains S) :=
 ⟨rfl, fun rs h x hx => fz_id fun k hk hks => by subst hks; simp at h; exact h (hx k hk), isOw_fz S sz get, fun x rs h k hk => h k (fz_ref S sz get x k hk).1⟩
theorem le_nilT (i K sz : Nat) (g : Nat → Nat → AC) (hK : K % 2 = 0) (hi : s.t[i]? = some (.c (.v (.slice none 0 0)))) : s.le ⟨(s.kill [K]).t.set i (.c (.os K 0 0)), updO (s.kill [K]).o K (.arr .rw [] 0 sz g)⟩ := by
 intro w0 I0 a w ⟨L, I, hR⟩
 have h1 := hR.nilArr K hK sz g
 have hlt : i < a.tmps.size := by rw [hR.tmps.1]; exact (List.getElem?_eq_some_iff.1 hi).1
 have hv : a.tmps[i]? = some (.slice none 0 0) := by
  obtain ⟨u, hu, hr⟩ := hR.tmps.2 i _ hi
  have : u = .slice none 0 0 := hr.1
  rw [hu, this]
 have h2 := h1.put (some i) (x := .c (.os K 0 0)) (y := .slice none 0 0) ⟨.rw, [], 0, sz, g, by simp [obj, updO], .inl ⟨layL_r, rfl, rfl, rfl, ⟨_, rfl⟩, fun c hc => by cases hc⟩⟩
 have e : a.put (some i) (.slice none 0 0) = a := by
  unfold Act.put
  have : a.tmps.setIfInBounds i (.slice none 0 0) = a.tmps := by
   apply Array.ext_getElem?
   intro q
   rw [Array.getElem?_setIfInBounds]
   split
   ·rename_i hq; subst hq; first | (rw [hv]; done) | (rw [hv]; simp [hlt])
   ·rfl
  simp [this]
 rw [e] at h2
 exact ⟨_, I, h2⟩
end
def len {α : Type} (l : List α) : Nat := l.length
def gd {α : Type} [Inhabited α] (l : List α) (i : Nat) : α := l.getD i default
def bv (b : Bool) : AV := .c (.v (.bool b))
def iv (k : IntKind) (x : Int) : AV := .c (.v (.int k x))
def sv (s : ByteArray) : AV := .c (.v (.string s))
def row {α : Type} (g : List α → Nat → α) (enc : α → Nat → AC) (l : List α) : Nat → Nat → AC := fun i j => enc (g l i) j
theorem fork {b : Bool} {p q : Prop} (h1 : b = true → p) (h2 : b = false → q) : brP b (fun _ => p) (fun _ => q) := brP_mk h1 h2
def letO {α β : Type} (e : α) (k : α → Option β) : Option β := k e
open Classical in
noncomputable def req {β : Type} (p : Prop) (k : Option β) : Option β := if p then k else none
def br {β : Type} (b : Bool) (x y : Option β) : Option β := match b with | true => x | false => y
theorem of_req {β : Type} {p : Prop} {k : Option β} {r : β} (h : req p k = some r) : p ∧ k = some r := by
 unfold req at h
 split at h
 ·rename_i hp; exact ⟨hp, h⟩
 ·cases h
theorem of_br_t {β : Type} {b : Bool} {x y : Option β} {r : β} (hb : b = true) (h : br b x y = some r) : x = some r := by subst hb; exact h
theorem of_br_f {β : Type} {b : Bool} {x y : Option β} {r : β} (hb : b = false) (h : br b x y = some r) : y = some r := by subst hb; exact h
theorem of_bind {α β : Type} {x : Option α} {k : α → Option β} {r : β} (h : x.bind k = some r) : ∃ y, x = some y ∧ k y = some r := by
 cases x with
 | none => cases h
 | some y => exact ⟨y, rfl, h⟩
def whileN {σ ρ : Type} (step : σ → Option (σ ⊕ ρ)) : Nat → σ → Option ρ
 | 0, _ => none
 | n + 1, s => match step s with
  | none => none
  | some (.inl s') => whileN step n s'
  | some (.inr r) => some r
theorem whileN_mono {σ ρ : Type} {step : σ → Option (σ ⊕ ρ)} : ∀ {n m : Nat} {s : σ} {r : ρ}, whileN step n s = some r → n ≤ m → whileN step m s = some r
 | 0, _, _, _, h, _ => by cases h
 | n + 1, 0, _, _, _, hm => absurd hm (by omega)
 | n + 1, m + 1, s, r, h, hm => by
  unfold whileN at h ⊢
  split at h
  ·cases h
  ·exact whileN_mono h (by omega)
  ·exact h
open Classical in
noncomputable def whileP {σ ρ : Type} (step : σ → Option (σ ⊕ ρ)) (s : σ) : Option ρ := if h : ∃ n r, whileN step n s = some r then some (Classical.choose (Classical.choose_spec h)) else none
theorem whileP_spec {σ ρ : Type} {step : σ → Option (σ ⊕ ρ)} {s : σ} {r : ρ} : whileP step s = some r ↔ ∃ n, whileN step n s = some r := by
 unfold whileP
 constructor
 ·intro h
  split at h
  ·rename_i hh
   injection h with h
   exact ⟨_, h ▸ Classical.choose_spec (Classical.choose_spec hh)⟩
  ·cases h
 ·rintro ⟨n, h⟩
  have hh : ∃ n r, whileN step n s = some r := ⟨n, r, h⟩
  rw [dif_pos hh]
  have h2 := Classical.choose_spec (Classical.choose_spec hh)
  have h3 := whileN_mono h (Nat.le_max_left n (Classical.choose hh))
  have h4 := whileN_mono h2 (Nat.le_max_right n (Classical.choose hh))
  rw [h3] at h4
  exact h4.symm
theorem whileP_unfold {σ ρ : Type} (step : σ → Option (σ ⊕ ρ)) (s : σ) : whileP step s = match step s with | none => none | some (.inl s') => whileP step s' | some (.inr r) => some r := by
 apply Option.ext
 intro r
 rw [whileP_spec]
 constructor
 ·rintro ⟨n, h⟩
  cases n with
  | zero => cases h
  | succ n =>
   unfold whileN at h
   split at h
   ·cases h
   ·rename_i s' hs; exact whileP_spec.2 ⟨n, h⟩
   ·rename_i r' hs; exact h
 ·intro h
  split at h
  ·cases h
  ·rename_i s' hs
   obtain ⟨n, hn⟩ := whileP_spec.1 h
   exact ⟨n + 1, by unfold whileN; simp only [hs]; exact hn⟩
  ·rename_i r' hs
   exact ⟨1, by unfold whileN; simp only [hs]; exact h⟩
section
variable {s : St}
end
section
variable {s : St}
theorem loop_cut {σ ρ : Type} {step : σ → Option (σ ⊕ ρ)} {x0 : σ} {y : ρ} (hrun : whileP step x0 = some y) {f : St → (Exit → St → Prop) → Prop} {K : Exit → St → Prop} (S : σ → St) (hle : s.le (S x0)) (R : ρ → Exit → St → Prop)
  (h : ∀ x z, step x = some z → ∀ K' : Exit → St → Prop, (∀ x', z = .inl x' → ∀ s', s'.le (S x') → K' .normal s') → (∀ y', z = .inr y' → ∀ e s', R y' e s' → e ≠ .normal → K' e s') → f (S x) K')
  (hend : ∀ e s', R y e s' → e ≠ .normal → K e s') : ∃ s' m, s.le s' ∧ iter f m s' K := by
 obtain ⟨n, hn⟩ := whileP_spec.1 hrun
 refine ⟨S x0, n, hle, ?_⟩
 clear hrun hle
 induction n generalizing x0 with
 | zero => cases hn
 | succ n ih =>
  unfold whileN at hn
  split at hn
  ·cases hn
  ·rename_i x' hx
   refine h x0 _ hx _ (fun x2 hx2 s' hs' => ⟨S x2, hs', by injection hx2 with hx2; subst hx2; exact ih hn⟩) (fun y' hy => by cases hy)
  ·rename_i r hx
   refine h x0 _ hx _ (fun x2 hx2 => by cases hx2) (fun y' hy e s' hR he => ?_)
   injection hy with hy
   injection hn with hn
   subst hy
   subst hn
   cases e with
   | normal => exact (he rfl).elim
   | _ => exact hend _ _ hR he
end
theorem upd_join {α : Type} [Inhabited α] {enc : α → Nat → AC} {sz : Nat} (hcp : ∀ x j, j < sz → (enc x j).cp = enc x j) {l xs : List α} {off : Nat} {N : Nat} (hN : N ≤ len l + (len xs - off)) :
  ∀ i, i < N → ∀ j, j < sz → joinC (len l) (row gd enc l) (fun i j => (row gd enc xs (off + i) j).cp) i j = row gd enc (l ++ xs.drop off) i j := by
 intro i hi j hj
 unfold joinC row gd len at *
 by_cases h : i < l.length
 ·rw [if_pos h]
  simp only [List.getD_eq_getElem?_getD, List.getElem?_append_left h]
 ·rw [if_neg h]
  show (enc (xs.getD (off + (i - l.length)) default) j).cp = _
  rw [hcp _ _ hj]
  simp only [List.getD_eq_getElem?_getD]
  rw [List.getElem?_append_right (by omega), List.getElem?_drop]
def encI (k : IntKind) (x : Int) : Nat → AC := fun _ => .v (.int k x)
def encB (b : Bool) : Nat → AC := fun _ => .v (.bool b)
def encS (s : ByteArray) : Nat → AC := fun _ => .v (.string s)
def encL {α : Type} [Inhabited α] (LEN : {α : Type} → List α → Nat) (GD : {α : Type} → [Inhabited α] → List α → Nat → α) (sz : Nat) (enc : α → Nat → AC) (l : List α) : Nat → AC := fun _ => .bs (LEN l) sz (row GD enc l)
section
variable {P : Program} {T : TT} {w0 w w' : World} {I0 : Fr} {I I' : Nat → Prop} {L L' : Lay} {s : St} {a : Act}
def swapN (k k' q : Nat) : Nat := if q = k then k' else if q = k' then k else q
theorem swapN_swapN (k k' q : Nat) : swapN k k' (swapN k k' q) = q := by
 unfold swapN
 by_cases h1 : q = k
 ·subst h1
  by_cases h2 : k' = q
  ·simp [h2]
  ·simp [h2]
 ·by_cases h2 : q = k'
  ·subst h2; simp [h1]
  ·simp [h1, h2]
def swapI (k k' : Nat) : Id → Id
 | .r q => .r (swapN k k' q)
 | .s q i j => .s (swapN k k' q) i j
def renSt (s : St) (k k' : Nat) : St :=
 ⟨s.t.map (AV.ren fun q => some (swapN k k' q)), fun q => (s.o (swapN k k' q)).ren fun q => some (swapN k k' q)⟩
theorem le_renG (k k' : Nat) (hk : k' % 2 = 0) (hg : k % 2 = 0 ∨ s.o k' = .gone) : s.le (renSt s k k') := by
 intro w0 I0 a w ⟨L, I, hR⟩
 obtain ⟨f, hf⟩ : ∃ f : Nat → Option Nat, f = fun q => some (swapN k k' q) := ⟨_, rfl⟩
 obtain ⟨o', ho'⟩ : ∃ o' : Nat → AO, o' = fun q => (s.o (swapN k k' q)).ren f := ⟨_, rfl⟩
 have hst : renSt s k k' = ⟨s.t.map (AV.ren f), o'⟩ := by rw [ho', hf]; rfl
 rw [hst]
 have hfs : ∀ q, (f q).isSome := fun q => by rw [hf]; rfl
 have hfq : ∀ q q', f q = some q' → q' = swapN k k' q := fun q q' h => by rw [hf] at h; injection h with h; exact h.symm
 obtain ⟨L', hL'⟩ : ∃ L' : Lay, L' = fun id => L (swapI k k' id) := ⟨_, rfl⟩
 have hLr : ∀ q, L' (.r q) = L (.r (swapN k k' q)) := fun q => by rw [hL']; rfl
 have hLs : ∀ q i j, L' (.s q i j) = L (.s (swapN k k' q) i j) := fun q i j => by rw [hL']; rfl
 have hor : ∀ q, o' q = (s.o (swapN k k' q)).ren f := fun q => by rw [ho']
 have hos : ∀ q i j, obj o' (.s q i j) = obj s.o (.s (swapN k k' q) i j) := fun q i j => by
  rw [obj_map (o := fun q => s.o (swapN k k' q)) (Turn.ren f) (hor q) i j]
  simp only [obj]
 have hsame : ∀ q q', f q = some q' → s.o q ≠ .gone → Same L (obj s.o) (.r q) L' (obj o') (.r q') := by
  intro q q' h hgq
  have e := hfq q q' h
  subst e
  refine ⟨by rw [hLr, swapN_swapN], ?_⟩
  show (s.o q).like (o' _)
  rw [hor, swapN_swapN]
  exact AO.like_map _ _ _ _ hgq
 have hfwd : ∀ (x : AC) (y : Value), RelC L I w (obj s.o) x y → RelC L' I w (obj o') (x.ren f) y := by
  intro x
  induction x with
  | fn g n caps ih =>
   intro y
   rintro ⟨cs, h1, h2, h3⟩
   refine ⟨cs, h1, h2, fun j hj => ?_⟩
   obtain ⟨u, hu, hrr⟩ := h3 j hj
   exact ⟨u, hu, by simp only [if_pos hj]; exact ih j u hrr⟩
  | os q a b =>
   intro y h
   obtain ⟨q', hq⟩ := Option.isSome_iff_exists.1 (hfs q)
   simp only [AC.ren, hq]
   have hgq : s.o q ≠ .gone := by
    obtain ⟨_, _, _, _, _, ho, _⟩ := h
    intro hgg; rw [show obj s.o (.r q) = _ from hgg] at ho; cases ho
   exact ((hsame q q' hq hgq).refs (I := I) (I' := I)).1 a b y h
  | ptr q a =>
   intro y h
   obtain ⟨q', hq⟩ := Option.isSome_iff_exists.1 (hfs q)
   simp only [AC.ren, hq]
   have hgq : s.o q ≠ .gone := by
    obtain ⟨_, _, ho, _⟩ := h
    intro hgg; rw [show obj s.o (.r q) = _ from hgg] at ho; cases ho
   exact ((hsame q q' hq hgq).refs (w := w) (I := I) (I' := I)).2.1 a y h
  | ep q a b =>
   intro y h
   obtain ⟨q', hq⟩ := Option.isSome_iff_exists.1 (hfs q)
   simp only [AC.ren, hq]
   have hgq : s.o q ≠ .gone := by
    obtain ⟨_, _, _, _, _, _, _, ho, _⟩ := h
    intro hgg; rw [show obj s.o (.r q) = _ from hgg] at ho; cases ho
   exact ((hsame q q' hq hgq).refs (w := w) (I := I) (I' := I)).2.2 a b y h
  | _ => intro y h; exact h
 have hlive : ∀ id b x, obj o' id ≠ .gone → L' id = some (b, x) → obj s.o (swapI k k' id) ≠ .gone ∧ L (swapI k k' id) = some (b, x) := by
  intro id b x hid hl
  cases id with
  | r q =>
   have : o' q ≠ .gone := hid
   rw [hor] at this
   exact ⟨AO.map_gone this, by rw [hLr] at hl; exact hl⟩
  | s q i j => rw [hos] at hid; exact ⟨hid, by rw [hLs] at hl; exact hl⟩
 have hswap : ∀ id id', swapI k k' id = swapI k k' id' → id = id' := by
  intro id id' h
  have h2 : swapI k k' (swapI k k' id) = swapI k k' (swapI k k' id') := by rw [h]
  cases id <;> cases id' <;> simp only [swapI, swapN_swapN] at h2 <;> exact h2
 have hobj : ∀ id, ObjOk L' I w (obj o') id := by
  intro id
  cases id with
  | r q =>
   obtain ⟨q0, hq0⟩ : ∃ q0, q0 = swapN k k' q := ⟨_, rfl⟩
   unfold ObjOk
   have hoq : obj o' (.r q) = (s.o q0).ren f := by rw [hq0]; exact hor q
   rw [hoq]
   cases hx : s.o q0 with
   | gone => trivial
   | var l =>
    obtain ⟨b, C, e, h1, h2, h3, h4, h5⟩ := hR.heap.var (id := .r q0) hx
    refine ⟨b, C, e, by rw [hLr, ← hq0]; exact h1, h2, h3, by simpa using h4, fun i x hxi => ?_⟩
    rw [List.getElem?_map, Option.map_eq_some_iff] at hxi
    obtain ⟨x0, hx0, rfl⟩ := hxi
    obtain ⟨u, hu, hr⟩ := h5 i x0 hx0
    exact ⟨u, hu, hfwd _ _ hr⟩
   | arr m rs N sz get =>
    obtain ⟨h1, h2⟩ := hR.heap.arr (id := .r q0) hx
    obtain ⟨rs', get', e1, e2, e3⟩ := renmap (Turn.ren f) (m := m) h2
    have e1' : (AO.arr m rs N sz get).ren f = .arr m rs' N sz get' := e1
    rw [e1']
    refine ⟨?_, e3⟩
    rcases h1 with ⟨g1, g2⟩ | ⟨b, base, C, e, g3, g4, g5, g6, g7⟩
    ·exact .inl ⟨by rw [hLr, ← hq0]; exact g1, g2⟩
    ·refine .inr ⟨b, base, C, e, by rw [hLr, ← hq0]; exact g3, g4, g5, g6, fun i hi j hj => ?_⟩
     obtain ⟨u, hu, hr⟩ := g7 i hi j hj
     refine ⟨u, hu, ?_⟩
     rw [e2 i hi j hj]
     cases hxo : isOw (get i j) with
     | false => exact RelX.of (hfwd _ _ hr.toC) (by rw [ren_ow]; exact hxo)
     | true =>
      cases hgx : get i j with
      | ow p z r =>
       rw [hgx] at hr
       rw [ren_fix _ _ (by simp [AC.ref])]
       refine Hdr.same (id := .s q0 i j) (id' := .s q i j) ⟨by rw [hLs, ← hq0], ?_⟩ hr
       rw [hos, ← hq0]
       refine AO.like_refl _ ?_
       obtain ⟨_, _, _, _, _, ho, _⟩ := hr
       rw [ho]; simp
      | _ => rw [hgx] at hxo; cases hxo
  | s q i j =>
   by_cases hlv : obj o' (.s q i j) = .gone
   ·unfold ObjOk; rw [hlv]; trivial
   ·rw [hos] at hlv
    obtain ⟨m2, rs2, n2, sz2, get2, p2, q2, g2, _, _, _, _, h3⟩ := obj_s hlv
    obtain ⟨h4, h5⟩ := hR.heap.arr h3
    unfold ObjOk
    rw [hos, h3]
    refine ⟨?_, h5⟩
    rcases h4 with ⟨h6, h7⟩ | ⟨b, base, C, e, h6, h7, h8, h9, h10⟩
    ·exact .inl ⟨by rw [hLs]; exact h6, h7⟩
    ·refine .inr ⟨b, base, C, e, by rw [hLs]; exact h6, h7, h8, h9, fun i' hi' j' hj' => ?_⟩
     obtain ⟨u, hu, hr⟩ := h10 i' hi' j' hj'
     refine ⟨u, hu, RelX.of ?_ (isOw_cp _)⟩
     have hnil : (g2 i' j').cp.ref = [] := List.eq_nil_iff_forall_not_mem.2 fun z hz => by simpa using h5 i' hi' j' hj' z hz
     exact RelI.toC _ _ (RelC.toI _ _ hnil hr.toC)
 refine ⟨L', I, ⟨hobj, fun id id' b x x' g1 g2 g3 g4 => ?_, hR.heap.imm, hR.heap.glo⟩, RelT.map hfwd hR.tmps, hR.defers, hR.below, hR.old, hR.only, fun id b x g1 g2 => ?_, fun q hq g1 => ?_⟩
 ·obtain ⟨h1, h2⟩ := hlive id b x g1 g3
  obtain ⟨h3, h4⟩ := hlive id' b x' g2 g4
  exact hswap _ _ (hR.heap.inj _ _ b x x' h1 h3 h2 h4)
 ·obtain ⟨h1, h2⟩ := hlive id b x g1 g2
  exact hR.new _ b x h1 h2
 ·have h1 : s.o (swapN k k' q) ≠ .gone := by
   have g2 : o' q ≠ .gone := g1
   rw [hor] at g2; exact AO.map_gone g2
  have hqk' : q ≠ k' := by rintro rfl; omega
  have hqk : q ≠ k := by
   rintro rfl
   rcases hg with hg | hg
   ·omega
   apply h1
   simp only [swapN, if_pos]; exact hg
  have e : swapN k k' q = q := by simp [swapN, hqk, hqk']
  rw [hLr, e]
  rw [e] at h1
  exact hR.kept q hq h1
theorem le_ren (k k' : Nat) (hk : k' % 2 = 0) (hg : s.o k' = .gone) : s.le (renSt s k k') := le_renG k k' hk (.inr hg)
end
def plainC : AC → Bool
 | .v _ | .bs .. | .bp .. => true
 | _ => false
def valC : AC → Bool
 | .v _ => true
 | _ => false
theorem plain_nil {x : AC} (h : plainC x = true) : x.ref = [] := by
 cases x <;> first | rfl | cases h
theorem plain_cp {x : AC} (h : plainC x = true) : x.cp = x := by
 cases x <;> first | rfl | cases h
theorem val_flat {x : AC} (h : valC x = true) : x.flat := by
 cases x <;> first | trivial | cases h
theorem les_nil : AV.les [] [] := trivial
theorem les_cons {x y : AV} {l q : List AV} (h : x.le y) (h' : AV.les l q) : AV.les (x :: l) (y :: q) := ⟨h, h'⟩
theorem le_bs {n n' sz : Nat} {g g' : Nat → Nat → AC} (hn : n = n') (h : ∀ i, i < n → ∀ j, j < sz → g i j = g' i j) : AV.le (.c (.bs n sz g)) (.c (.bs n' sz g')) := by
 subst hn
 intro L I w o v hv
 obtain ⟨a, cap, h1, h2, h3⟩ := hv
 refine ⟨a, cap, h1, h2, fun hn => ?_⟩
 obtain ⟨b, off, h4, h5, h6⟩ := h3 hn
 refine ⟨b, off, h4, h5, fun i hi j hj => ?_⟩
 obtain ⟨u, h7, h8⟩ := h6 i hi j hj
 exact ⟨u, h7, by rw [← h i hi j hj]; exact h8⟩
section
variable {α : Type} [Inhabited α] {G : {α : Type} → [Inhabited α] → List α → Nat → α} {s : St}
theorem give_os {enc : α → Nat → AC} {l : List α} {σ : Ren} {k n n' N sz : Nat} {m : Md} {rs : List Nat} (hpl : ∀ x j, plainC (enc x j) = true) (hk : s.o k = .arr m rs N sz (row G enc l)) (hb : Ren.back σ k = none) (hn : n = n') :
  AV.le (AV.map (AC.give (Ren.back σ) s.o) (.c (.os k 0 n))) (.c (.bs n' sz (row G enc l))) := by
 have e : AV.map (AC.give (Ren.back σ) s.o) (.c (.os k 0 n)) = .c (.bs n sz fun i j => match row G enc l (0 + i) j with
    | .os k' off' n' => if rs.contains k' then (match s.o k' with
     | .arr _ _ _ sz' get' => .bs n' sz' fun i' j' => (get' (off' + i') j').lentIn
     | _ => .junk) else .junk
    | x => x.lentIn) := by
  show AV.c (AC.give _ _ _) = _
  simp only [AC.give, hb, hk]
  rfl
 rw [e]
 refine le_bs hn fun i hi j hj => ?_
 rw [Nat.zero_add]
 have h := hpl (G l i) j
 unfold row
 cases hx : enc (G l i) j <;> rw [hx] at h <;> first | rfl | cases h
end
theorem le_nil_bs {sz : Nat} {g : Nat → Nat → AC} : AV.le (.c (.v (.slice none 0 0))) (.c (.bs 0 sz g)) := by
 intro L I w o v hv
 have h : v = .slice none 0 0 := hv.1
 subst h
 exact ⟨none, 0, rfl, Nat.le_refl _, fun h => by omega⟩
section
variable {α : Type} [Inhabited α]
theorem app_os {enc : α → Nat → AC} {sz N off : Nat} {l xs l2 : List α} (hpl : ∀ x j, plainC (enc x j) = true) (hl : l2 = l ++ xs.drop off) (hN : N ≤ len l2) :
  ∀ i, i < N → ∀ j, j < sz → joinC (len l) (row gd enc l) (fun i j => (row gd enc xs (off + i) j).cp) i j = row gd enc l2 i j := by
 subst hl
 refine upd_join (fun x j hj => plain_cp (hpl x j)) ?_
 unfold len at *
 simpa using hN
theorem app_bs {enc : α → Nat → AC} {sz N : Nat} {l xs l2 : List α} (hpl : ∀ x j, plainC (enc x j) = true) (hl : l2 = l ++ xs) (hN : N ≤ len l2) :
  ∀ i, i < N → ∀ j, j < sz → joinC (len l) (row gd enc l) (fun i j => (row gd enc xs i j).cp) i j = row gd enc l2 i j := by
 intro i hi j hj
 rw [← app_os (off := 0) hpl hl hN i hi j hj]
 unfold joinC
 simp only [Nat.zero_add]
end
section
variable {α : Type} [Inhabited α]
end
section
variable {α : Type} [Inhabited α]
end
def strL (s : ByteArray) : List Int := s.data.toList.map fun b => (b.toNat : Int)
def layoutB (T : TT) : List Field → Nat → Nat → Bool
 | [], off, n => off == n
 | f :: fs, off, n => f.offset == off && match T f.type with | some d => layoutB T fs (off + d.size) n | none => false
def okB (T : TT) : Nat → Nat → Bool
 | 0, _ => false
 | d + 1, t => match T t with
  | none => false
  | some td => match td.und with
   | .bool => td.size == 1
   | .int _ => td.size == 1
   | .string => td.size == 1
   | .slice e => td.size == 1 && okB T d e && match T e with | some ed => decide (0 < ed.size) | none => false
   | .struct fs => layoutB T fs.toList 0 td.size && fs.toList.all fun f => okB T d f.type
   | _ => false
def ShF (S : Nat → List AC → Prop) : List Field → List AC → Prop
 | [], cs => cs = []
 | f :: fs, cs => ∃ a b, cs = a ++ b ∧ S f.type a ∧ ShF S fs b
def Shape (T : TT) : Nat → Nat → List AC → Prop
 | 0, _, _ => False
 | d + 1, t, cs => match T t with
  | none => False
  | some td => match td.und with
   | .bool => ∃ b, cs = [.v (.bool b)]
   | .int k => ∃ x, cs = [.v (.int k x)] ∧ (Lit.int k x).wf = true
   | .string => ∃ s : ByteArray, cs = [.v (.string s)] ∧ s.size ≤ maxLen
   | .slice e => ∃ n sz get, cs = [.bs n sz get] ∧ n ≤ maxLen ∧ (∃ ed, T e = some ed ∧ sz = ed.size) ∧ ∀ i, i < n → Shape T d e ((List.range sz).map (get i))
   | .struct fs => ShF (Shape T d) fs.toList cs
   | _ => False
section
variable {P : Program} {T : TT} {H : Type} {enc : TypeId × Value → H} {W : World} {spare : Nat → Bool} {held : Bool}
def RelVs (W : World) (cs : List AC) (vs : List Value) : Prop := cs.length = vs.length ∧ ∀ (i : Nat) c, cs[i]? = some c → ∃ u, vs[i]? = some u ∧ RelI (fun b => b < W.heap.size) W c u
theorem cellsOf_T (hT : TOk P T) {t : Nat} {d : TD} (h : T t = some d) : P.cellsOf t = d.size := by
 obtain ⟨i, h1, h2, _⟩ := (hT t d h).2.1
 simp [Program.cellsOf, h1, h2]
theorem one_rel {c : AC} {v : Value} (h : RelI (fun b => b < W.heap.size) W c v) : RelVs W [c] [v] := by
 refine ⟨rfl, fun i x hx => ?_⟩
 cases i with
 | zero => simp at hx; subst hx; exact ⟨v, rfl, h⟩
 | succ i => simp at hx
theorem shape_of_trod (hT : TOk P T) : ∀ (d t fuel : Nat) (vs : List Value) (x : DataW H × List MemPlace), okB T d t = true → DataW.trod enc P W 0 spare held fuel t vs = some x →
  ∃ cs, Shape T d t cs ∧ vs.length = P.cellsOf t ∧ RelVs W cs vs := by
 intro d
 induction d with
 | zero => intro t fuel vs x h; cases h
 | succ d ih =>
  intro t fuel vs x hok h
  unfold okB at hok
  unfold Shape
  cases htd : T t with
  | none => rw [htd] at hok; cases hok
  | some td =>
   rw [htd] at hok
   simp only at hok ⊢
   have hu := (hT t td htd).1
   have hsz := cellsOf_T hT htd
   split at hok
   ·rename_i hund
    rw [hund] at hu
    obtain ⟨b, rfl, _⟩ := DataW.trod_bool hu h
    exact ⟨_, ⟨b, rfl⟩, by simp at hok; simp [hsz, hok], one_rel ⟨rfl, rfl⟩⟩
   ·rename_i k hund
    rw [hund] at hu
    obtain ⟨n, rfl, _, hw⟩ := DataW.trod_int hu h
    exact ⟨_, ⟨n, rfl, hw⟩, by simp at hok; simp [hsz, hok], one_rel ⟨rfl, rfl⟩⟩
   ·rename_i hund
    rw [hund] at hu
    obtain ⟨s, rfl, _, hw⟩ := DataW.trod_string hu h
    exact ⟨_, ⟨s, rfl, hw⟩, by simp at hok; simp [hsz, hok], one_rel ⟨rfl, rfl⟩⟩
   ·rename_i e hund
    rw [hund] at hu
    simp only [Bool.and_eq_true, beq_iff_eq] at hok
    obtain ⟨⟨ho1, ho2⟩, ho3⟩ := hok
    cases hte : T e with
    | none => rw [hte] at ho3; cases ho3
    | some ed =>
     rw [hte] at ho3
     have hpos : 0 < ed.size := by simpa using ho3
     have hce := cellsOf_T hT hte
     rcases DataW.trod_slice hu h with ⟨rfl, _⟩ | ⟨a, len, cap, elems, rest, n, rfl, rfl, _, _, hlc, hcm, hel, hget, _, _⟩
     ·exact ⟨_, ⟨0, ed.size, fun _ _ => .junk, rfl, Nat.zero_le _, ⟨ed, rfl, rfl⟩, fun i hi => absurd hi (by omega)⟩, by simp [hsz, ho1], one_rel ⟨none, 0, rfl, Nat.le_refl _, fun hh => absurd hh (by omega)⟩⟩
     ·have hall : ∀ i, i < len → ∃ cs : List AC, Shape T d e cs ∧ cs.length = ed.size ∧ ∀ (j : Nat) c, cs[j]? = some c → ∃ u, W.cell? ((a.add (i * ed.size)).add j) = some u ∧ RelI (fun b => b < W.heap.size) W c u := by
       intro i hi
       have h1 := hget i hi
       rw [hce] at h1
       have h2 : elems[i]? = some elems[i] := List.getElem?_eq_getElem (by omega)
       rw [h2, Option.bind_eq_some_iff] at h1
       obtain ⟨us, hus, htr⟩ := h1
       obtain ⟨_, hul, huc⟩ := World.cells?_some hus
       obtain ⟨cs, hs, _, hl, hc⟩ := ih e n us _ ho2 htr
       refine ⟨cs, hs, by rw [hl, hul], fun j c hj => ?_⟩
       obtain ⟨u, hu', hr⟩ := hc j c hj
       have hjl : j < ed.size := by rw [← hul, ← hl]; exact (List.getElem?_eq_some_iff.1 hj).1
       exact ⟨u, by rw [huc j hjl]; exact hu', hr⟩
      have hex : ∃ g : Nat → List AC, ∀ i, i < len → Shape T d e (g i) ∧ (g i).length = ed.size ∧ ∀ (j : Nat) c, (g i)[j]? = some c → ∃ u, W.cell? ((a.add (i * ed.size)).add j) = some u ∧ RelI (fun b => b < W.heap.size) W c u := by
       classical
       refine ⟨fun i => if hi : i < len then (hall i hi).choose else [], fun i hi => ?_⟩
       simp only [dif_pos hi]
       exact (hall i hi).choose_spec
      obtain ⟨g, hg⟩ := hex
      refine ⟨_, ⟨len, ed.size, fun i j => (g i).getD j .junk, rfl, by omega, ⟨ed, rfl, rfl⟩, fun i hi => ?_⟩, by simp [hsz, ho1], one_rel ⟨some a, cap, rfl, hlc, fun hn => ?_⟩⟩
      ·have h1 := (hg i hi).1
       have h2 : (List.range ed.size).map (fun j => (g i).getD j .junk) = g i := by
        apply List.ext_getElem?
        intro j
        rw [List.getElem?_map]
        by_cases hj : j < ed.size
        ·rw [List.getElem?_range hj]
         have : j < (g i).length := by rw [(hg i hi).2.1]; exact hj
         simp [List.getD_eq_getElem?_getD, List.getElem?_eq_getElem this]
        ·rw [List.getElem?_eq_none (by simpa using hj), List.getElem?_eq_none (by rw [(hg i hi).2.1]; omega)]; rfl
       rw [h2]; exact h1
      ·have hcell : ∀ i, i < len → ∀ j, j < ed.size → ∃ u, W.cell? ((a.add (i * ed.size)).add j) = some u ∧ RelI (fun b => b < W.heap.size) W ((g i).getD j .junk) u := by
        intro i hi j hj
        have hjl : j < (g i).length := by rw [(hg i hi).2.1]; exact hj
        have e1 : (g i)[j]? = some ((g i).getD j .junk) := by simp [List.getD_eq_getElem?_getD, List.getElem?_eq_getElem hjl]
        exact (hg i hi).2.2 j _ e1
       obtain ⟨u0, hu0, _⟩ := hcell 0 hn 0 hpos
       have hsp : a.spot = none ∧ a.block < W.heap.size := by
        simp only [Nat.zero_mul, Addr.add, if_true] at hu0
        unfold World.cell? at hu0
        split at hu0
        ·rename_i c _ _ hb
         split at hu0
         ·cases hu0
         ·rename_i hs
          exact ⟨by simpa using hs, (Array.getElem?_eq_some_iff.1 hb).1⟩
        ·cases hu0
       obtain ⟨ab, ao, asp⟩ := a
       simp only at hsp
       obtain ⟨rfl, hblk⟩ := hsp
       refine ⟨ab, ao, rfl, hblk, fun i hi j hj => ?_⟩
       obtain ⟨u, hu', hr⟩ := hcell i hi j hj
       refine ⟨u, ?_, hr⟩
       rw [← hu', addr_add, addr_add, Nat.add_assoc]
   ·rename_i fs hund
    rw [hund] at hu
    simp only [Bool.and_eq_true] at hok
    obtain ⟨hlay, hall⟩ := hok
    obtain ⟨xs, n, rfl, _, hlen, hxl, hget⟩ := DataW.trod_struct hu h
    have key : ∀ (l : List Field) (off : Nat), layoutB T l off td.size = true → (∀ f ∈ l, okB T d f.type = true ∧ ∃ x, DataW.trod enc P W 0 spare held n f.type ((vs.drop f.offset).take (P.cellsOf f.type)) = some x) →
      ∃ cs, ShF (Shape T d) l cs ∧ off + cs.length = td.size ∧ ∀ (i : Nat) c, cs[i]? = some c → ∃ u, vs[off + i]? = some u ∧ RelI (fun b => b < W.heap.size) W c u := by
     intro l
     induction l with
     | nil =>
      intro off hl _
      simp [layoutB] at hl
      exact ⟨[], rfl, by simpa using hl, fun i c hc => by simp at hc⟩
     | cons f l ihl =>
      intro off hl hf
      unfold layoutB at hl
      simp only [Bool.and_eq_true, beq_iff_eq] at hl
      obtain ⟨hoff, hl⟩ := hl
      cases htf : T f.type with
      | none => rw [htf] at hl; cases hl
      | some fd =>
       rw [htf] at hl
       simp only at hl
       obtain ⟨hf1, y, hf2⟩ := hf f (by simp)
       obtain ⟨ca, hs1, hs2, hs3, hs4⟩ := ih f.type n _ _ hf1 hf2
       obtain ⟨cb, hb1, hb2, hb3⟩ := ihl (off + fd.size) hl (fun f' hf' => hf f' (by simp [hf']))
       have hcf := cellsOf_T hT htf
       have hcal : ca.length = fd.size := by rw [hs3, hs2, hcf]
       refine ⟨ca ++ cb, ⟨ca, cb, rfl, hs1, hb1⟩, by simp [hcal]; omega, fun i c hc => ?_⟩
       rw [List.getElem?_append, hcal] at hc
       split at hc
       ·rename_i hi
        obtain ⟨u, hu', hr⟩ := hs4 i c hc
        rw [List.getElem?_take, hcf, if_pos hi, List.getElem?_drop, hoff] at hu'
        exact ⟨u, hu', hr⟩
       ·rename_i hi
        obtain ⟨u, hu', hr⟩ := hb3 (i - fd.size) c hc
        exact ⟨u, by rw [show off + i = off + fd.size + (i - fd.size) by omega]; exact hu', hr⟩
    obtain ⟨cs, g1, g2, g3⟩ := key fs.toList 0 hlay (fun f hf => by
     refine ⟨List.all_eq_true.1 hall f hf, ?_⟩
     obtain ⟨i, hi⟩ := List.mem_iff_getElem?.1 hf
     have h1 := hget i f (by rwa [Array.getElem?_toList] at hi)
     have hil : i < xs.length := by
      have := (List.getElem?_eq_some_iff.1 hi).1
      rw [hxl]; simpa using this
     exact ⟨xs[i], by rw [h1]; exact List.getElem?_eq_getElem hil⟩)
    refine ⟨cs, g1, hlen, ?_, fun i c hc => by obtain ⟨u, hu', hr⟩ := g3 i c hc; exact ⟨u, by simpa using hu', hr⟩⟩
    rw [hlen, hsz]; omega
   ·cases hok
theorem open_agg (hT : TOk P T) {d t : Nat} {v : Value} {x : DataW H} {ps : List MemPlace} (hok : okB T d t = true) {a : Array Value} (hv : v = .agg a) (h : DataW.Trod enc P W 0 spare held t v x ps) :
  ∃ cs, Shape T d t cs ∧ RelV (RelI (fun b => b < W.heap.size) W) (.agg cs) v := by
 obtain ⟨fuel, h⟩ := h
 subst hv
 obtain ⟨cs, hs, _, hl, hc⟩ := shape_of_trod hT d t fuel _ _ hok h
 refine ⟨cs, hs, a, rfl, by simpa [Value.cells] using hl.symm, fun i c hi => ?_⟩
 obtain ⟨u, hu, hr⟩ := hc i c hi
 exact ⟨u, by simpa [Value.cells] using hu, hr⟩
end
theorem glo_nil {I : Nat → Prop} {w : World} (h : glob = []) : Glo I w := fun x hx => by rw [h] at hx; cases hx
theorem Fun.yes {P : Program} {f : FuncId} {args : List AV} {fl : Bool} (h : Fun P f args [] (.c (.v (.bool true))) [] fl) {vals : Array Value} {W : World} (hrel : RelT (RelI (fun b => b < W.heap.size) W) args vals) (hglo : Glo (fun b => b < W.heap.size) W := by exact glo_nil rfl) :
  Calls P f vals W fun e w' => e = .returned (.bool true) ∧ Below W.heap.size W w' := by
 have hH : HRel (fun _ => none) (fun b => b < W.heap.size) W (obj (lookO [])) := by
  have hg : ∀ id, obj (lookO []) id = .gone := by
   intro id
   cases id with
   | r k => rfl
   | s k i j => rfl
  exact ⟨fun id => by unfold ObjOk; rw [hg]; trivial, fun id id' b x x' g1 => (g1 (hg id)).elim, fun b hb => hb, hglo⟩
 have hT : RelT (RelC (fun _ => none) (fun b => b < W.heap.size) W (obj (lookO []))) args vals := by
  refine ⟨hrel.1, fun i x hx => ?_⟩
  obtain ⟨u, hu, hr⟩ := hrel.2 i x hx
  refine ⟨u, hu, ?_⟩
  cases x with
  | any => trivial
  | c c => exact RelI.toC _ _ hr
  | agg l =>
   obtain ⟨ys, rfl, h1, h2⟩ := hr
   exact ⟨ys, rfl, h1, fun i x hx => by obtain ⟨u, hu, hr⟩ := h2 i x hx; exact ⟨u, hu, RelI.toC _ _ hr⟩⟩
  | tup l =>
   obtain ⟨ys, rfl, h1, h2⟩ := hr
   refine ⟨ys, rfl, h1, fun i x hx => ?_⟩
   obtain ⟨u, hu, hr⟩ := h2 i x hx
   refine ⟨u, hu, ?_⟩
   cases x with
   | c c => exact RelI.toC _ _ hr
   | agg l =>
    obtain ⟨ys, rfl, h1, h2⟩ := hr
    exact ⟨ys, rfl, h1, fun i x hx => by obtain ⟨u, hu, hr⟩ := h2 i x hx; exact ⟨u, hu, RelI.toC _ _ hr⟩⟩
   | tup l => exact hr.elim
   | any => exact hr.elim
 refine (h.2.2 vals W _ _ hH hT).mono fun e w' hh => ?_
 obtain ⟨v, I', L', rfl, _, _, _, hr, _, _, hb⟩ := hh
 have hv : v = .bool true := hr.1
 subst hv
 refine ⟨rfl, BelowE.none ⟨hb.os, hb.tape, hb.output, hb.size, fun k hk _ => hb.block k hk ?_⟩⟩
 rintro ⟨id, x, hg, _⟩
 apply hg
 cases id <;> rfl
theorem relT_nil {R : AC → Value → Prop} : RelT R [] #[] := ⟨rfl, fun i x h => by simp at h⟩
theorem relT_of {R : AC → Value → Prop} {l : List AV} {vs : List Value} (hl : vs.length = l.length) (h : ∀ (i : Nat) x, l[i]? = some x → ∃ u, vs[i]? = some u ∧ RelV R x u) : RelT R l vs.toArray :=
 ⟨by simpa using hl, fun i x hx => by obtain ⟨u, hu, hr⟩ := h i x hx; exact ⟨u, by simpa using hu, hr⟩⟩
theorem relT_cons {R : AC → Value → Prop} {l : List AV} {vs : List Value} {x : AV} {v : Value} (h : RelV R x v) (ht : RelT R l vs.toArray) : RelT R (x :: l) (v :: vs).toArray := by
 refine relT_of (by have := ht.1; simp at this; simp [this]) fun i y hy => ?_
 cases i with
 | zero => simp at hy; subst hy; exact ⟨v, rfl, h⟩
 | succ i =>
  obtain ⟨u, hu, hr⟩ := ht.2 i y (by simpa using hy)
  exact ⟨u, by simpa using hu, hr⟩
section
variable {P : Program} {T : TT} {w0 w w' : World} {I0 : Fr} {I I' : Nat → Prop} {L L' : Lay} {s : St} {a : Act}
def patchC (g : Nat → Nat → AC) (i : Nat) (cs : List AC) : Nat → Nat → AC := fun a b => if a = i then cs.getD b .junk else g a b
def foldP (s : St) (k : Nat) (m : Md) (rs : List Nat) (N sz : Nat) (g : Nat → Nat → AC) (i : Nat) (cs : List AC) (j S n2 sz2 : Nat) (g2 : Nat → Nat → AC) : St :=
 ⟨(s.kill [S]).t, updO (s.kill [S]).o k (.arr m rs N sz (patchC g i ((cs.map (AC.kill [S])).set j (.ow n2 sz2 g2))))⟩
theorem kill_noref {x : AC} {ks : List Nat} (h : x.ref = []) : x.kill ks = x := AC.kill_id (by rw [h]; intro z hz; cases hz)
theorem le_foldP {m m2 : Md} {rs : List Nat} {N sz n2 sz2 i : Nat} {g g2 : Nat → Nat → AC} {cs : List AC} (k j S : Nat) (hk : s.o k = .arr m rs N sz (patchC g i cs)) (hS : s.o S = .arr m2 [] n2 sz2 g2) (hm2 : m2.w = true) (hkS : k ≠ S) (hi : i < N) (hj : j < sz) (hg : cs[j]? = some (.os S 0 n2)) (hpl : ∀ a b, (g a b).ref = []) :
  s.le (foldP s k m rs N sz g i cs j S n2 sz2 g2) := by
 have hjl := (List.getElem?_eq_some_iff.1 hg).1
 have h := le_fold (j := j) hk hS hm2 hkS hi hj (by simp [patchC, List.getD_eq_getElem?_getD, hg])
 have e : foldSt s k i j S = foldP s k m rs N sz g i cs j S n2 sz2 g2 := by
  unfold foldSt foldP
  simp only [hk, hS]
  congr 3
  funext a b
  unfold patchC
  by_cases h1 : a = i
  ·subst h1
   by_cases h2 : b = j
   ·subst h2
    simp [List.getD_eq_getElem?_getD, hjl]
   ·simp only [h2, and_false, if_false, if_true]
    rw [List.getD_eq_getElem?_getD, List.getD_eq_getElem?_getD, List.getElem?_set_ne (Ne.symm h2), List.getElem?_map]
    cases cs[b]? <;> rfl
  ·simp only [h1, false_and, if_false]
   exact kill_noref (hpl a b)
 rw [← e]; exact h
theorem le_nilG {m : Md} {rs : List Nat} {N sz : Nat} {get get' : Nat → Nat → AC} (k : Nat) (hk : s.o k = .arr m rs N sz get)
  (h : ∀ i, i < N → ∀ j, j < sz → get' i j = get i j ∨ (get i j = .v (.slice none 0 0) ∧ ∃ z g, get' i j = .ow 0 z g)) : s.le ⟨s.t, updO s.o k (.arr m rs N sz get')⟩ := by
 intro w0 I0 a w ⟨L, I, hR⟩
 obtain ⟨o2, ho2⟩ : ∃ o2, o2 = updO s.o k (.arr m rs N sz get') := ⟨_, rfl⟩
 rw [← ho2]
 have hko : o2 k = .arr m rs N sz get' := by rw [ho2]; simp [updO]
 have hother : ∀ q, q ≠ k → o2 q = s.o q := fun q h1 => by rw [ho2]; simp [updO, h1]
 obtain ⟨L2, hL2⟩ : ∃ L2 : Lay, L2 = fun id => match id with | .s q i j => if q = k ∧ isOw (get i j) = false then none else L (.s q i j) | .r q => L (.r q) := ⟨_, rfl⟩
 have hLr : ∀ q, L2 (.r q) = L (.r q) := fun q => by rw [hL2]
 have hLs : ∀ q i j, q ≠ k → L2 (.s q i j) = L (.s q i j) := fun q i j hq => by rw [hL2]; simp [hq]
 have hLk : ∀ i j, isOw (get i j) = true → L2 (.s k i j) = L (.s k i j) := fun i j hx => by rw [hL2]; simp [hx]
 have hLn : ∀ i j, isOw (get i j) = false → L2 (.s k i j) = none := fun i j hx => by rw [hL2]; simp [hx]
 have hO := hR.heap.arr (id := .r k) hk
 have hcell : ∀ i j, i < N → j < sz → isOw (get i j) = true → get' i j = get i j := by
  intro i j hi hj hx
  rcases h i hi j hj with h1 | ⟨h1, _⟩
  ·exact h1
  ·rw [h1] at hx; cases hx
 have hsubT : ∀ i j, isOw (get i j) = true → obj o2 (.s k i j) = obj s.o (.s k i j) := by
  intro i j hx
  by_cases hlt : i < N ∧ j < sz
  ·simp only [obj, hko, hk, if_pos hlt, hcell i j hlt.1 hlt.2 hx]
  ·simp only [obj, hko, hk, if_neg hlt]
 have hsubG : ∀ i j, isOw (get i j) = false → obj s.o (.s k i j) = .gone := by
  intro i j hx
  simp only [obj, hk]
  split
  ·exact subO'_not hx
  ·rfl
 have hsubF : ∀ i j, isOw (get i j) = false → obj o2 (.s k i j) = .gone ∨ ∃ z g, obj o2 (.s k i j) = .arr .rw [] 0 z g := by
  intro i j hx
  by_cases hlt : i < N ∧ j < sz
  ·rcases h i hlt.1 j hlt.2 with h1 | ⟨h1, z, g, h2⟩
   ·refine .inl ?_
    simp only [obj, hko, if_pos hlt, h1]; exact subO'_not hx
   ·exact .inr ⟨z, fun i j => (g i j).cp, by simp only [obj, hko, if_pos hlt, h2, subO']⟩
  ·refine .inl ?_
   simp only [obj, hko, if_neg hlt]
 have hlikek : (s.o k).like (o2 k) := by rw [hk, hko]; exact ⟨rfl, rfl, fun c h => h⟩
 have hK : Keeps [] L I w (obj s.o) L2 I w (obj o2) := by
  refine ⟨fun b hb => ⟨hb, rfl⟩, fun q hq hgq => ⟨hLr q, ?_, fun b x C e hL hC => ⟨C, hC, rfl⟩⟩⟩
  by_cases hqk : q = k
  ·subst hqk; exact hlikek
  ·show (s.o q).like (o2 q)
   rw [hother q hqk]; exact AO.like_refl _ hgq
 have M := hK.moves
 have hlive : ∀ id : Id, obj o2 id ≠ .gone → (obj s.o id ≠ .gone ∧ L2 id = L id) ∨ L2 id = none := by
  intro id hid
  cases id with
  | r q =>
   refine .inl ⟨?_, hLr q⟩
   by_cases hqk : q = k
   ·subst hqk; show s.o q ≠ .gone; rw [hk]; simp
   ·have : o2 q ≠ .gone := hid
    rw [hother q hqk] at this; exact this
  | s q i j =>
   by_cases hqk : q = k
   ·subst hqk
    cases hx : isOw (get i j) with
    | true => rw [hsubT i j hx] at hid; exact .inl ⟨hid, hLk i j hx⟩
    | false => exact .inr (hLn i j hx)
   ·refine .inl ⟨?_, hLs q i j hqk⟩
    simp only [obj] at hid ⊢
    rw [hother q hqk] at hid; exact hid
 have := hR.step (Turn.kill []) M (o' := o2) (fun q => q = k) (fun q hq => ?_) (fun q hq id hr => ?_) ?_ hR.heap.imm hR.heap.glo (fun b hb => hb) hR.only hR.below ?_ ?_
 ·have e0 : AV.map (AC.kill []) = id := AV.kill_nil'
  rw [e0, List.map_id] at this
  exact ⟨L2, I, this⟩
 ·refine .inr ⟨by rw [hother q hq]; exact (AO.kill_nil _).symm, fun id hr hg2 => ⟨?_, fun b x hL => ⟨rfl, fun h => h⟩⟩⟩
  cases id with
  | r q' => exact hLr q'
  | s q' i j => exact hLs q' i j (by rintro rfl; exact hq hr.symm)
 ·subst hq
  cases id with
  | r q' =>
   have e : q' = q := hr
   subst e
   unfold ObjOk
   rw [show obj o2 (.r q') = _ from hko, hLr]
   refine ⟨?_, fun a ha b hb z hz => ?_⟩
   ·rcases hO.1 with h1 | ⟨b, base, C, e, h1, h2, h3, h4, h5⟩
    ·exact .inl h1
    ·refine .inr ⟨b, base, C, e, h1, h2, h3, h4, fun a ha c hc => ?_⟩
     obtain ⟨u, hu, hr⟩ := h5 a ha c hc
     refine ⟨u, hu, ?_⟩
     rcases h a ha c hc with e1 | ⟨e1, z, g, e2⟩
     ·rw [e1]
      have := RelX.map (Turn.kill []) M (id := .r q') (i := a) (j := c) (fun k' hk' hg2 => ?_) hr
      ·rwa [AC.kill_nil] at this
      ·injection hk' with hk'; subst hk'
       cases hx : isOw (get a c) with
       | true => exact ⟨hLk a c hx, by rw [hsubT a c hx]; exact AO.like_refl _ hg2, fun b x C e hL hC => ⟨C, hC, rfl⟩⟩
       | false => exact (hg2 (hsubG a c hx)).elim
     ·rw [e2]
      rw [e1] at hr
      have hu0 : u = .slice none 0 0 := hr.1
      subst hu0
      have hx : isOw (get a c) = false := by rw [e1]; rfl
      refine ⟨.rw, [], 0, z, fun i j => (g i j).cp, ?_, .inl ⟨hLn a c hx, rfl, rfl, rfl, ⟨_, rfl⟩, fun c hc => by cases hc⟩⟩
      simp only [obj, hko, if_pos (And.intro ha hc), e2, subO']
   ·rcases h a ha b hb with e1 | ⟨e1, z', g, e2⟩
    ·rw [e1] at hz; exact hO.2 a ha b hb z hz
    ·rw [e2] at hz; cases hz
  | s q' a b =>
   have e : q' = q := hr
   subst e
   cases hx : isOw (get a b) with
   | true =>
    by_cases hgo : obj o2 (.s q' a b) = .gone
    ·unfold ObjOk; rw [hgo]; trivial
    ·have hgo' : obj s.o (.s q' a b) ≠ .gone := by rw [hsubT a b hx] at hgo; exact hgo
     refine (hR.heap.ok (.s q' a b)).map (Turn.kill []) M ?_ (fun _ => hLk a b hx) (fun _ b x _ => ⟨rfl, fun h => h⟩) (fun _ _ _ h => by cases h)
     rw [hsubT a b hx]
     exact (AO.kill_nil _).symm
   | false =>
    rcases hsubF a b hx with f1 | ⟨z, g, f1⟩
    ·unfold ObjOk; rw [f1]; trivial
    ·unfold ObjOk
     rw [f1]
     exact ⟨.inl ⟨hLn a b hx, rfl, fun c hc => by cases hc⟩, fun i hi => absurd hi (by omega)⟩
 ·intro id id' b x x' g1 g2 g3 g4
  rcases hlive id g1 with ⟨h1, h2⟩ | h1
  ·rcases hlive id' g2 with ⟨h3, h4⟩ | h3
   ·rw [h2] at g3; rw [h4] at g4; exact hR.heap.inj id id' b x x' h1 h3 g3 g4
   ·rw [h3] at g4; cases g4
  ·rw [h1] at g3; cases g3
 ·intro id b x g1 g2
  rcases hlive id g1 with ⟨h1, h2⟩ | h1
  ·rw [h2] at g2; exact hR.new id b x h1 g2
  ·rw [h1] at g2; cases g2
 ·intro q hq g1
  rw [hLr]
  refine hR.kept q hq ?_
  by_cases hqk : q = k
  ·subst hqk; rw [hk]; simp
  ·rw [hother q hqk] at g1; exact g1
end
def aggle : List AC → List AC → Prop
 | [], [] => True
 | x :: r, y :: q => AV.le (.c x) (.c y) ∧ aggle r q
 | _, _ => False
theorem aggle_len : ∀ {l q : List AC}, aggle l q → l.length = q.length
 | [], [], _ => rfl
 | x :: r, y :: q, h => by simp [aggle_len h.2]
 | [], _ :: _, h => h.elim
 | _ :: _, [], h => h.elim
theorem aggle_get : ∀ {l q : List AC}, aggle l q → ∀ {i : Nat} {y : AC}, q[i]? = some y → ∃ x, l[i]? = some x ∧ AV.le (.c x) (.c y)
 | [], [], _, i, y, h => by simp at h
 | x :: r, y' :: q, h, 0, y, hy => by simp at hy; subst hy; exact ⟨x, rfl, h.1⟩
 | x :: r, y' :: q, h, i + 1, y, hy => by
  obtain ⟨x', h1, h2⟩ := aggle_get h.2 (i := i) (y := y) (by simpa using hy)
  exact ⟨x', by simpa using h1, h2⟩
 | [], _ :: _, h, _, _, _ => h.elim
 | _ :: _, [], h, _, _, _ => h.elim
theorem le_agg {l q : List AC} (h : aggle l q) : AV.le (.agg l) (.agg q) := by
 intro L I w o v hv
 obtain ⟨ys, rfl, hs, hc⟩ := hv
 refine ⟨ys, rfl, hs.trans (aggle_len h), fun i y hy => ?_⟩
 obtain ⟨x, hx, hle⟩ := aggle_get h hy
 obtain ⟨u, hu, hr⟩ := hc i x hx
 exact ⟨u, hu, hle L I w o u hr⟩
def rle (x y : AC) : Prop := ∀ I w v, RelI I w x v → RelI I w y v
theorem rle_refl (x : AC) : rle x x := fun _ _ _ h => h
theorem le_bp {n n' : Nat} {g g' : Nat → AC} (hn : n' ≤ n) (h : ∀ j, j < n' → rle (g j) (g' j)) : AV.le (.c (.bp n g)) (.c (.bp n' g')) := by
 intro L I w o v hv
 obtain ⟨b, off, h1, h2, h3⟩ := hv
 refine ⟨b, off, h1, h2, fun j hj => ?_⟩
 obtain ⟨u, hu, hr⟩ := h3 j (Nat.lt_of_lt_of_le hj hn)
 exact ⟨u, hu, h j hj I w u hr⟩
theorem noref {x : AC} (h : x.ref = []) {z : Nat} (hz : z ∈ x.ref) : False := by rw [h] at hz; cases hz
section
variable {α : Type} [Inhabited α] {G : {α : Type} → [Inhabited α] → List α → Nat → α} {s : St}
theorem give_osD {eo eb : α → Nat → AC} {l : List α} {σ : Ren} {k n n' N sz : Nat} {m : Md} {rs : List Nat} (h1 : ∀ x j, (eo x j).ref = []) (h2 : ∀ x j, (eo x j).lentIn = eb x j) (hk : s.o k = .arr m rs N sz (row G eo l)) (hb : Ren.back σ k = none) (hn : n = n') :
  AV.le (AV.map (AC.give (Ren.back σ) s.o) (.c (.os k 0 n))) (.c (.bs n' sz (row G eb l))) := by
 have e : AV.map (AC.give (Ren.back σ) s.o) (.c (.os k 0 n)) = .c (.bs n sz fun i j => match row G eo l (0 + i) j with
    | .os k' off' n' => if rs.contains k' then (match s.o k' with
     | .arr _ _ _ sz' get' => .bs n' sz' fun i' j' => (get' (off' + i') j').lentIn
     | _ => .junk) else .junk
    | x => x.lentIn) := by
  show AV.c (AC.give _ _ _) = _
  simp only [AC.give, hb, hk]
  rfl
 rw [e]
 refine le_bs hn fun i hi j hj => ?_
 rw [Nat.zero_add]
 have g1 := h1 (G l i) j
 have g2 := h2 (G l i) j
 unfold row
 rw [← g2]
 cases hx : eo (G l i) j <;> rw [hx] at g1 <;> first | rfl | (simp [AC.ref] at g1)
end
def subL {α : Type} (l : List α) (a b : Nat) : List α := (l.drop a).take (b - a)
section
variable {α : Type}
theorem subL_len (l : List α) (a b : Nat) (h : b ≤ l.length) : (subL l a b).length = b - a := by
 unfold subL; rw [List.length_take, List.length_drop]; omega
theorem app_lt {l l2 : List α} {x : α} (hl : l2 = l ++ [x]) : len l < len l2 := by subst hl; unfold len; simp
theorem rep_len {l : List α} {x : α} {n : Nat} (hl : l = List.replicate n x) : n = len l := by subst hl; exact (List.length_replicate ..).symm
end
section
variable {α : Type} [Inhabited α]
theorem subL_gd (l : List α) (a b i : Nat) (hi : i < b - a) : gd (subL l a b) i = gd l (a + i) := by
 unfold subL gd
 rw [List.getD_eq_getElem?_getD, List.getElem?_take, if_pos hi, List.getElem?_drop, ← List.getD_eq_getElem?_getD]
theorem le_sub {enc : α → Nat → AC} {l l2 : List α} {sz : Nat} {lo hi : Int} (h1 : std.upTo hi (len l)) (h2 : std.upTo lo (std.toN hi)) (hl : l2 = subL l (std.toN lo) (std.toN hi)) :
  AV.le (.c (.bs (std.nsub (std.toN hi) (std.toN lo)) sz fun i j => row gd enc l (std.nadd (std.toN lo) i) j)) (.c (.bs (len l2) sz (row gd enc l2))) := by
 subst hl
 have h3 : hi.toNat ≤ l.length := by have := h1.2; show hi.toNat ≤ l.length; have e : len l = l.length := rfl; rw [e] at this; omega
 refine le_bs (subL_len l _ _ h3).symm fun i hi' j hj => ?_
 unfold row
 rw [subL_gd l _ _ i hi']
 rfl
theorem gd_set_eq {l : List α} {i : Nat} {x : α} (h : i < l.length) : gd (l.set i x) i = x := by
 unfold gd; rw [List.getD_eq_getElem?_getD, List.getElem?_set_self h]; rfl
theorem gd_set_ne {l : List α} {i a : Nat} {x : α} (h : a ≠ i) : gd (l.set i x) a = gd l a := by
 unfold gd; rw [List.getD_eq_getElem?_getD, List.getElem?_set_ne (Ne.symm h), ← List.getD_eq_getElem?_getD]
theorem idx_lt {i : Int} {n : Nat} (h : std.inR i n) : std.nadd 0 (std.toN i) < n := by
 have h1 : 0 ≤ i := h.1
 have h2 : i < (n : Int) := h.2
 show 0 + i.toNat < n
 omega
theorem upd_set {enc : α → Nat → AC} {l l2 : List α} {i j0 N sz : Nat} {x : α} {cs : List AC} (hl : l2 = l.set i x) (hi : i < len l) (h1 : ∀ b, b < sz → j0 ≤ b ∧ b < j0 + cs.length → cs.getD (b - j0) .junk = enc x b) (h2 : ∀ b, b < sz → ¬ (j0 ≤ b ∧ b < j0 + cs.length) → enc (gd l i) b = enc x b) :
  ∀ a, a < N → ∀ b, b < sz → (if a = i ∧ j0 ≤ b ∧ b < j0 + cs.length then cs.getD (b - j0) .junk else row gd enc l a b) = row gd enc l2 a b := by
 subst hl
 intro a ha b hb
 unfold row
 by_cases h : a = i
 ·subst h
  rw [gd_set_eq hi]
  by_cases h3 : j0 ≤ b ∧ b < j0 + cs.length
  ·rw [if_pos ⟨rfl, h3⟩]; exact h1 b hb h3
  ·rw [if_neg (fun h => h3 h.2)]; exact h2 b hb h3
 ·rw [if_neg (fun h' => h h'.1), gd_set_ne h]
theorem patch_app {enc : α → Nat → AC} {l l2 : List α} {x : α} {cs : List AC} {sz N : Nat} (hl : l2 = l ++ [x]) (hN : N ≤ len l2) (h : ∀ j, j < sz → cs.getD j .junk = enc x j) :
  ∀ i, i < N → ∀ j, j < sz → patchC (row gd enc l) (len l) cs i j = row gd enc l2 i j := by
 subst hl
 intro i hi j hj
 unfold patchC row
 by_cases h1 : i = len l
 ·subst h1
  rw [if_pos rfl, h j hj]
  congr 1
  unfold gd len
  simp
 ·have h2 : i < l.length := by
   have h3 : len (l ++ [x]) = l.length + 1 := by unfold len; simp
   have h4 : len l = l.length := rfl
   omega
  rw [if_neg h1]
  congr 1
  unfold gd
  rw [List.getD_eq_getElem?_getD, List.getD_eq_getElem?_getD, List.getElem?_append_left h2]
theorem patch_set {enc : α → Nat → AC} {l l2 : List α} {x : α} {cs : List AC} {sz i N : Nat} (hl : l2 = l.set i x) (hi : i < len l) (h : ∀ j, j < sz → cs.getD j .junk = enc x j) :
  ∀ a, a < N → ∀ b, b < sz → patchC (row gd enc l) i cs a b = row gd enc l2 a b := by
 subst hl
 intro a ha b hb
 unfold patchC row
 by_cases h1 : a = i
 ·subst h1
  rw [if_pos rfl, h b hb, gd_set_eq hi]
 ·rw [if_neg h1, gd_set_ne h1]
theorem patch_same {enc : α → Nat → AC} {l : List α} {cs : List AC} {sz i N : Nat} (h : ∀ j, j < sz → cs.getD j .junk = enc (gd l i) j) :
  ∀ a, a < N → ∀ b, b < sz → patchC (row gd enc l) i cs a b = row gd enc l a b := by
 intro a ha b hb
 unfold patchC row
 by_cases h1 : a = i
 ·subst h1; rw [if_pos rfl, h b hb]
 ·rw [if_neg h1]
theorem patch_of {g : Nat → Nat → AC} {cs cs' : List AC} {i j0 m N sz : Nat} (h : ∀ b, b < sz → (if j0 ≤ b ∧ b < j0 + m then cs.getD (b - j0) .junk else g i b) = cs'.getD b .junk) :
  ∀ a, a < N → ∀ b, b < sz → (if a = i ∧ j0 ≤ b ∧ b < j0 + m then cs.getD (b - j0) .junk else g a b) = patchC g i cs' a b := by
 intro a ha b hb
 unfold patchC
 by_cases h1 : a = i
 ·subst h1
  rw [if_pos rfl, ← h b hb]
  simp only [true_and]
 ·rw [if_neg h1, if_neg (fun h' => h1 h'.1)]
theorem patch_one {g g' : Nat → Nat → AC} {cs : List AC} {N sz : Nat} (hN : N = 1) (h : ∀ j, j < sz → (g' 0 j) = cs.getD j .junk) :
  ∀ i, i < N → ∀ j, j < sz → g' i j = patchC g 0 cs i j := by
 intro i hi j hj
 have : i = 0 := by omega
 subst this
 unfold patchC
 rw [if_pos rfl, h j hj]
theorem gd_rep (x : α) (n i : Nat) (h : i < n) : gd (List.replicate n x) i = x := by
 unfold gd; rw [List.getD_eq_getElem?_getD, List.getElem?_replicate, if_pos h]; rfl
theorem upd_repL {enc : α → Nat → AC} {l : List α} {x : α} {n sz : Nat} {g : Nat → AC} (hl : l = List.replicate n x) (h : ∀ j, j < sz → g j = enc x j) : ∀ i, i < len l → ∀ j, j < sz → g j = row gd enc l i j := by
 subst hl
 intro i hi j hj
 unfold row
 have hi' : i < n := by unfold len at hi; rwa [List.length_replicate] at hi
 rw [gd_rep x n i hi', h j hj]
end
open Classical in
noncomputable def nilB {β : Type} (n : Nat) (x y : Option β) : Option β := if n = 0 then (if x = y then y else none) else y
theorem of_nilB {β : Type} {n : Nat} {x y : Option β} {r : β} (h : nilB n x y = some r) : y = some r ∧ (n = 0 → x = some r) := by
 unfold nilB at h
 split at h
 ·split at h
  ·rename_i h1 h2; exact ⟨h, fun _ => h2.trans h⟩
  ·cases h
 ·rename_i h1; exact ⟨h, fun h2 => (h1 h2).elim⟩
section
variable {LEN : {α : Type} → List α → Nat} {GD : {α : Type} → [Inhabited α] → List α → Nat → α}
def oncL {α : Type} [Inhabited α] (LEN : {α : Type} → List α → Nat) (GD : {α : Type} → [Inhabited α] → List α → Nat → α) (sz : Nat) (enc : α → Nat → AC) (l : List α) : Nat → AC := fun _ => .ow (LEN l) sz (row GD enc l)
end
def le1 (x y : AV) : Prop := ∀ L I w o v, Rel1 (RelC L I w o) x v → Rel1 (RelC L I w o) y v
def tuple : List AV → List AV → Prop
 | [], [] => True
 | x :: r, y :: q => le1 x y ∧ tuple r q
 | _, _ => False
theorem le_fn {f : FuncId} {n : Nat} {g g' : Nat → AC} (h : ∀ j, j < n → AV.le (.c (g j)) (.c (g' j))) : AV.le (.c (.fn f n g)) (.c (.fn f n g')) := by
 intro L I w o v hv
 obtain ⟨cs, h1, h2, h3⟩ := hv
 refine ⟨cs, h1, h2, fun j hj => ?_⟩
 obtain ⟨u, hu, hr⟩ := h3 j hj
 exact ⟨u, hu, h j hj L I w o u hr⟩
theorem val_v {x : AC} (h : valC x = true) : ∃ y, x = .v y := by cases x <;> first | exact ⟨_, rfl⟩ | cases h
theorem fl_oncL {LEN : {α : Type} → List α → Nat} {GD : {α : Type} → [Inhabited α] → List α → Nat → α} {α : Type} [Inhabited α] {sz : Nat} {enc : α → Nat → AC} (h : ∀ x j, valC (enc x j) = true) (l : List α) (j : Nat) : (oncL LEN GD sz enc l j).flat :=
 fun i _ q _ => val_v (h _ _)
theorem Fun.pure {P : Program} {f : FuncId} {fn : Func} (hf : P.funcs[f]? = some fn) (hname : (fn.name == "runtime.NumGoroutine") = false) (hb : fn.body.isNone = false) (vs : List Value) {v : Value} (h : ∀ w, Calls P f vs.toArray w fun e w' => e = .returned v ∧ w' = w) (hv : v.oneCell' = true := by rfl) (hvs : ∀ x ∈ vs, x.oneCell' = true := by simp [Value.oneCell']) :
  Fun P f (vs.map fun x => .c (.v x)) [] (.c (.v v)) [] true := by
 refine ⟨⟨fn, hf, hname, hb⟩, ⟨trivial, fun _ => ⟨trivial, trivial⟩⟩, fun vals w I L hH hargs => ?_⟩
 have e : vals = vs.toArray := by
  apply Array.ext_getElem?
  intro i
  simp only [Array.getElem?_toList, List.getElem?_toArray]
  cases hi : vs[i]? with
  | none =>
   rw [List.getElem?_eq_none_iff] at hi
   have h1 := hargs.1
   rw [List.length_map] at h1
   rw [Array.getElem?_eq_none_iff]; omega
  | some x =>
   obtain ⟨u, hu, hr⟩ := hargs.2 i (.c (.v x)) (by rw [List.getElem?_map, hi]; rfl)
   rw [hu]
   exact congrArg some hr.1
 subst e
 refine (h w).mono ?_
 rintro e w' ⟨rfl, rfl⟩
 refine ⟨v, I, L, rfl, fun b hb => hb, fun b hb _ => .inl hb, hH, ⟨rfl, hv⟩, fun k _ hg => (hg rfl).elim, fun id b x hg _ => (hg (by cases id <;> rfl)).elim, BelowE.refl _⟩
def rlist : List AC → List AC → Prop
 | [], [] => True
 | x :: r, y :: q => rle x y ∧ rlist r q
 | _, _ => False
theorem rlist_app : ∀ {a a' b b' : List AC}, rlist a a' → rlist b b' → rlist (a ++ b) (a' ++ b')
 | [], [], b, b', _, h => h
 | x :: r, y :: q, b, b', h, h' => ⟨h.1, rlist_app h.2 h'⟩
 | [], _ :: _, _, _, h, _ => h.elim
 | _ :: _, [], _, _, h, _ => h.elim
theorem rlist_len : ∀ {l q : List AC}, rlist l q → l.length = q.length
 | [], [], _ => rfl
 | x :: r, y :: q, h => by simp [rlist_len h.2]
 | [], _ :: _, h => h.elim
 | _ :: _, [], h => h.elim
theorem rlist_get : ∀ {l q : List AC}, rlist l q → ∀ {i : Nat} {x y : AC}, l[i]? = some x → q[i]? = some y → rle x y
 | [], [], _, i, x, y, h, _ => by simp at h
 | x :: r, y' :: q, h, 0, _, y, hx, hy => by simp at hx hy; subst hx; subst hy; exact h.1
 | x :: r, y' :: q, h, i + 1, _, y, hx, hy => rlist_get h.2 (i := i) (by simpa using hx) (by simpa using hy)
 | [], _ :: _, h, _, _, _, _, _ => h.elim
 | _ :: _, [], h, _, _, _, _, _ => h.elim
def Opens (T : TT) (d t : Nat) {α : Type} (cl : α → List AC) (wf : α → Prop) : Prop := ∀ cs, Shape T d t cs → ∃ e, wf e ∧ rlist cs (cl e)
def clI (k : IntKind) (x : Int) : List AC := [.v (.int k x)]
def clB (b : Bool) : List AC := [.v (.bool b)]
def clS (s : ByteArray) : List AC := [.v (.string s)]
def clL {α : Type} [Inhabited α] (sz : Nat) (enc : α → Nat → AC) (l : List α) : List AC := [.bs (len l) sz (row gd enc l)]
def wfI (k : IntKind) (x : Int) : Prop := (Lit.int k x).wf = true
def wfB (b : Bool) : Prop := True
def wfS (s : ByteArray) : Prop := s.size ≤ maxLen
def wfL {α : Type} (wf : α → Prop) (l : List α) : Prop := l.length ≤ maxLen ∧ ∀ x ∈ l, wf x
section
variable {T : TT} {t d : Nat} {td : TD}
theorem op_int (k : IntKind) (h : T t = some td) (hu : td.und = .int k) : Opens T (d + 1) t (clI k) (wfI k) := by
 intro cs hs
 simp only [Shape, h, hu] at hs
 obtain ⟨x, rfl, hw⟩ := hs
 exact ⟨x, hw, rle_refl _, trivial⟩
theorem op_str (h : T t = some td) (hu : td.und = .string) : Opens T (d + 1) t clS wfS := by
 intro cs hs
 simp only [Shape, h, hu] at hs
 obtain ⟨x, rfl, hw⟩ := hs
 exact ⟨x, hw, rle_refl _, trivial⟩
theorem rle_bs' {n n' sz : Nat} {g g' : Nat → Nat → AC} (hn : n = n') (h : ∀ i, i < n → ∀ j, j < sz → rle (g i j) (g' i j)) : rle (.bs n sz g) (.bs n' sz g') := by
 subst hn
 intro I w v hv
 obtain ⟨a, cap, h1, h2, h3⟩ := hv
 refine ⟨a, cap, h1, h2, fun hn => ?_⟩
 obtain ⟨b, off, h4, h5, h6⟩ := h3 hn
 refine ⟨b, off, h4, h5, fun i hi j hj => ?_⟩
 obtain ⟨u, h7, h8⟩ := h6 i hi j hj
 exact ⟨u, h7, h i hi j hj I w u h8⟩
theorem list_of {α : Type} [Inhabited α] {Q : Nat → α → Prop} : ∀ (n : Nat), (∀ i, i < n → ∃ x, Q i x) → ∃ l : List α, l.length = n ∧ ∀ i, i < n → Q i (gd l i)
 | 0, _ => ⟨[], rfl, fun i hi => absurd hi (by omega)⟩
 | n + 1, h => by
  obtain ⟨l, h1, h2⟩ := list_of n fun i hi => h i (by omega)
  obtain ⟨x, hx⟩ := h n (by omega)
  refine ⟨l ++ [x], by simp [h1], fun i hi => ?_⟩
  unfold gd at *
  rw [List.getD_eq_getElem?_getD]
  by_cases hin : i < n
  ·rw [List.getElem?_append_left (by omega), ← List.getD_eq_getElem?_getD]; exact h2 i hin
  ·have : i = n := by omega
   subst this
   rw [List.getElem?_append_right (by omega), h1]
   simpa using hx
theorem op_slice {α : Type} [Inhabited α] {e sz : Nat} {ed : TD} {cl : α → List AC} {wf : α → Prop} {enc : α → Nat → AC} (h : T t = some td) (hu : td.und = .slice e) (he : T e = some ed) (hsz : ed.size = sz) (hc : ∀ x j, j < sz → (cl x)[j]? = some (enc x j)) (ho : Opens T d e cl wf) :
  Opens T (d + 1) t (clL sz enc) (wfL wf) := by
 intro cs hs
 simp only [Shape, h, hu] at hs
 obtain ⟨n, sz', get, rfl, hn, ⟨ed', he', hs'⟩, hall⟩ := hs
 rw [he] at he'; injection he' with he'; subst he'
 rw [hsz] at hs'; subst hs'
 obtain ⟨l, h1, h2⟩ := list_of (Q := fun i x => wf x ∧ rlist ((List.range sz').map (get i)) (cl x)) n fun i hi => ho _ (hall i hi)
 refine ⟨l, ⟨by omega, fun x hx => ?_⟩, rle_bs' h1.symm fun i hi j hj => ?_, trivial⟩
 ·obtain ⟨i, hi, rfl⟩ := List.getElem_of_mem hx
  have := (h2 i (by omega)).1
  unfold gd at this
  simpa [List.getD_eq_getElem?_getD, hi] using this
 ·exact rlist_get (h2 i hi).2 (i := j) (by simp [hj]) (hc _ j hj)
end
section
variable {P : Program} {T : TT} {H : Type} {enc : TypeId × Value → H} {W : World} {spare : Nat → Bool} {held : Bool}
theorem opened_agg (hT : TOk P T) {d t : Nat} {α : Type} {cl : α → List AC} {wf : α → Prop} (ho : Opens T d t cl wf) {v : Value} {x : DataW H} {ps : List MemPlace} (hok : okB T d t = true) {r : Reach} {base : Nat} {fs : Array Field} (ht : P.underlying t = some (.struct fs)) (hv : Value.okWide P W r base t v) (h : DataW.Trod enc P W 0 spare held t v x ps) :
  ∃ e, wf e ∧ RelV (RelI (fun b => b < W.heap.size) W) (.agg (cl e)) v := by
 have hv2 : ∃ cs, v = .agg cs := by
  unfold Value.okWide at hv
  rw [ht] at hv
  obtain ⟨cs, h, _⟩ := hv
  exact ⟨cs, h⟩
 obtain ⟨a, rfl⟩ := hv2
 obtain ⟨cs, hs, hr⟩ := open_agg hT hok rfl h
 obtain ⟨e, hw, hl⟩ := ho cs hs
 refine ⟨e, hw, ?_⟩
 obtain ⟨ys, h1, h2, h3⟩ := hr
 refine ⟨ys, h1, h2.trans (rlist_len hl), fun i y hy => ?_⟩
 have hlt : i < cs.length := by rw [rlist_len hl]; exact (List.getElem?_eq_some_iff.1 hy).1
 obtain ⟨u, hu, hru⟩ := h3 i _ (List.getElem?_eq_getElem hlt)
 exact ⟨u, hu, rlist_get hl (List.getElem?_eq_getElem hlt) hy _ _ u hru⟩
end
theorem patch_joinG {G : Nat → Nat → AC} {n : Nat} {cs : List AC} {g' : Nat → Nat → AC} {N sz : Nat} (hN : N = n + 1) (h : ∀ j, j < sz → (g' 0 j) = cs.getD j .junk) :
    ∀ i, i < N → ∀ j, j < sz → joinC n G g' i j = patchC G n cs i j := by
  intro i hi j hj
  unfold joinC patchC
  by_cases h1 : i = n
  · subst h1
    rw [if_neg (by omega), if_pos rfl, Nat.sub_self, h j hj]
  · rw [if_pos (by omega), if_neg h1]
/-- where the objects lie behind: the array at bl; what its element i owns where the element π i's lay -/
def layP (k k' : Nat) (bl : Option (Nat × Nat)) (π : Nat → Option Nat) (L : Lay) : Lay
  | .r q => if q = k' then bl else none
  | .s q i j => if q = k' then (match π i with | some t => L (.s k t j) | none => none) else none
theorem lookO_one (k : Nat) (x : AO) (q : Nat) : lookO [(k, x)] q = if q = k then x else .gone := by
  unfold lookO lookO; rfl
theorem HRel.rows {k k' : Nat} {L : Lay} {I : Nat → Prop} {w w' : World} {N sz n' : Nat} {get get' : Nat → Nat → AC} {o : Nat → AO} (hlk : o k = .arr .rw [] N sz get) (hH : HRel L I w (obj o)) (π : Nat → Option Nat) (bl : Option (Nat × Nat))
    (hπ : ∀ i i' t, i < n' → i' < n' → π i = some t → π i' = some t → i = i')
    (hπN : ∀ i t, i < n' → π i = some t → t < N ∧ ∀ j, j < sz → get' i j = get t j)
    (hnew : ∀ i, i < n' → π i = none → ∀ j, j < sz → (∃ x, get' i j = .v x) ∨ ∃ s g, get' i j = .ow 0 s g)
    (hsz : w.heap.size ≤ w'.heap.size) (hI : ∀ b, I b → w'.heap[b]? = w.heap[b]?)
    (hb : ∀ i j b y, obj o (.s k i j) ≠ .gone → L (.s k i j) = some (b, y) → w'.heap[b]? = w.heap[b]?)
    (hbl : (bl = none ∧ n' = 0) ∨ ∃ b base C e, bl = some (b, base) ∧ ¬ I b ∧ w'.heap[b]? = some (.cells C (eT e) (frz e C)) ∧ (base + n' * sz ≤ C.size ∧ ∀ (q : Nat) u, C[q]? = some u → u.oneCell' = true) ∧
      (∀ i t, i < n' → π i = some t → ∀ j, j < sz → ∃ u, C[base + (i * sz + j)]? = some u ∧ RelX L I w (obj o) (.r k) t j (get t j) u) ∧
      (∀ i, i < n' → π i = none → ∀ j, j < sz → ∃ u, C[base + (i * sz + j)]? = some u ∧ (∀ x, get' i j = .v x → u = x) ∧ (∀ s g, get' i j = .ow 0 s g → ∃ ad, u = .slice ad 0 0)) ∧
      (w.heap.size ≤ b ∨ ∃ z, L (.r k) = some (b, z))) :
    HRel (layP k k' bl π L) I w' (obj (lookO [(k', .arr .rw [] n' sz get')])) ∧ ∀ id b x, obj (lookO [(k', .arr .rw [] n' sz get')]) id ≠ .gone → layP k k' bl π L id = some (b, x) → (bl = some (b, x) ∨ ∃ id0, obj o id0 ≠ .gone ∧ L id0 = some (b, x)) := by
  have hlk' : lookO [(k', .arr .rw [] n' sz get')] k' = .arr .rw [] n' sz get' := by rw [lookO_one, if_pos rfl]
  have hok : obj o (.r k) = .arr .rw [] N sz get := hlk
  have href : ∀ t, t < N → ∀ j, j < sz → (get t j).ref = [] := fun t ht j hj => by
    have := (hH.arr hok).2 t ht j hj
    rcases h : (get t j).ref with _ | ⟨x, r⟩
    · rfl
    · exact absurd (this x (by rw [h]; simp)) (by simp)
  -- an inner object behind is one ahead, or an empty one
  have hsub : ∀ i j, obj (lookO [(k', .arr .rw [] n' sz get')]) (.s k' i j) ≠ .gone → i < n' ∧ j < sz ∧ ((∃ t, π i = some t ∧ t < N ∧ obj (lookO [(k', .arr .rw [] n' sz get')]) (.s k' i j) = obj o (.s k t j) ∧ obj o (.s k t j) ≠ .gone) ∨
      π i = none ∧ ∃ s g, obj (lookO [(k', .arr .rw [] n' sz get')]) (.s k' i j) = .arr .rw [] 0 s g) := by
    intro i j hg
    simp only [obj, hlk'] at hg ⊢
    split at hg
    · rename_i hlt
      refine ⟨hlt.1, hlt.2, ?_⟩
      rw [if_pos hlt]
      cases hp : π i with
      | some t =>
        obtain ⟨h1, h2⟩ := hπN i t hlt.1 hp
        refine .inl ⟨t, rfl, h1, ?_⟩
        simp only [hlk]
        rw [if_pos ⟨h1, hlt.2⟩, h2 j hlt.2]
        rw [h2 j hlt.2] at hg
        exact ⟨rfl, hg⟩
      | none =>
        rcases hnew i hlt.1 hp j hlt.2 with ⟨x, hx⟩ | ⟨s, g, hx⟩
        · rw [hx] at hg; exact (hg rfl).elim
        · exact .inr ⟨rfl, s, fun i j => (g i j).cp, by rw [hx]; rfl⟩
    · exact (hg rfl).elim
  have hgone : ∀ q, q ≠ k' → lookO [(k', .arr .rw [] n' sz get')] q = .gone := fun q hq => by rw [lookO_one, if_neg hq]
  have hgs : ∀ q i j, q ≠ k' → obj (lookO [(k', .arr .rw [] n' sz get')]) (.s q i j) = .gone := fun q i j hq => by simp only [obj, hgone q hq]
  have hmono : ∀ (x : AC) (y : Value), x.ref = [] → RelC L I w (obj o) x y → RelC (layP k k' bl π L) I w' (obj (lookO [(k', .arr .rw [] n' sz get')])) x y := fun x y hx h =>
    RelI.toC _ _ (RelI.mono (fun b hb' => ⟨hb', hI b hb'⟩) _ _ (RelC.toI _ _ hx h))
  have hLs : ∀ i j t, π i = some t → layP k k' bl π L (.s k' i j) = L (.s k t j) := fun i j t h => by simp [layP, h]
  have hLn : ∀ i j, π i = none → layP k k' bl π L (.s k' i j) = none := fun i j h => by simp [layP, h]
  have hLr : layP k k' bl π L (.r k') = bl := by simp [layP]
  refine ⟨⟨fun id => ?_, fun id id' b x x' hg hg' hL hL' => ?_, fun b hb' => Nat.lt_of_lt_of_le (hH.imm b hb') hsz, hH.glo.mono fun b hb => ⟨hb, hI b hb⟩⟩, fun id b x hg hL => ?_⟩
  · cases id with
    | r q =>
      unfold ObjOk
      by_cases hq : q = k'
      · subst hq
        rw [show obj (lookO [(q, .arr .rw [] n' sz get')]) (.r q) = _ from hlk']
        refine ⟨?_, fun i hi j hj z hz => ?_⟩
        · rw [hLr]
          rcases hbl with ⟨h1, h2⟩ | ⟨b, base, C, e, h1, h2, h3, h4, h5, h6, _⟩
          · exact .inl ⟨h1, h2, fun c hc => by cases hc⟩
          · refine .inr ⟨b, base, C, e, h1, fun _ => h2, h3, h4, fun i hi j hj => ?_⟩
            cases hp : π i with
            | some t =>
              obtain ⟨u, hu, hr⟩ := h5 i t hi hp j hj
              refine ⟨u, hu, ?_⟩
              obtain ⟨ht, he⟩ := hπN i t hi hp
              rw [he j hj]
              cases hx : isOw (get t j) with
              | false => exact RelX.of (hmono _ _ (href t ht j hj) hr.toC) hx
              | true =>
                cases hgx : get t j with
                | ow a s g =>
                  rw [hgx] at hr
                  have hlive : obj (lookO [(q, .arr .rw [] n' sz get')]) (.s q i j) ≠ .gone := by
                    simp only [obj, hlk', if_pos (show i < n' ∧ j < sz from ⟨hi, hj⟩), he j hj, hgx, subO']; simp
                  obtain ⟨_, _, h7 | h7⟩ := hsub i j hlive
                  · obtain ⟨t', h8, _, h9, h10⟩ := h7
                    rw [hp] at h8; injection h8 with h8; subst h8
                    exact Hdr.step (id := .s k t j) ⟨hLs i j t hp, by rw [h9]; exact AO.like_refl _ h10, fun b' y C' e' hL hC => ⟨C', by rw [hb t j b' y h10 hL]; exact hC, rfl⟩⟩ hr
                  · rw [hp] at h7; cases h7.1
                | _ => rw [hgx] at hx; cases hx
            | none =>
              obtain ⟨u, hu, hv, ho⟩ := h6 i hi hp j hj
              refine ⟨u, hu, ?_⟩
              rcases hnew i hi hp j hj with ⟨x, hx⟩ | ⟨s, g, hx⟩
              · rw [hx]
                have := hv x hx
                subst this
                exact ⟨rfl, h4.2 _ _ hu⟩
              · rw [hx]
                obtain ⟨ad, rfl⟩ := ho s g hx
                have : obj (lookO [(q, .arr .rw [] n' sz get')]) (.s q i j) = .arr .rw [] 0 s fun i j => (g i j).cp := by
                  simp only [obj, hlk', if_pos (show i < n' ∧ j < sz from ⟨hi, hj⟩), hx, subO']
                exact ⟨_, _, _, _, _, this, .inl ⟨hLn i j hp, rfl, rfl, rfl, ⟨ad, rfl⟩, fun c hc => by cases hc⟩⟩
        · cases hp : π i with
          | some t =>
            obtain ⟨ht, he⟩ := hπN i t hi hp
            rw [he j hj, href t ht j hj] at hz; exact hz
          | none =>
            rcases hnew i hi hp j hj with ⟨x, hx⟩ | ⟨s, g, hx⟩ <;> rw [hx] at hz <;> exact hz
      · rw [show obj (lookO [(k', .arr .rw [] n' sz get')]) (.r q) = _ from hgone q hq]; trivial
    | s q i j =>
      by_cases hg : obj (lookO [(k', .arr .rw [] n' sz get')]) (.s q i j) = .gone
      · unfold ObjOk; rw [hg]; trivial
      · have hq : q = k' := by
          rcases Nat.decEq q k' with h | h
          · exact (hg (hgs q i j h)).elim
          · exact h
        subst hq
        obtain ⟨h1, h2, ⟨t, h3, h4, h5, h6⟩ | ⟨h3, s, g, h4⟩⟩ := hsub i j hg
        · have h0 := hH.ok (.s k t j)
          obtain ⟨m', rs', n2, sz2, get2, a', b', g, _, _, _, _, g3⟩ := obj_s h6
          have h0 := hH.arr g3
          unfold ObjOk
          rw [h5, g3]
          refine ⟨?_, h0.2⟩
          rw [hLs i j t h3]
          rcases h0.1 with h7 | ⟨b, base, C, e, h7, h8, h9, h10, h11⟩
          · exact .inl h7
          · refine .inr ⟨b, base, C, e, h7, h8, by rw [hb t j b base h6 h7]; exact h9, h10, fun i' hi' j' hj' => ?_⟩
            obtain ⟨u, hu, hr⟩ := h11 i' hi' j' hj'
            refine ⟨u, hu, RelX.of (hmono _ _ ?_ hr.toC) (isOw_cp _)⟩
            rcases h : ((g i' j').cp).ref with _ | ⟨x, r⟩
            · rfl
            · exact absurd (h0.2 i' hi' j' hj' x (by rw [h]; simp)) (by simp)
        · unfold ObjOk
          rw [h4]
          exact ⟨.inl ⟨hLn i j h3, rfl, fun c hc => by cases hc⟩, fun i' hi' => absurd hi' (by omega)⟩
  · have live : ∀ id : Id, obj (lookO [(k', .arr .rw [] n' sz get')]) id ≠ .gone → id.root = k' := by
      intro id hg
      cases id with
      | r q =>
        rcases Nat.decEq q k' with h | h
        · exact (hg (hgone q h)).elim
        · exact h
      | s q i j =>
        rcases Nat.decEq q k' with h | h
        · exact (hg (hgs q i j h)).elim
        · exact h
    have hrs : ∀ i j, obj (lookO [(k', .arr .rw [] n' sz get')]) (.s k' i j) ≠ .gone → ∀ b y y', bl = some (b, y) → layP k k' bl π L (.s k' i j) = some (b, y') → False := by
      intro i j hg b y y' hbb hLL
      obtain ⟨h1, h2, ⟨t, h3, h4, h5, h6⟩ | ⟨h3, s, g, h4⟩⟩ := hsub i j hg
      · rw [hLs i j t h3] at hLL
        rcases hbl with ⟨h7, _⟩ | ⟨b', base, C, e, h7, _, _, _, _, _, h8⟩
        · rw [h7] at hbb; cases hbb
        · rw [h7] at hbb; injection hbb with hbb; injection hbb with h9 h10; subst h9
          rcases h8 with h8 | ⟨z, h8⟩
          · have := (hH.lt h6 hLL).1; omega
          · have := hH.inj (.s k t j) (.r k) b' y' z h6 (by rw [hok]; simp) hLL h8; cases this
      · rw [hLn i j h3] at hLL; cases hLL
    have e1 := live id hg
    have e2 := live id' hg'
    cases id with
    | r q =>
      cases id' with
      | r q' => have e1 : q = k' := e1
                have e2 : q' = k' := e2
                rw [e1, e2]
      | s q' i j =>
        have e1 : q = k' := e1
        have e2 : q' = k' := e2
        subst e1; subst e2
        rw [hLr] at hL
        exact (hrs i j hg' b x x' hL hL').elim
    | s q i j =>
      have e1 : q = k' := e1
      subst e1
      cases id' with
      | r q' =>
        have e2 : q' = q := e2
        subst e2
        rw [hLr] at hL'
        exact (hrs i j hg b x' x hL' hL).elim
      | s q' i' j' =>
        have e2 : q' = q := e2
        subst e2
        obtain ⟨h1, h2, ⟨t, h3, h4, h5, h6⟩ | ⟨h3, s, g, h4⟩⟩ := hsub i j hg
        · obtain ⟨h1', h2', ⟨t', h3', h4', h5', h6'⟩ | ⟨h3', s', g', h4'⟩⟩ := hsub i' j' hg'
          · rw [hLs i j t h3] at hL
            rw [hLs i' j' t' h3'] at hL'
            have := hH.inj _ _ b x x' h6 h6' hL hL'
            injection this with _ h7 h8
            subst h7; subst h8
            rw [hπ i i' t h1 h1' h3 h3']
          · rw [hLn i' j' h3'] at hL'; cases hL'
        · rw [hLn i j h3] at hL; cases hL
  · cases id with
    | r q =>
      have hq : q = k' := by
        rcases Nat.decEq q k' with h | h
        · exact (hg (hgone q h)).elim
        · exact h
      subst hq
      rw [hLr] at hL
      exact .inl hL
    | s q i j =>
      have hq : q = k' := by
        rcases Nat.decEq q k' with h | h
        · exact (hg (hgs q i j h)).elim
        · exact h
      subst hq
      obtain ⟨h1, h2, ⟨t, h3, h4, h5, h6⟩ | ⟨h3, s, g, h4⟩⟩ := hsub i j hg
      · rw [hLs i j t h3] at hL
        exact .inr ⟨_, h6, hL⟩
      · rw [hLn i j h3] at hL; cases hL
/-- where the objects lie behind: the array at bl; what its element i owns where that of the element (π i).2 of the array (π i).1 lies -/
def layQ (k' : Nat) (bl : Option (Nat × Nat)) (π : Nat → Nat × Nat) (L : Lay) : Lay
  | .r q => if q = k' then bl else none
  | .s q i j => if q = k' then L (.s (π i).1 (π i).2 j) else none
section
open Go.Lib
end
/-- what stands behind an insertion -/
def Inserted (w : World) (old : Option (Nat × Nat)) (sz nm : Nat) (cells : List Value) (e : Ending) (w' : World) : Prop :=
  ∃ b off c C t, e = .returned (.slice (some ⟨b, off, none⟩) nm c) ∧ (old = some (b, off) ∨ b = w.heap.size ∧ off = 0) ∧ nm ≤ c ∧ w'.heap[b]? = some (.cells C (eT t) (frz t C)) ∧ off + c * sz ≤ C.size ∧ (∀ (q : Nat) u, C[q]? = some u → u.oneCell' = true) ∧
    (∀ q, q < nm * sz → C[off + q]? = cells[q]?) ∧ w'.os = w.os ∧ w'.tape = w.tape ∧ w'.output = w.output ∧ w.heap.size ≤ w'.heap.size ∧ ∀ q, q ≠ b → q < w.heap.size → w'.heap[q]? = w.heap[q]?
def partC (p n : Nat) (g : Nat → Nat → AC) : Nat → Nat → AC := fun i j => if i = 5000 then g i j else if p ≤ i ∧ i < p + n then (g i j).cp else g i j
section
variable {α : Type} [Inhabited α]
end
section
variable {α : Type} [Inhabited α] {G : {α : Type} → [Inhabited α] → List α → Nat → α} {s : St}
end
section
variable {P : Program} {T : TT} {w0 w w' : World} {I0 : Fr} {I I' : Nat → Prop} {L L' : Lay} {s : St} {a : Act} {o : Oper} {ob o' : Obs}
def AC.fzR (S sz : Nat) (g : Nat → Nat → AC) : AC → AC
 | .os k off n => if k = S then (match off with | 0 => .bs n sz g | off => .bs n sz fun a b => g (off + a) b) else .os k off n
 | .ptr k a => if k = S then .junk else .ptr k a
 | .ep k a b => if k = S then .junk else .ep k a b
 | .fn f n caps => .fn f n fun j => if j < n then (caps j).fzR S sz g else caps j
 | x => x
def fzSt (s : St) (S sz : Nat) (g : Nat → Nat → AC) : St := ⟨s.t.map (AV.map (AC.fzR S sz g)), fun q => if q = S then .gone else (s.o q).map (AC.fzR S sz g) id fun rs => !rs.contains S⟩
end
@[cbv_eval] theorem patchC_self (g : Nat → Nat → AC) (i : Nat) (cs : List AC) (b : Nat) : patchC g i cs i b = cs.getD b .junk := by simp [patchC]
section
variable {s : St}
def exSt (s : St) (k i k0 : Nat) (cs : List AC) (m : Md) (rs : List Nat) (n sz : Nat) (get : Nat → Nat → AC) : St :=
 ⟨(s.kill ((exO k0 0 cs).map (·.1))).t, updL ((k, .arr m (rs ++ (exO k0 0 cs).map (·.1)) n sz fun a b => if a = i ∧ 0 ≤ b ∧ b < 0 + sz then (exC k0 0 cs).getD (b - 0) .junk else get a b) :: exO k0 0 cs) (s.kill ((exO k0 0 cs).map (·.1))).o⟩
end
section
variable {α β : Type} {r : β} {p q : Prop}
theorem rq {c : Prop} {k : Option β} (f : c → k = some r → p) : req c k = some r → p := fun h => f (of_req h).1 (of_req h).2
theorem rl {e : α} {k : α → Option β} (f : ∀ l, l = e → k l = some r → p) : letO e k = some r → p := fun h => f e rfl h
theorem rz {e : α} {k : α → Option β} (f : k e = some r → p) : letO e k = some r → p := f
theorem rb {x : Option α} {k : α → Option β} (f : ∀ y, x = some y → k y = some r → p) : x.bind k = some r → p := fun h => let ⟨y, h1, h2⟩ := of_bind h; f y h1 h2
theorem oz {e : α} {k : α → Option β} (h : letO e k = some r) : k e = some r := h
theorem fk {b : Bool} {x y : Option β} (h1 : x = some r → p) (h2 : y = some r → q) : br b x y = some r → brP b (fun _ => p) (fun _ => q) := fun h => fork (fun hb => h1 (of_br_t hb h)) fun hb => h2 (of_br_f hb h)
theorem cu {σ : Type} {x : Option α} {k : α → Option β} {P Q : σ → Prop} (S0 : α → σ) (h1 : ∀ y S, S = S0 y → x = some y → P S) (h2 : ∀ y, k y = some r → Q (S0 y)) : x.bind k = some r → ∃ S, P S ∧ Q S := fun h => let ⟨y, e1, e2⟩ := of_bind h; ⟨S0 y, h1 y _ rfl e1, h2 y e2⟩
theorem ra {c : Prop} {k : Option β} (f : c → k = some r → q) (hp : c → p := by intro c; first | exact c | exact ⟨c, trivial⟩) : req c k = some r → p ∧ q := fun h => ⟨hp (of_req h).1, f (of_req h).1 (of_req h).2⟩
theorem rd {c d : Prop} {k : Option β} (f : c → d → k = some r → q) (hp : c → d → p := by intro c d; first | exact ⟨c, d⟩ | exact ⟨c, d, trivial⟩) : req c (req d k) = some r → p ∧ q := fun h => ⟨hp (of_req h).1 (of_req (of_req h).2).1, f (of_req h).1 (of_req (of_req h).2).1 (of_req (of_req h).2).2⟩
theorem ai {A : Prims} {i : Int} {n : Nat} (c : A.inR i n) (hq : q) (hA : std = A := by assumption) (hp : A.nadd 0 (A.toN i) < n → p := by intro t; first | exact t | exact ⟨t, trivial⟩ | exact ⟨t, trivial, trivial⟩) : p ∧ q := ⟨hp (by subst hA; exact idx_lt c), hq⟩
theorem bx {s : St} {Q : St → Prop} (h : Q s) : ∃ s2, s.le s2 ∧ Q s2 := ⟨s, St.le_refl s, h⟩
theorem oS {rs : List Nat} {n sz : Nat} {g : Nat → Nat → AC} : Ole (.arr .rw rs n sz g) (.arr .rw rs n sz g) := ⟨fun hw => hw, fun c hc => (by cases hc), .inl (List.all_eq_true.2 fun k hk => List.contains_iff_mem.2 hk), rfl, rfl, fun i hi j hj => rfl⟩
theorem oE {rs : List Nat} {n n' sz : Nat} {g : Nat → Nat → AC} (h : n = n') : Ole (.arr .rw rs n sz g) (.arr .rw rs n' sz g) := h ▸ oS
theorem lA {s : St} {i : Nat} {x : AV} {l : List (Nat × AV)} (h : leT s i x) (h' : allLe s l) : allLe s ((i, x) :: l) := ⟨h, h'⟩
theorem oA {s : St} {k n n' sz : Nat} {rs : List Nat} {g : Nat → Nat → AC} {l : List (Nat × AO)} (h : s.o k = .arr .rw rs n sz g) (hn : n = n') (h' : allOle s l) : allOle s ((k, .arr .rw rs n' sz g) :: l) := ⟨by rw [h, hn]; exact oS, h'⟩
theorem oV {s : St} {k : Nat} {c : List AC} {l : List (Nat × AO)} (h : s.o k = .var c) (h' : allOle s l) : allOle s ((k, .var c) :: l) := ⟨by rw [h]; rfl, h'⟩
theorem gV {s : St} {σ : Ren} {k a : Nat} {c : List AC} {l : List (Nat × AO)} (h0 : Ren.to σ k = some a) (h : Ole (s.o a) ((AO.var c).ren (Ren.to σ))) (h' : gives0 s σ l) : gives0 s σ ((k, .var c) :: l) := ⟨by rw [h0]; exact h, h'⟩
theorem gO {s : St} {σ : Ren} {k a : Nat} {x : AO} {l : List (Nat × AO)} (h0 : Ren.to σ k = some a) (h : Ole (s.o a) (x.ren (Ren.to σ))) (h' : gives0 s σ l) : gives0 s σ ((k, x) :: l) := ⟨by rw [h0]; exact h, h'⟩
theorem zl {s : St} {l : List (Nat × AV)} (t : allLe s l := by (repeat refine lA (AV.le_refl _) ?_); exact trivial) : allLe s l := t
theorem zo {s : St} {l : List (Nat × AO)} (t : allOle s l := by (repeat (first | refine oV rfl ?_ | refine oA rfl rfl ?_ | refine oA rfl (by assumption) ?_)); exact trivial) : allOle s l := t
theorem zq {s : St} {σ : Ren} {l : List (Nat × AO)} (t : gives0 s σ l := by (repeat (first | refine gV rfl rfl ?_ | refine gO rfl oS ?_ | refine gO rfl (oE (by assumption)) ?_)); exact trivial) : gives0 s σ l := t
theorem zb {p : Prop} (t : p := by exact le_sparse rfl zl zo rfl) : p := t
theorem zc {p : Prop} (t : p := by (repeat refine les_cons (AV.le_refl _) ?_); exact les_nil) : p := t
theorem like_ev {o0 o1 : List (Nat × AO)} : ∀ (l : List Nat), (l.all fun k => k % 2 == 0) = true → likeB o0 o1 l
 | [], _ => trivial
 | k :: l, h => by
  rw [List.all_cons, Bool.and_eq_true] at h
  have h1 : k % 2 = 0 := by simpa using h.1
  exact ⟨fun h2 => by omega, like_ev l h.2⟩
theorem like_tau {d : CallD} (hk : (keysOf d.o1 == d.τ.map (·.1)) = true) (h : (d.τ.all fun p => p.1 % 2 == 0) = true) : likeB d.o0 d.o1 (keysOf d.o1) := by
 refine like_ev _ ?_
 rw [beq_iff_eq.1 hk, List.all_map]
 exact h
theorem fitE {s : St} {args : List AV} {d : CallD} (h1 : AV.les (args.map (AV.map (AC.give (Ren.back d.σ) s.o))) d.args) (h2 : gives0 s d.σ d.o0) (h3 : rwO d.o0 = true)
  (h4 : (keysOf d.o0 == d.σ.map (·.1) && nodupB (d.σ.map (·.1)) && nodupB (d.σ.map (·.2)) && (d.σ.map (·.1)).all (fun k => k % 2 == 1) && closedO (keysOf d.o0) d.o0) = true)
  (h5 : (keysOf d.o1 == d.τ.map (·.1) && nodupB (d.τ.map (·.1)) && nodupB (d.τ.map (·.2)) && closedO (keysOf d.o1) d.o1 && rwO d.o1 && d.r.refs.all (fun k => (keysOf d.o1).contains k)) = true)
  (h6 : (d.τ.all fun p => (p.1 % 2 == 1 && Ren.to d.σ p.1 == some p.2) || (p.1 % 2 == 0 && p.2 % 2 == 0 && !(lentR d.σ s.o args).contains p.2)) = true)
  (h7 : (d.τ.all fun p => p.1 % 2 == 0) = true) (h8 : ((lentR d.σ s.o args).all fun k => (Ren.back d.σ k).isNone && (isVar (s.o k) || isArr (s.o k))) = true) : Fits s args d :=
 ⟨h1, h2, h3, h4, h5, h6, like_tau (by simp only [Bool.and_eq_true] at h5; exact h5.1.1.1.1.1) h7, h8⟩
theorem zk {p : Prop} (t : p := by repeat' first | exact trivial | exact fun _ => rfl | exact fun _ => ⟨Eq.symm (by assumption), rfl, fun _ h => h⟩ | refine And.intro ?_ ?_) : p := t
theorem zf {s : St} {args : List AV} {d : CallD} (t : Fits s args d := by exact fitE zc zq rfl rfl rfl rfl rfl rfl) : Fits s args d := t
theorem zg {s : St} {args : List AV} {d : CallD} (h : AV.les (args.map (AV.map (AC.give (Ren.back d.σ) s.o))) d.args) (t : AV.les (args.map (AV.map (AC.give (Ren.back d.σ) s.o))) d.args → Fits s args d := by exact fun h => fitE h zq rfl rfl rfl rfl rfl rfl) : Fits s args d := t h
theorem yf {s : St} {args : List AV} {d : CallD} (t : Fits s args d := by exact ⟨zc, zq, rfl, rfl, rfl, rfl, zk, rfl⟩) : Fits s args d := t
theorem stepJ {n : Nat} {F : Nat → Prop} (h0 : F 0) (h : ∀ j, j < n → F (j + 1)) : ∀ j, j < n + 1 → F j
 | 0, _ => h0
 | j + 1, hj => h j (Nat.lt_of_succ_lt_succ hj)
theorem endJ {F : Nat → Prop} : ∀ j, j < 0 → F j := fun _ h => (Nat.not_lt_zero _ h).elim
theorem ow1 {n m sz : Nat} {g : Nat → Nat → AC} (h : n = m) : AC.ow n sz g = AC.ow m sz g := h ▸ rfl
theorem zr {p : Prop} (t : p := by (repeat refine stepJ (by first | rfl | exact ow1 (by assumption) | exact ow1 (Eq.symm (by assumption))) ?_); exact endJ) : p := t
theorem nd {p : Prop} [Decidable p] (h : decide p = false) : ¬ p := of_decide_eq_false h
theorem yd {p : Prop} [Decidable p] (h : decide p = true) : p := of_decide_eq_true h
theorem zw {p : Prop} (t : p := by (repeat refine stepJ (by first | exact fun _ => rfl | exact fun hh => absurd hh (nd rfl) | exact fun hh => absurd (yd rfl) hh) ?_); exact endJ) : p := t
theorem us {α : Type} [Inhabited α] {A : Prims} {LEN : {α : Type} → List α → Nat} {GD : {α : Type} → [Inhabited α] → List α → Nat → α} {enc : α → Nat → AC} {l l2 : List α} {i : Int} {x : α} {n j0 N sz : Nat} {cs : List AC} (hA : std = A) (hL : @len = @LEN) (hG : @gd = @GD) (hl : l2 = l.set (A.nadd 0 (A.toN i)) x) (hc : A.inR i n) (hn : n = LEN l)
  (h1 : ∀ b, b < sz → j0 ≤ b ∧ b < j0 + cs.length → cs.getD (b - j0) .junk = enc x b := by exact zw) (h2 : ∀ b, b < sz → ¬ (j0 ≤ b ∧ b < j0 + cs.length) → enc (GD l (A.nadd 0 (A.toN i))) b = enc x b := by exact zw) :
  ∀ a, a < N → ∀ b, b < sz → (if a = A.nadd 0 (A.toN i) ∧ j0 ≤ b ∧ b < j0 + cs.length then cs.getD (b - j0) .junk else row GD enc l a b) = row GD enc l2 a b := by
 subst hA hL hG hn; exact upd_set hl (idx_lt hc) h1 h2
theorem oP {rs rs' : List Nat} {n sz : Nat} {g g' : Nat → Nat → AC} (hr : ∀ i j, (g' i j).ref = []) (h : ∀ i, i < n → ∀ j, j < sz → g i j = g' i j) : Ole (.arr .rw rs n sz g) (.arr .rw rs' n sz g') := ⟨fun hw => hw, fun c hc => (by cases hc), .inr fun i _ j _ z hz => (by rw [hr] at hz; cases hz), rfl, rfl, h⟩
theorem co {k n m : Nat} (h : n = m) : AV.c (.os k 0 n) = AV.c (.os k 0 m) := h ▸ rfl
theorem nl {A : Prims} {LEN : {α : Type} → List α → Nat} (hA : std = A) (hL : @len = @LEN) {α : Type} {l x y : List α} (h : l = x ++ y) : A.nadd (LEN x) (LEN y) = LEN l := by subst hA hL h; simp [std, len]
theorem nz {A : Prims} {LEN : {α : Type} → List α → Nat} (hA : std = A) (hL : @len = @LEN) {α : Type} {l y : List α} (h : l = ([] : List α) ++ y) : A.nadd 0 (LEN y) = LEN l := by subst hA hL h; simp [std, len]
theorem dn {p : Prop} (t : p := by injection h with h; subst h; subst hS; show St.le _ _; exact zb) : p := t
theorem dm {p : Prop} (t : p := by injection h with h; refine hK _ h.symm _ ?_; exact zb) : p := t
theorem dx {p : Prop} (t : p := by injection h with h; refine hY _ h.symm _ ?_; exact zb) : p := t
theorem dy {p : Prop} (t : p := by injection h with h; refine hY _ h.symm _ _ (And.intro rfl ?_) (by intro hh; cases hh); exact zb) : p := t
theorem df {p : Prop} (t : p := by injection h with h; subst h; exact ⟨_, St.le_refl _, AV.le_refl _, zo, rfl⟩) : p := t
theorem rg {p : Prop} (t : p := by cbv; first | (revert h; refine fk ?_ ?_ <;> intro h <;> exact rg) | (revert h; refine ra ?_; intro c h; exact rg) | (revert h; refine rd ?_; intro c d h; exact rg) | exact dn) : p := t
end
section
variable {P : Program} {s : St}
theorem rc {f : FuncId} {args args' : List AV} {o0 o1 : List (Nat × AO)} {r : AV} {fl : Bool} {K : CallD → Prop} (σ τ : Ren) (hf : Fun P f args o0 r o1 fl) (ht : Fits s args' ⟨args, o0, r, o1, fl, σ, τ⟩) (hk : K ⟨args, o0, r, o1, fl, σ, τ⟩) : ∃ d : CallD, Fun P f d.args d.o0 d.r d.o1 d.fl ∧ Fits s args' d ∧ K d := ⟨_, hf, ht, hk⟩
theorem rk {α β : Type} {x : Option α} {k : α → Option β} {r0 : β} {f : FuncId} {args args' : List AV} {o0 : List (Nat × AO)} {r : α → AV} {o1 : α → List (Nat × AO)} {fl : Bool} {K : CallD → Prop} (σ τ : Ren) (hf : ∀ y, x = some y → Fun P f args o0 (r y) (o1 y) fl) (ht : ∀ y, Fits s args' ⟨args, o0, r y, o1 y, fl, σ, τ⟩) (hk : ∀ y, k y = some r0 → K ⟨args, o0, r y, o1 y, fl, σ, τ⟩) : x.bind k = some r0 → ∃ d : CallD, Fun P f d.args d.o0 d.r d.o1 d.fl ∧ Fits s args' d ∧ K d := fun h => let ⟨y, e1, e2⟩ := of_bind h; ⟨_, hf y e1, ht y, hk y e2⟩
theorem rk0 {α β : Type} {x : Option α} {k : α → Option β} {r0 : β} {f : FuncId} {args args' : List AV} {o0 : List (Nat × AO)} {r : α → AV} {o1 : α → List (Nat × AO)} {fl : Bool} {K : CallD → Prop} (hf : ∀ y, x = some y → Fun P f args o0 (r y) (o1 y) fl) (hk : ∀ y, k y = some r0 → K ⟨args, o0, r y, o1 y, fl, [], []⟩) (ht : ∀ y, Fits s args' ⟨args, o0, r y, o1 y, fl, [], []⟩ := by exact fun _ => zf) : x.bind k = some r0 → ∃ d : CallD, Fun P f d.args d.o0 d.r d.o1 d.fl ∧ Fits s args' d ∧ K d := rk [] [] hf ht hk
theorem lc {σ ρ β : Type} {r : β} {step : σ → Option (σ ⊕ ρ)} {x0 : σ} {k : ρ → Option β} {f : St → (Exit → St → Prop) → Prop} {K : Exit → St → Prop} (S : σ → St) (R : ρ → Exit → St → Prop) (hle : s.le (S x0))
  (h : ∀ x z, step x = some z → ∀ K' : Exit → St → Prop, (∀ x', z = .inl x' → ∀ s', s'.le (S x') → K' .normal s') → (∀ y', z = .inr y' → ∀ e s', R y' e s' → e ≠ .normal → K' e s') → f (S x) K')
  (hend : ∀ y, k y = some r → ∀ e s', R y e s' → e ≠ .normal → K e s') : (whileP step x0).bind k = some r → ∃ s' m, s.le s' ∧ iter f m s' K := fun h0 =>
 let ⟨y, e1, e2⟩ := of_bind h0
 loop_cut e1 S hle R h (hend y e2)
theorem ln {σ ρ β : Type} {r : β} {step : σ → Option (σ ⊕ ρ)} {x0 : σ} {k : ρ → Option β} {f : St → (Exit → St → Prop) → Prop} {K : Exit → St → Prop} (e : Exit) (S : σ → St) (R : ρ → St) (hle : s.le (S x0))
  (h : ∀ x z, step x = some z → ∀ K' : Exit → St → Prop, (∀ x', z = .inl x' → ∀ s', s'.le (S x') → K' .normal s') → (∀ y', z = .inr y' → ∀ s', s'.le (R y') → K' e s') → f (S x) K')
  (hend : ∀ y, k y = some r → ∀ s', s'.le (R y) → K e s') (he : e ≠ .normal := by intro hh; cases hh) : (whileP step x0).bind k = some r → ∃ s' m, s.le s' ∧ iter f m s' K := fun h0 =>
 let ⟨y, e1, e2⟩ := of_bind h0
 loop_cut e1 S hle (fun y e' s' => e' = e ∧ s'.le (R y)) (fun x z hz K' h1 h2 => h x z hz K' h1 fun y' hy s' hs => h2 y' hy e s' ⟨rfl, hs⟩ he) (fun e' s' hR _ => hR.1 ▸ hend y e2 s' hR.2)
end
def encG (G : Nat → Nat → Bool) : Nat → Nat → AC := fun i j => .v (.bool (G i j))
def setG (G : Nat → Nat → Bool) (y x : Nat) (b : Bool) : Nat → Nat → Bool := fun i j => if i = y ∧ j = x then b else G i j
def zeroG : Nat → Nat → Bool := fun _ _ => false
def rowG (n : Nat) (G : Nat → Nat → Bool) (y : Nat) : List Bool := (List.range n).map (G y)
theorem zl_std (q : Nat) : (match List.replicate q (AC.v (.bool false)) with | [] => 0 | _ :: t => t.length + 1) = q ∧ ∀ c ∈ List.replicate q (AC.v (.bool false)), ∃ u, c = .v u := by
 have h : ∀ L : List AC, (match L with | [] => 0 | _ :: t => t.length + 1) = L.length := by intro L; cases L <;> rfl
 exact ⟨(h _).trans List.length_replicate, fun c hc => ⟨.bool false, List.eq_of_mem_replicate hc⟩⟩
theorem zl_get {A : Prims} (hA : std = A) (n m q : Nat) (hq : q = n * m) : ∀ i, i < n → ∀ j, j < m → (A.zl q).getD (i * m + j) .junk = encG zeroG i j := by
 subst hA
 intro i hi j hj
 have hmul : (i + 1) * m ≤ n * m := Nat.mul_le_mul_right _ hi
 rw [Nat.add_mul, Nat.one_mul] at hmul
 show (List.replicate q (AC.v (.bool false))).getD _ _ = _
 rw [List.getD_eq_getElem?_getD, List.getElem?_replicate, if_pos (by omega)]
 rfl
theorem gp_lt {A : Prims} (hA : std = A) {y : Int} {n : Nat} (h : A.inR y n) : A.nadd 0 (A.toN y) < n := by
 subst hA
 have h' : 0 ≤ y ∧ y < (n : Int) := h
 show 0 + y.toNat < n
 omega
theorem gp_lt1 {A : Prims} (hA : std = A) {y : Int} {n : Nat} (h : A.inR y n) : A.nadd 0 (A.toN y) + 1 ≤ n := gp_lt hA h
theorem upd_grid {G : Nat → Nat → Bool} {y x n m : Nat} {b : Bool} : ∀ i, i < n → ∀ j, j < m → (if i = y ∧ x ≤ j ∧ j < x + 1 then ([AC.v (.bool b)] : List AC).getD (j - x) .junk else encG G i j) = encG (setG G y x b) i j := by
 intro i _ j _
 unfold encG setG
 by_cases h : i = y ∧ j = x
 ·obtain ⟨rfl, rfl⟩ := h
  rw [if_pos ⟨rfl, Nat.le_refl _, by omega⟩, if_pos ⟨rfl, rfl⟩, Nat.sub_self]
  rfl
 ·rw [if_neg (fun h' => h ⟨h'.1, by omega⟩), if_neg h]
theorem lR (x : AV) : x.le x := AV.le_refl x

end Go.Proofs.YtpobpihakgegbaaGreat.AM
