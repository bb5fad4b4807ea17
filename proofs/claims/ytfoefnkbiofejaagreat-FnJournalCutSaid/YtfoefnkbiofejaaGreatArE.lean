/-
  THE ABSTRACT MACHINE, FIFTH PART: functions, loops, and the arguments of a law. No condition.
-/
import Derived.Test.YtfoefnkbiofejaaGreatArD
import Derived.ChangeArms
import Derived.WideShapes
import Derived.Lib.SliceRun
import Derived.Laws.IdiomCopy
import Derived.Laws.Rows
import Derived.Shelf.Spec.SlicesInsertGrow
import Derived.Test.YtfoefnkbiofejaaGreatArB
namespace Go.Proofs.YtfoefnkbiofejaaGreat.AM
noncomputable section
open Go Go.Proofs Go.RowKit
set_option linter.unusedVariables false
set_option linter.unusedSimpArgs false
set_option maxRecDepth 100000

def below (s : St) : Option St -> Prop
 | some S => s.le S
 | none => False
def ifSome : Option St -> (St -> Prop) -> Prop
 | some S, K => K S
 | none, _ => True
def tmpKey (c : Operand) : Nat := match tmpOf c with | some t => t | none => 0
def Wp (P : Program) (c : Code) (s : St) (K : Exit -> St -> Prop) : Prop := ∀ (w0 : World) (I0 : Fr) (a : Act) (w : World) (Q : Exit -> Act -> World -> Prop), Rel w0 I0 s a w -> (∀ e s' a' w', Rel w0 I0 s' a' w' -> K e s' -> Q e a' w') -> c.wp P Q a w
def SemR (P : Program) (id : Nat) (ops : Array Oper) (s S : St) : Prop := Wp P (.region id ops false) s fun e s' => e = .normal /\ s' = S
section
variable (A : Prims) (P : Program) (T : TT) (J : Nat -> Bool)
def wp : Code -> St -> (Exit -> St -> Prop) -> Prop
 | .skip, s, K => K .normal s
 | .region id ops false, s, K => match J id with
  | false => match J (200000 + id) with
   | false => wpOps A P T ops.toList ops.toList s (K .normal)
   | true => ∃ S, SemR P id ops s S /\ K .normal S
  | true => ∃ S, (wpOps A P T ops.toList ops.toList s fun s' => s'.le S) /\ K .normal S
 | .region id ops true, s, K => match J id with
  | false => wpD A P T ops.toList ops.toList s [] fun ls s' => chk ops.toList ls = true /\ K .normal s'
  | true => ∃ S, (wpD A P T ops.toList ops.toList s [] fun ls s' => chk ops.toList ls = true /\ s'.le S) /\ K .normal S
 | .seq a b, s, K => wp a s fun e s' => match e with | .normal => wp b s' K | e => K e s'
 | .cond c t e, s, K => match boolOf (ev s c) with
  | some b => match J (100000 + tmpKey c) with
   | false => brP b (fun _ => wp t (setB s c true) K) (fun _ => wp e (setB s c false) K)
   | true => ∃ S : Option St, brP b (fun _ => wp t (setB s c true) fun x s' => match x with | .normal => below s' S | x => K x s') (fun _ => wp e (setB s c false) fun x s' => match x with | .normal => below s' S | x => K x s') /\ ifSome S (K .normal)
  | none => False
 | .block id b, s, K => wp b s fun e s' => match e with | .exit i => if i = id then ∃ s2, s'.le s2 /\ K .normal s2 else K (.exit i) s' | e => K e s'
 | .loop b, s, K => ∃ s' n, s.le s' /\ iter (wp b) n s' K
 | .exit i, s, K => K (.exit i) s
 | .ret, s, K => K .ret s
 | _, _, _ => False
end
section
variable {P : Program} {T : TT} {w0 w w' : World} {I0 : Fr} {I I' : Nat -> Prop} {L L' : Lay} {s : St} {a : Act} {o : Oper} {ob o' : Obs}

theorem code_sound {J : Nat -> Bool} (hT : TOk P T) (hm : P.follows .mixedOrders = true) : ∀ (c : Code) (s : St) (a : Act) (w : World) (K : Exit -> St -> Prop) (Q : Exit -> Act -> World -> Prop), Rel w0 I0 s a w -> AM.wp std P T J c s K -> (∀ e s' a' w', Rel w0 I0 s' a' w' -> K e s' -> Q e a' w') -> c.wp P Q a w := by
 intro c
 induction c with
 | skip => intro s a w K Q hR h hQ; exact wp_skip (hQ _ _ _ _ hR h)
 | region id ops draw =>
  intro s a w K Q hR h hQ
  cases draw with
  | false =>
   simp only [AM.wp] at h
   split at h
   split at h
   rotate_left
   ·obtain ⟨S, h1, h2⟩ := h
    exact h1 w0 I0 a w Q hR fun e s' a' w' hR' hK => by obtain ⟨rfl, rfl⟩ := hK; exact hQ _ _ _ _ hR' h2
   all_goals refine wp_region ?_
   all_goals rw [List.range_eq_range', <- Array.length_toList]
   rotate_left
   ·exact ops_sound hT (fun s' a' w' hR' hK => hQ _ _ _ _ hR' hK) ops.toList 0 s a w (fun j => by simp) hR h
   ·obtain ⟨S, h1, h2⟩ := h
    exact ops_sound hT (fun s' a' w' hR' hK => hQ _ S _ _ (hK _ _ _ _ hR') h2) ops.toList 0 s a w (fun j => by simp) hR h1
  | true =>
   simp only [AM.wp] at h
   split at h
   ·exact draw_sound hT hm hR (fun s' a w hR' hK => hQ _ _ _ _ hR' hK) h
   ·obtain ⟨S, h1, h2⟩ := h
    exact draw_sound hT hm hR (fun s' a w hR' hK => hQ _ S _ _ (hK _ _ _ _ hR') h2) h1
 | seq x y hx hy =>
  intro s a w K Q hR h hQ
  refine wp_seq (hx s a w _ _ hR h fun e s' a' w' hR' hK => ?_)
  cases e with
  | normal => exact hy s' a' w' K Q hR' hK hQ
  | _ => exact hQ _ _ _ _ hR' hK
 | cond c x y hx hy =>
  intro s a w K Q hR h hQ
  simp only [AM.wp] at h
  split at h
  ·rename_i b hb
   obtain ⟨hv, hR'⟩ := setB_rel hR hb
   split at h
   ·cases b with
    | true => exact wp_cond_true hv (hx _ _ _ K Q hR' h hQ)
    | false => exact wp_cond_false hv (hy _ _ _ K Q hR' h hQ)
   ·obtain ⟨S, h, h2⟩ := h
    have hQ2 : ∀ e s' a' w', Rel w0 I0 s' a' w' -> (match e with | .normal => below s' S | x => K x s') -> Q e a' w' := by
     intro e s' a' w' hR' hK
     cases e with
     | normal =>
      cases S with
      | none => exact hK.elim
      | some S => exact hQ _ S _ _ (hK _ _ _ _ hR') h2
     | _ => exact hQ _ _ _ _ hR' hK
    cases b with
    | true => exact wp_cond_true hv (hx _ _ _ _ Q hR' h hQ2)
    | false => exact wp_cond_false hv (hy _ _ _ _ Q hR' h hQ2)
  ·exact h.elim
 | block id x hx =>
  intro s a w K Q hR h hQ
  refine wp_block (hx s a w _ _ hR h fun e s' a' w' hR' hK => ?_)
  cases e with
  | exit i =>
   simp only [Exit.inBlock]
   simp only at hK
   split
   ·rename_i hi
    rw [if_pos hi] at hK
    obtain ⟨s2, hle, hK⟩ := hK
    exact hQ _ _ _ _ (hle _ _ _ _ hR') hK
   ·rename_i hi; rw [if_neg hi] at hK; exact hQ _ _ _ _ hR' hK
  | _ => exact hQ _ _ _ _ hR' hK
 | loop x hx =>
  intro s a w K Q hR h hQ
  obtain ⟨s', n, hle, h⟩ := h
  refine wp_loop_rounds n ?_
  have hR' := hle _ _ _ _ hR
  clear hR hle
  revert s' a w
  induction n with
  | zero => intro a w s' h; exact h.elim
  | succ n ih =>
   intro a w s' h hR'
   rw [rounds_succ]
   refine hx s' a w _ _ hR' h fun e s'' a' w' hR'' hK => ?_
   cases e with
   | normal =>
    obtain ⟨s3, hle, h3⟩ := hK
    exact ih a' w' s3 h3 (hle _ _ _ _ hR'')
   | _ => exact hQ _ _ _ _ hR'' hK
 | exit i => intro s a w K Q hR h hQ; exact wp_exit (hQ _ _ _ _ hR h)
 | ret => intro s a w K Q hR h hQ; exact wp_ret (hQ _ _ _ _ hR h)
 | _ => intro s a w K Q hR h hQ; exact h.elim

def resOne (s : St) (T : TT) : ResultVar -> Option AV
 | .tmp t => some (s.t.getD t (.tup []))
 | .cell t ty => match (T ty), s.t.getD t (.tup []) with
  | some d, .c (.ptr k off) => match s.o k with
   | .var l => if off + d.size <= l.length /\ 0 < d.size then some (takeC d l off) else none
   | _ => none
  | _, _ => none
def resAll (s : St) (T : TT) : List ResultVar -> Option (List AV)
 | [] => some []
 | x :: r => match resOne s T x, resAll s T r with
  | some (.c y), some q => some (.c y :: q)
  | some (.agg y), some q => some (.agg y :: q)
  | _, _ => none
def resOf (s : St) (T : TT) (l : List ResultVar) : Option AV :=
 match l with
 | [x] => resOne s T x
 | l => match resAll s T l with | some q => some (.tup q) | none => none
def endsIn (T : TT) (rs : List ResultVar) (r : AV) (o1 : List (Nat × AO)) : Exit -> St -> Prop
 | .normal, s | .ret, s => ∃ s2, s.le s2 /\ match resOf s2 T rs with | some x => x.le r /\ allOle s2 o1 /\ refsIn [(s2.t.length, x)] o1 = true | none => False
 | _, _ => False
theorem allOle_congr {s s' : St} (h : s.o = s'.o) : ∀ (os : List (Nat × AO)), allOle s os -> allOle s' os
 | [], _ => trivial
 | (k, x) :: r, hh => ⟨by rw [<- h]; exact hh.1, allOle_congr h r hh.2⟩
def startSt (n : Nat) (args : List AV) (o0 : List (Nat × AO)) : St := ⟨args ++ List.replicate (n - args.length) (.tup []), lookO o0⟩
def runRes (fn : Func) (tmps : Array Value) : ResultVar -> Sem Value
 | .tmp t => pure (tmps.getD t undef)
 | .cell a t => do loadVar t (<- asAddr (tmps.getD a undef))
theorem resOne_sound (hT : TOk P T) (hR : RelL w0 I0 L I s a w) {fn : Func} {x : ResultVar} {z : AV} (h : resOne s T x = some z) :
  ∃ y, (runRes fn a.tmps x).run P w = .ok y w /\ RelV (RelC L I w (obj s.o)) z y := by
 cases x with
 | tmp t =>
  injection h with h
  subst h
  exact ⟨_, rfl, ev_rel hR.tmps (.tmp t)⟩
 | cell t ty =>
  simp only [resOne] at h
  have hev := ev_rel hR.tmps (.tmp t)
  simp only [ev, Act.eval] at hev
  split at h
  ·rename_i d k off hd hq
   rw [hq] at hev
   split at h
   ·rename_i l hl
    split at h
    ·rename_i hb
     injection h with h
     subst h
     obtain ⟨l', b, h2, h3, hy⟩ := hev
     have h2' : s.o k = .var l' := h2
     rw [hl] at h2'; injection h2' with h2'; subst h2'
     obtain ⟨b', C, e, h4, h5, h6, h7, h8⟩ := hR.heap.var h2
     rw [h3] at h4; injection h4 with h4; injection h4 with h4; subst h4
     obtain ⟨hb1, hb2⟩ := hb
     obtain ⟨f, hf⟩ := choose_cells (R := RelC L I w (obj s.o)) (n := d.size) (g := fun j => l.getD (off + j) .junk) (c := fun j => w.cell? ⟨b, off + j, none⟩) (fun j hj => by
      have hlt : off + j < l.length := by omega
      obtain ⟨u, hu, hr⟩ := h8 (off + j) l[off + j] (by simp [hlt])
      refine ⟨u, by rw [cell_of h6]; exact hu, ?_⟩
      simp only [List.getD_eq_getElem?_getD, List.getElem?_eq_getElem hlt, Option.getD_some]
      exact hr)
     have hrun := run_loadVar_cells (w := w) hT hd hb2 b off f fun j hj => (hf j hj).1
     have hrel := fnC_rel (R := RelC L I w (obj s.o)) (d := d) hb2 fun j hj => (hf j hj).2
     refine ⟨if aggB d.und = true then .agg ((List.range d.size).map f).toArray else f 0, ?_, ?_⟩
     ·simp only [runRes, hy]
      simp [asAddr, hrun]
     ·have e1 : takeC d l off = fnC d fun j => l.getD (off + j) .junk := by
       unfold takeC fnC
       split
       ·congr 1
        apply List.ext_getElem?
        intro i
        rw [List.getElem?_take, List.getElem?_map]
        by_cases hi : i < d.size
        ·rw [if_pos hi, List.getElem?_drop, List.getElem?_range hi]
         simp [List.getD_eq_getElem?_getD, List.getElem?_eq_getElem (show off + i < l.length by omega)]
        ·rw [if_neg hi, List.getElem?_eq_none (by simp; omega)]
         rfl
       ·rfl
      rw [e1]
      exact hrel
    ·cases h
   ·cases h
  ·cases h
theorem resAll_sound (hT : TOk P T) (hR : RelL w0 I0 L I s a w) {fn : Func} : ∀ (l : List ResultVar) (q : List AV), resAll s T l = some q ->
  ∃ vs : List Value, (l.mapM (runRes fn a.tmps)).run P w = .ok vs w /\ vs.length = q.length /\ q.length = l.length /\ ∀ (i : Nat) x, q[i]? = some x -> ∃ u, vs[i]? = some u /\ Rel1 (RelC L I w (obj s.o)) x u
 | [], q, h => by
  simp [resAll] at h
  subst h
  exact ⟨[], rfl, rfl, rfl, fun i x hx => by simp at hx⟩
 | x :: r, q, h => by
  unfold resAll at h
  have key : ∀ (y : AV) (q' : List AV), resOne s T x = some y -> resAll s T r = some q' -> (∀ v, RelV (RelC L I w (obj s.o)) y v -> Rel1 (RelC L I w (obj s.o)) y v) -> q = y :: q' ->
    ∃ vs : List Value, ((x :: r).mapM (runRes fn a.tmps)).run P w = .ok vs w /\ vs.length = q.length /\ q.length = (x :: r).length /\ ∀ (i : Nat) x, q[i]? = some x -> ∃ u, vs[i]? = some u /\ Rel1 (RelC L I w (obj s.o)) x u := by
   intro y q' hy hq h1 hqq
   subst hqq
   obtain ⟨v, hv, hr⟩ := resOne_sound (fn := fn) hT hR hy
   obtain ⟨vs, g1, g2, g4, g3⟩ := resAll_sound hT hR (fn := fn) r q' hq
   refine ⟨v :: vs, by rw [List.mapM_cons]; simp [hv, g1], by simp [g2], by simp [g4], fun i x hx => ?_⟩
   cases i with
   | zero => simp at hx; subst hx; exact ⟨v, rfl, h1 v hr⟩
   | succ i => obtain ⟨u, hu, hr⟩ := g3 i x (by simpa using hx); exact ⟨u, by simpa using hu, hr⟩
  split at h
  ·rename_i y q' hy hq
   injection h with h
   exact key _ _ hy hq (fun v h => h) h.symm
  ·rename_i y q' hy hq
   injection h with h
   exact key _ _ hy hq (fun v h => h) h.symm
  ·cases h
theorem results_run {fn : Func} {tm : Array Value} {vs : List Value} (h : (fn.results.toList.mapM (runRes fn tm)).run P w = .ok vs w) : (results fn tm).run P w = .ok (if h : vs.length = 1 then vs[0] else .tuple vs.toArray) w := by
 have e0 : results fn tm = (do let vs <- fn.results.mapM (runRes fn tm); pure (if h : vs.size = 1 then vs[0] else .tuple vs)) := by
  unfold results
  congr 2
 have e : (fn.results.mapM (runRes fn tm)).run P w = .ok vs.toArray w := by
  rw [Array.mapM_eq_mapM_toList]
  simp [h]
 rw [e0]
 simp only [Sem.run_bind, e, Result.andThen_ok, Sem.run_pure]
 congr 1
theorem Wp.of {J : Nat -> Bool} (hT : TOk P T) (hm : P.follows .mixedOrders = true) {c : Code} {s : St} {K : Exit -> St -> Prop} (h : AM.wp std P T J c s K) : Wp P c s K :=
 fun _ _ a w Q hR hQ => code_sound hT hm c s a w K Q hR h hQ
theorem Wp.seq {σ : Type} (S : σ -> St) (inv : σ -> Prop) {x y : Code} {s : St} {K : Exit -> St -> Prop} (h1 : Wp P x s fun e s' => match e with | .normal => ∃ z, inv z /\ s'.le (S z) | e => K e s')
  (h2 : ∀ z, inv z -> Wp P y (S z) K) : Wp P (x.seq y) s K := by
 intro w0 I0 a w Q hR hQ
 refine wp_seq (h1 w0 I0 a w _ hR fun e s' a' w' hR' hK => ?_)
 cases e with
 | normal =>
  obtain ⟨z, hz, hle⟩ := hK
  exact h2 z hz w0 I0 a' w' Q (hle _ _ _ _ hR') hQ
 | _ => exact hQ _ _ _ _ hR' hK
theorem Fun.of_Wp (hT : TOk P T) {f : FuncId} {fn : Func} {c : Code} (hf : P.funcs[f]? = some fn) (hname : (fn.name == "runtime.NumGoroutine") = false) (hb : fn.body = some c) {n : Nat} (hn : fn.ntmps = n) {rs : List ResultVar} (hrs : fn.results.toList = rs) {args : List AV} {r : AV} {o0 o1 : List (Nat × AO)} {fl : Bool}
  (hwf : wfO o0) (hfl : fl = true -> r.flat /\ flatO o1) (h : Wp P c (startSt n args o0) (endsIn T rs r o1)) : Fun P f args o0 r o1 fl := by
 subst hn
 subst hrs
 refine ⟨⟨fn, hf, hname, by rw [hb]; rfl⟩, ⟨hwf, hfl⟩, fun vals w I L hH hargs => ?_⟩
 refine calls_of_wp hf hb ?_
 have hR : Rel w ⟨I, Owned L (obj (lookO o0)), fun k => L (.r k)⟩ (startSt fn.ntmps args o0) { tmps := vals ++ Array.replicate (fn.ntmps - vals.size) undef, defers := [] } w := by
  refine ⟨L, I, ⟨hH, ?_, rfl, BelowE.refl _, fun b hb => hb, fun b hb _ => .inl hb, fun id b x hg hL => .inr ⟨id, x, hg, hL⟩, fun k _ _ => ⟨rfl, SameRow.refl _ _⟩⟩⟩
  refine ⟨by simp [startSt, hargs.1], fun i x hx => ?_⟩
  simp only [startSt] at hx
  rw [List.getElem?_append] at hx
  rw [Array.getElem?_append]
  split at hx
  ·rename_i hi
   rw [if_pos (by rw [hargs.1]; exact hi)]
   exact hargs.2 i x hx
  ·rename_i hi
   rw [if_neg (by rw [hargs.1]; exact hi)]
   rw [List.getElem?_replicate] at hx
   split at hx
   ·rename_i hlt
    injection hx with hx; subst hx
    exact ⟨undef, by rw [hargs.1]; simp [hlt], #[], rfl, rfl, fun i x hx => by simp at hx⟩
   ·cases hx
 refine h _ _ _ w _ hR fun e s' a' w' hR' hK => ?_
 have key : (∃ s2, s'.le s2 /\ match resOf s2 T fn.results.toList with | some x => x.le r /\ allOle s2 o1 /\ refsIn [(s2.t.length, x)] o1 = true | none => False) -> a'.defers = [] /\ ∃ v, (results fn a'.tmps).run P w' = .ok v w' /\ ∃ v_1 I' L', (Ending.returned v) = .returned v_1 /\ (∀ b, I b -> I' b) /\ (∀ b, I' b -> b < w.heap.size -> I b \/ Owned L (obj (lookO o0)) b) /\
   HRel L' I' w' (obj (lookO o1)) /\ RelV (RelC L' I' w' (obj (lookO o1))) r v_1 /\ (∀ k, k % 2 = 1 -> lookO o1 k ≠ .gone -> L' (.r k) = L (.r k) /\ SameRow w w' (L (.r k))) /\
   (∀ id b x, obj (lookO o1) id ≠ .gone -> L' id = some (b, x) -> w.heap.size <= b \/ Owned L (obj (lookO o0)) b) /\ BelowE (Owned L (obj (lookO o0))) w w' := by
  rintro ⟨s2, hle, hK⟩
  obtain ⟨L', J, hR'⟩ := hle _ _ _ _ hR'
  refine ⟨hR'.defers, ?_⟩
  split at hK
  ·rename_i x hx
   have hres : ∃ v, (results fn a'.tmps).run P w' = .ok v w' /\ RelV (RelC L' J w' (obj s2.o)) x v := by
    unfold resOf at hx
    split at hx
    ·rename_i q hq
     obtain ⟨y, hy, hr⟩ := resOne_sound (fn := fn) hT hR' hx
     refine ⟨y, ?_, hr⟩
     have := results_run (P := P) (w := w') (fn := fn) (tm := a'.tmps) (vs := [y]) (by rw [hq, List.mapM_cons]; simp [hy])
     simpa using this
    ·rename_i l hl
     split at hx
     ·rename_i q hq
      injection hx with hx; subst hx
      obtain ⟨vs, h1, h2, h4, h3⟩ := resAll_sound (fn := fn) hT hR' _ _ hq
      have hne : vs.length ≠ 1 := by
       intro h
       rw [h2, h4] at h
       match hfr : fn.results.toList, h with
       | [x], _ => exact hl x hfr
      refine ⟨.tuple vs.toArray, ?_, vs.toArray, rfl, by simp [h2], fun i x hx => ?_⟩
      ·have := results_run (P := P) (w := w') (fn := fn) (tm := a'.tmps) h1
       simpa [hne] using this
      ·obtain ⟨u, hu, hr⟩ := h3 i x hx
       exact ⟨u, by simpa using hu, hr⟩
     ·cases hx
   obtain ⟨v, hv, hr⟩ := hres
   obtain ⟨hxr, hall, href⟩ := hK
   -- the result beside the temporaries
   have hp : Rel w ⟨I, Owned L (obj (lookO o0)), fun k => L (.r k)⟩ ⟨s2.t ++ [x], s2.o⟩ { tmps := a'.tmps.push v, defers := [] } w' := by
    refine ⟨L', J, ⟨hR'.heap, ⟨by simp [hR'.tmps.1], fun i y hy => ?_⟩, rfl, hR'.below, hR'.old, hR'.only, hR'.new, hR'.kept⟩⟩
    rw [List.getElem?_append] at hy
    rw [Array.getElem?_push]
    split at hy
    ·rename_i hlt
     rw [if_neg (by rw [hR'.tmps.1]; omega)]
     exact hR'.tmps.2 i y hy
    ·rename_i hlt
     have hi : i = s2.t.length := by
      have := (List.getElem?_eq_some_iff.1 hy).1
      simp at this; omega
     subst hi
     simp at hy
     subst hy
     rw [if_pos hR'.tmps.1.symm]
     exact ⟨v, rfl, hr⟩
   have hs := lsp (s := ⟨s2.t ++ [x], s2.o⟩) (l := [(s2.t.length, x)]) (os := o1) rfl ⟨by simp [leT]; exact AV.le_refl x, tv⟩ (allOle_congr (s := s2) (s' := ⟨s2.t ++ [x], s2.o⟩) rfl o1 hall) href
   obtain ⟨L2, J2, hR2⟩ := hs _ _ _ _ hp
   have hr2 : RelV (RelC L2 J2 w' (obj (lookO o1))) x v := by
    have h1 := hR2.tmps.2 s2.t.length x (by simp [sp, lookT])
    obtain ⟨u, hu, hr2⟩ := h1
    rw [Array.getElem?_push, if_pos hR'.tmps.1.symm] at hu
    injection hu with hu
    subst hu
    exact hr2
   exact ⟨v, hv, v, J2, L2, rfl, hR2.old, hR2.only, hR2.heap, hxr _ _ _ _ _ hr2, hR2.kept, hR2.new, hR2.below⟩
  ·exact hK.elim
 cases e with
 | normal => exact key hK
 | ret => exact key hK
 | _ => exact hK.elim
theorem Fun.of_wp (J : Nat -> Bool) (hT : TOk P T) (hm : P.follows .mixedOrders = true) {f : FuncId} {fn : Func} {c : Code} (hf : P.funcs[f]? = some fn) (hname : (fn.name == "runtime.NumGoroutine") = false) (hb : fn.body = some c) {n : Nat} (hn : fn.ntmps = n) {rs : List ResultVar} (hrs : fn.results.toList = rs) {args : List AV} {r : AV} {o0 o1 : List (Nat × AO)} {fl : Bool}
  (hwf : wfO o0) (hfl : fl = true -> r.flat /\ flatO o1) (h : AM.wp std P T J c (startSt n args o0) (endsIn T rs r o1)) : Fun P f args o0 r o1 fl := Fun.of_Wp hT hf hname hb hn hrs hwf hfl (Wp.of hT hm h)
end
def oneOf : List Nat -> Nat -> Bool
 | [], _ => false
 | x :: r, n => if x = n then true else oneOf r n
section
variable {P : Program} {T : TT} {w0 w w' : World} {I0 : Fr} {I I' : Nat -> Prop} {L L' : Lay} {s : St} {a : Act}
end
section
variable {P : Program} {T : TT} {w0 w w' : World} {I0 : Fr} {I I' : Nat -> Prop} {L L' : Lay} {s : St} {a : Act} {o : Oper} {ob o' : Obs}
def foldSt (s : St) (k i j S : Nat) : St :=
 match s.o k, s.o S with
 | .arr m rs N sz get, .arr m2 rs2 n2 sz2 g => ⟨(s.kill [S]).t, updO (s.kill [S]).o k (.arr m rs N sz fun a b => if a = i /\ b = j then .ow n2 sz2 g else (get a b).kill [S])⟩
 | _, _ => s
theorem le_fold {k i j S : Nat} {m m2 : Md} {rs : List Nat} {N sz n2 sz2 : Nat} {get g : Nat -> Nat -> AC} (hk : s.o k = .arr m rs N sz get) (hS : s.o S = .arr m2 [] n2 sz2 g) (hm2 : m2.w = true) (hkS : k ≠ S) (hi : i < N) (hj : j < sz) (hg : get i j = .os S 0 n2) : s.le (foldSt s k i j S) := by
 intro w0 I0 a w ⟨L, I, hR⟩
 have hfs : foldSt s k i j S = ⟨(s.kill [S]).t, updO (s.kill [S]).o k (.arr m rs N sz fun a b => if a = i /\ b = j then .ow n2 sz2 g else (get a b).kill [S])⟩ := by simp only [foldSt, hk, hS]
 rw [hfs, kill_t]
 obtain ⟨gx, hgx⟩ : ∃ gx : Nat -> Nat -> AC, gx = fun a b => if a = i /\ b = j then .ow n2 sz2 g else (get a b).kill [S] := ⟨_, rfl⟩
 simp only [<- hgx]
 obtain ⟨o2, ho2⟩ : ∃ o2, o2 = updO (killO [S] s.o) k (.arr m rs N sz gx) := ⟨_, rfl⟩
 rw [<- ho2]
 have hko : o2 k = .arr m rs N sz gx := by rw [ho2]; simp [updO]
 have hSo : o2 S = .gone := by rw [ho2]; simp [updO, killO, Ne.symm hkS]
 have hother : ∀ q, q ≠ k -> q ≠ S -> o2 q = (s.o q).kill [S] := fun q h1 h2 => by rw [ho2]; simp [updO, killO, h1, h2]
 obtain ⟨L2, hL2⟩ : ∃ L2 : Lay, L2 = fun id => if id = .s k i j then L (.r S) else L id := ⟨_, rfl⟩
 have hLo : ∀ id, id ≠ .s k i j -> L2 id = L id := fun id h => by rw [hL2]; simp [h]
 have hLs : L2 (.s k i j) = L (.r S) := by rw [hL2]; simp
 have hsubk : obj o2 (.s k i j) = .arr .rw [] n2 sz2 fun i j => (g i j).cp := by
  simp only [obj, hko, if_pos (show i < N /\ j < sz from ⟨hi, hj⟩)]
  rw [hgx]; simp [subO']
 have hsubo : ∀ a b, ¬ (a = i /\ b = j) -> obj o2 (.s k a b) = obj s.o (.s k a b) := by
  intro a b hab
  simp only [obj, hko, hk]
  split
  ·have h1 : gx a b = (get a b).kill [S] := by rw [hgx]; simp only [if_neg hab]
   rw [h1]
   cases hgab : get a b with
   | ow p q r => rfl
   | _ => rw [<- hgab]; rw [subO'_not (x := (get a b).kill [S]) (by rw [isOw_kill, hgab]; rfl), subO'_not (by rw [hgab]; rfl)]
  ·rfl
 have hlikek : (s.o k).like (o2 k) := by rw [hk, hko]; exact ⟨rfl, rfl, fun c h => h⟩
 have hK : Keeps [S] L I w (obj s.o) L2 I w (obj o2) := by
  refine ⟨fun b hb => ⟨hb, rfl⟩, fun q hq hgq => ⟨hLo _ (by simp), ?_, fun b x C e hL hC => ⟨C, hC, rfl⟩⟩⟩
  have hqS : q ≠ S := by rintro rfl; simp at hq
  by_cases hqk : q = k
  ·subst hqk; exact hlikek
  ·show (s.o q).like (o2 q)
   rw [hother q hqk hqS]; exact AO.like_map _ _ _ _ hgq
 have M := hK.moves
 have hO := hR.heap.arr (id := .r k) hk
 have hOS := hR.heap.arr (id := .r S) hS
 have hnilg : ∀ a, a < n2 -> ∀ b, b < sz2 -> (g a b).ref = [] := fun a ha b hb => List.eq_nil_iff_forall_not_mem.2 fun z hz => by simpa using hOS.2 a ha b hb z hz
 have hlive : ∀ id : Id, obj o2 id ≠ .gone -> id = .s k i j \/ (id ≠ .s k i j /\ obj s.o id ≠ .gone /\ id.root ≠ S) := by
  intro id hid
  by_cases h1 : id = .s k i j
  ·exact .inl h1
  ·have hr : id.root ≠ S := by
    intro hr
    apply hid
    cases id with
    | r q => have e : q = S := hr; subst e; exact hSo
    | s q a b => have e : q = S := hr; subst e; simp only [obj]; rw [hSo]
   refine .inr ⟨h1, ?_, hr⟩
   cases id with
   | r q =>
    by_cases hqk : q = k
    ·subst hqk; show s.o q ≠ .gone; rw [hk]; simp
    ·have : o2 q ≠ .gone := hid
     rw [hother q hqk hr] at this; exact AO.map_gone this
   | s q a b =>
    by_cases hqk : q = k
    ·subst hqk
     rw [hsubo a b (by rintro ⟨rfl, rfl⟩; exact h1 rfl)] at hid; exact hid
    ·rw [obj_map (Turn.kill [S]) (hother q hqk hr) a b] at hid; exact hid
 refine ⟨L2, I, hR.step (Turn.kill [S]) M (o' := o2) (fun q => q = k) (fun q hq => ?_) (fun q hq id hr => ?_) ?_ hR.heap.imm (fun b hb => hb) hR.only hR.below ?_ ?_⟩
 ·by_cases hqS : q = S
  ·subst hqS; exact .inl hSo
  ·exact .inr ⟨hother q hq hqS, fun id hr hg2 => ⟨hLo id (by rintro rfl; exact hq hr.symm), fun b x hL => ⟨rfl, fun h => h⟩⟩⟩
 ·subst hq
  cases id with
  | r q' =>
   have e : q' = q := hr
   subst e
   unfold ObjOk
   rw [show obj o2 (.r q') = _ from hko, hLo _ (by simp)]
   refine ⟨?_, fun a ha b hb z hz => ?_⟩
   ·rcases hO.1 with h1 | ⟨b, base, C, e, h1, h2, h3, h4, h5⟩
    ·exact .inl h1
    ·refine .inr ⟨b, base, C, e, h1, h2, h3, h4, fun a ha c hc => ?_⟩
     obtain ⟨u, hu, hr⟩ := h5 a ha c hc
     refine ⟨u, hu, ?_⟩
     by_cases hac : a = i /\ c = j
     ·obtain ⟨rfl, rfl⟩ := hac
      have e1 : gx a c = .ow n2 sz2 g := by rw [hgx]; simp
      rw [e1]
      rw [hg] at hr
      show Hdr L2 w (obj o2) (.s q' a c) 0 n2 u
      refine Hdr.same (id := .r S) ⟨hLs, ?_⟩ hr
      rw [hsubk]
      show (s.o S).like _
      rw [hS]
      exact ⟨rfl, rfl, fun c hc => by cases hc⟩
     ·have e1 : gx a c = (get a c).kill [S] := by rw [hgx]; simp only [if_neg hac]
      rw [e1]
      refine RelX.map (Turn.kill [S]) M (id := .r q') (i := a) (j := c) (fun k' hk' hg2 => ?_) hr
      injection hk' with hk'; subst hk'
      refine ⟨hLo _ (by intro h; injection h with _ h1 h2; exact hac ⟨h1, h2⟩), ?_, fun b x C e hL hC => ⟨C, hC, rfl⟩⟩
      rw [hsubo a c hac]; exact AO.like_refl _ hg2
   ·by_cases hab : a = i /\ b = j
    ·have e1 : gx a b = .ow n2 sz2 g := by rw [hgx]; simp [hab]
     rw [e1] at hz; cases hz
    ·have e1 : gx a b = (get a b).kill [S] := by rw [hgx]; simp only [if_neg hab]
     rw [e1] at hz
     exact hO.2 a ha b hb z (kill_ref _ _ z hz).1
  | s q' a b =>
   have e : q' = q := hr
   subst e
   by_cases hab : a = i /\ b = j
   ·obtain ⟨rfl, rfl⟩ := hab
    unfold ObjOk
    rw [hsubk, hLs]
    refine ⟨?_, fun p hp q hq z hz => by rw [cp_ref] at hz; rw [hnilg p hp q hq] at hz; cases hz⟩
    rcases hOS.1 with ⟨h1, h2, h3⟩ | ⟨b', base, C, e, h1, h2, h3, h4, h5⟩
    ·exact .inl ⟨h1, h2, fun c hc => by cases hc⟩
    ·refine .inr ⟨b', base, C, e, h1, fun _ => h2 hm2, h3, h4, fun p hp q hq => ?_⟩
     obtain ⟨u, hu, hr⟩ := h5 p hp q hq
     refine ⟨u, hu, RelX.of ?_ (isOw_cp _)⟩
     have h6 := M _ _ hr.toC.cp
     rwa [AC.kill_id (fun z hz => by rw [cp_ref, hnilg p hp q hq] at hz; cases hz)] at h6
   ·by_cases hgo : obj o2 (.s q' a b) = .gone
    ·unfold ObjOk; rw [hgo]; trivial
    ·refine (hR.heap.ok (.s q' a b)).map (Turn.kill [S]) M ?_ (fun _ => hLo _ (by intro h; injection h with _ h1 h2; exact hab ⟨h1, h2⟩)) (fun _ b x _ => ⟨rfl, fun h => h⟩) (fun _ _ _ h => by cases h)
     rw [hsubo a b hab]
     obtain ⟨m', rs', n', sz', get', p, q, g', _, _, _, _, h3⟩ := obj_s (by rw [hsubo a b hab] at hgo; exact hgo)
     rw [h3]; rfl
 ·refine inj_back (fun id => if id = .s k i j then .r S else id) hR.heap.inj (fun id hid => ?_) (fun id id' hid hid' he => ?_)
  ·rcases hlive id hid with rfl | ⟨h1, h2, _⟩
   ·simp only [if_true]; exact ⟨hLs, by show s.o S ≠ .gone; rw [hS]; simp⟩
   ·simp only [if_neg h1]; exact ⟨hLo id h1, h2⟩
  ·rcases hlive id hid with rfl | ⟨h1, h2, h3⟩ <;> rcases hlive id' hid' with rfl | ⟨g1, g2, g3⟩
   ·rfl
   ·simp only [if_true, if_neg g1] at he; exact (g3 (by rw [<- he]; rfl)).elim
   ·simp only [if_true, if_neg h1] at he; exact (h3 (by rw [he]; rfl)).elim
   ·simpa [h1, g1] using he
 ·intro id b x hid hL
  rcases hlive id hid with rfl | ⟨h1, h2, _⟩
  ·rw [hLs] at hL; exact hR.new (.r S) b x (by show s.o S ≠ .gone; rw [hS]; simp) hL
  ·rw [hLo id h1] at hL; exact hR.new id b x h2 hL
 ·intro q hq hgq
  rcases hlive (.r q) hgq with h | ⟨h1, h2, _⟩
  ·cases h
  ·rw [hLo _ h1]; exact hR.kept q hq h2
def AC.fz (S sz : Nat) (get : Nat -> Nat -> AC) : AC -> AC
 | .os k off n => if k = S then .bs n sz fun a b => (get (off + a) b).lentIn else .os k off n
 | .ptr k a => if k = S then .junk else .ptr k a
 | .ep k a b => if k = S then .junk else .ep k a b
 | .fn f n caps => .fn f n fun j => if j < n then (caps j).fz S sz get else caps j
 | x => x
def freezeSt (s : St) (S : Nat) : St :=
 match s.o S with
 | .arr _ _ _ sz get => ⟨s.t.map (AV.map (AC.fz S sz get)), fun q => if q = S then .gone else (s.o q).map (AC.fz S sz get) id fun rs => !rs.contains S⟩
 | _ => s
theorem fz_ref (S sz : Nat) (get : Nat -> Nat -> AC) : ∀ (x : AC), ∀ k ∈ (x.fz S sz get).ref, k ∈ x.ref /\ k ≠ S := by
 intro x
 induction x with
 | fn f n caps ih =>
  intro k hk
  simp only [AC.fz, AC.ref, List.mem_flatMap] at hk ⊢
  obtain ⟨j, hj, hk⟩ := hk
  rw [if_pos (by simpa using hj)] at hk
  exact ⟨⟨j, hj, (ih j k hk).1⟩, (ih j k hk).2⟩
 | os q a b =>
  intro k hk
  by_cases h : q = S
  ·simp [AC.fz, h, AC.ref] at hk
  ·simp [AC.fz, h, AC.ref] at hk ⊢; subst hk; exact ⟨rfl, h⟩
 | ptr q a =>
  intro k hk
  by_cases h : q = S
  ·simp [AC.fz, h, AC.ref] at hk
  ·simp [AC.fz, h, AC.ref] at hk ⊢; subst hk; exact ⟨rfl, h⟩
 | ep q a b =>
  intro k hk
  by_cases h : q = S
  ·simp [AC.fz, h, AC.ref] at hk
  ·simp [AC.fz, h, AC.ref] at hk ⊢; subst hk; exact ⟨rfl, h⟩
 | _ => intro k hk; cases hk
theorem fz_id {S sz : Nat} {get : Nat -> Nat -> AC} : ∀ {x : AC}, (∀ k ∈ x.ref, k ≠ S) -> x.fz S sz get = x := by
 intro x
 induction x with
 | fn f n caps ih =>
  intro h
  simp only [AC.fz]
  congr 1
  funext j
  by_cases hj : j < n
  ·rw [if_pos hj]
   exact ih j fun k hk => h k (by simp only [AC.ref, List.mem_flatMap]; exact ⟨j, by simpa using hj, hk⟩)
  ·rw [if_neg hj]
 | os q a b => intro h; simp [AC.ref] at h; simp [AC.fz, h]
 | ptr q a => intro h; simp [AC.ref] at h; simp [AC.fz, h]
 | ep q a b => intro h; simp [AC.ref] at h; simp [AC.fz, h]
 | _ => intro h; rfl
theorem isOw_fz (S sz : Nat) (get : Nat -> Nat -> AC) (x : AC) : isOw (x.fz S sz get) = isOw x := by
 cases x with
 | os q a b => by_cases h : q = S <;> simp [AC.fz, h, isOw]
 | ptr q a => by_cases h : q = S <;> simp [AC.fz, h, isOw]
 | ep q a b => by_cases h : q = S <;> simp [AC.fz, h, isOw]
 | _ => rfl
theorem Turn.fz (S sz : Nat) (get : Nat -> Nat -> AC) : Turn (AC.fz S sz get) id (fun rs => !rs.contains S) :=
 ⟨rfl, fun rs h x hx => fz_id fun k hk hks => by subst hks; simp at h; exact h (hx k hk), isOw_fz S sz get, fun x rs h k hk => h k (fz_ref S sz get x k hk).1⟩
theorem le_freeze {S : Nat} {m : Md} {N sz : Nat} {get : Nat -> Nat -> AC} (hS : s.o S = .arr m [] N sz get) : s.le (freezeSt s S) := by
 intro w0 I0 a w ⟨L, I, hR⟩
 have hfs : freezeSt s S = ⟨s.t.map (AV.map (AC.fz S sz get)), fun q => if q = S then .gone else (s.o q).map (AC.fz S sz get) id fun rs => !rs.contains S⟩ := by simp only [freezeSt, hS]
 rw [hfs]
 obtain ⟨o2, ho2⟩ : ∃ o2 : Nat -> AO, o2 = fun q => if q = S then .gone else (s.o q).map (AC.fz S sz get) id fun rs => !rs.contains S := ⟨_, rfl⟩
 rw [<- ho2]
 have hSo : o2 S = .gone := by rw [ho2]; simp
 have hother : ∀ q, q ≠ S -> o2 q = (s.o q).map (AC.fz S sz get) id fun rs => !rs.contains S := fun q h => by rw [ho2]; simp [h]
 obtain ⟨I2, hI2⟩ : ∃ I2, I2 = lentI L I s.o [S] := ⟨_, rfl⟩
 have hkeep : ∀ q, q ≠ S -> s.o q ≠ .gone -> Kept L w (obj s.o) (.r q) L w (obj o2) (.r q) := fun q hq hg => ⟨rfl, by show (s.o q).like (o2 q); rw [hother q hq]; exact AO.like_map _ _ _ _ hg, fun b x C e hL hC => ⟨C, hC, rfl⟩⟩
 have hmono : ∀ (x : AC) y, RelI I w x y -> RelI I2 w x y := fun x y h => RelI.mono (fun b hb => ⟨by rw [hI2]; exact .inl hb, rfl⟩) x y h
 have M : Moves (AC.fz S sz get) L I w (obj s.o) L I2 w (obj o2) := by
  intro x
  induction x with
  | v x => intro y h; exact h
  | bs n sz g => intro y h; exact hmono _ _ h
  | bp n g => intro y h; exact hmono _ _ h
  | junk => intro y h; exact h
  | ow n sz g => intro y h; exact h
  | fn f n caps ih =>
   intro y h
   obtain ⟨cs, hy, hs, hc⟩ := h
   refine ⟨cs, hy, hs, fun j hj => ?_⟩
   obtain ⟨u, hu, hr⟩ := hc j hj
   exact ⟨u, hu, by simp only [if_pos hj]; exact ih j u hr⟩
  | os k off n =>
   intro y h
   simp only [AC.fz]
   by_cases hk : k = S
   ·rw [if_pos hk]
    subst hk
    have := lentIn2_rel hR.heap (R := [k]) (by simp) h
    rw [hS] at this
    rw [hI2]
    exact RelI.toC _ _ this
   ·rw [if_neg hk]
    refine Hdr.step (hkeep k hk ?_) h
    obtain ⟨_, _, _, _, _, ho, _⟩ := h
    intro hg
    rw [show obj s.o (.r k) = _ from hg] at ho; cases ho
  | ptr k off =>
   intro y h
   simp only [AC.fz]
   by_cases hk : k = S
   ·rw [if_pos hk]; exact h.one'
   ·rw [if_neg hk]
    have hg : s.o k ≠ .gone := by
     obtain ⟨_, _, ho, _⟩ := h
     intro hg; rw [show obj s.o (.r k) = _ from hg] at ho; cases ho
    have := hkeep k hk hg
    exact (Same.refs (w := w) (I := I) (I' := I2) ⟨this.lay, this.like⟩).2.1 off y h
  | ep k i j =>
   intro y h
   simp only [AC.fz]
   by_cases hk : k = S
   ·rw [if_pos hk]; exact h.one'
   ·rw [if_neg hk]
    have hg : s.o k ≠ .gone := by
     obtain ⟨_, _, _, _, _, _, _, ho, _⟩ := h
     intro hg; rw [show obj s.o (.r k) = _ from hg] at ho; cases ho
    have := hkeep k hk hg
    exact (Same.refs (w := w) (I := I) (I' := I2) ⟨this.lay, this.like⟩).2.2 i j y h
 have hlive : ∀ id : Id, obj o2 id ≠ .gone -> obj s.o id ≠ .gone /\ id.root ≠ S := by
  intro id hid
  have hr : id.root ≠ S := by
   intro hr
   apply hid
   cases id with
   | r q => have e : q = S := hr; subst e; exact hSo
   | s q a b => have e : q = S := hr; subst e; simp only [obj]; rw [hSo]
  refine ⟨?_, hr⟩
  cases id with
  | r q =>
   have : o2 q ≠ .gone := hid
   rw [hother q hr] at this; exact AO.map_gone this
  | s q a b => rw [obj_map (Turn.fz S sz get) (hother q hr) a b] at hid; exact hid
 refine ⟨L, I2, hR.step (Turn.fz S sz get) M (o' := o2) (fun _ => False) (fun q _ => ?_) (fun q hq => hq.elim) (fun id id' b x x' h1 h2 => hR.heap.inj id id' b x x' (hlive id h1).1 (hlive id' h2).1) ?_ (fun b hb => by rw [hI2]; exact .inl hb) ?_ hR.below (fun id b x h => hR.new id b x (hlive id h).1) (fun q hq h => hR.kept q hq (hlive (.r q) h).1)⟩
 ·by_cases hq : q = S
  ·subst hq; exact .inl hSo
  ·refine .inr ⟨hother q hq, fun id hr hg => ⟨rfl, fun b x hL => ⟨rfl, fun hnI hb => ?_⟩⟩⟩
   rw [hI2] at hb
   rcases hb with hb | ⟨id0, z, h1, h2, h3⟩
   ·exact hnI hb
   ·have := hR.heap.inj id id0 b x z hg h2 hL h3
    subst this
    simp at h1
    exact hq (hr.symm.trans h1)
 ·rw [hI2]
  rintro b (hb | ⟨id0, z, h1, h2, h3⟩)
  ·exact hR.heap.imm b hb
  ·exact (hR.heap.lt h2 h3).1
 ·rw [hI2]
  rintro b (hb | ⟨id0, z, h1, h2, h3⟩) hlt
  ·exact hR.only b hb hlt
  ·rcases hR.new id0 b z h2 h3 with h4 | h4
   ·omega
   ·exact .inr h4
theorem le_nilT (i K sz : Nat) (g : Nat -> Nat -> AC) (hK : K % 2 = 0) (hi : s.t[i]? = some (.c (.v (.slice none 0 0)))) : s.le ⟨(s.kill [K]).t.set i (.c (.os K 0 0)), updO (s.kill [K]).o K (.arr .rw [] 0 sz g)⟩ := by
 intro w0 I0 a w ⟨L, I, hR⟩
 have h1 := hR.nilArr K hK sz g
 have hlt : i < a.tmps.size := by rw [hR.tmps.1]; exact (List.getElem?_eq_some_iff.1 hi).1
 have hv : a.tmps[i]? = some (.slice none 0 0) := by
  obtain ⟨u, hu, hr⟩ := hR.tmps.2 i _ hi
  have : u = .slice none 0 0 := hr.1
  rw [hu, this]
 have h2 := h1.put (some i) (x := .c (.os K 0 0)) (y := .slice none 0 0) ⟨.rw, [], 0, sz, g, by simp [obj, updO], .inl ⟨layL_r, rfl, rfl, rfl, ⟨_, rfl⟩, fun c hc => by cases hc⟩⟩
 have e : a.put (some i) (.slice none 0 0) = a := by
  unfold Act.put
  have : a.tmps.setIfInBounds i (.slice none 0 0) = a.tmps := by
   apply Array.ext_getElem?
   intro q
   rw [Array.getElem?_setIfInBounds]
   split
   ·rename_i hq; subst hq; first | (rw [hv]; done) | (rw [hv]; simp [hlt])
   ·rfl
  simp [this]
 rw [e] at h2
 exact ⟨_, I, h2⟩
theorem RelL.setVar (hR : RelL w0 I0 L I s a w) {k j : Nat} {l : List AC} {x x' : AC} (hk : s.o k = .var l) (hj : l[j]? = some x) (h : ∀ y, RelC L I w (obj s.o) x y -> RelC L I w (obj s.o) x' y) : RelL w0 I0 L I ⟨s.t, updO s.o k (.var (l.set j x'))⟩ a w := by
 obtain ⟨o2, ho2⟩ : ∃ o2, o2 = updO s.o k (.var (l.set j x')) := ⟨_, rfl⟩
 rw [<- ho2]
 have hko : o2 k = .var (l.set j x') := by rw [ho2]; simp [updO]
 have hother : ∀ q, q ≠ k -> o2 q = s.o q := fun q hq => by rw [ho2]; simp [updO, hq]
 have hlike : ∀ q, s.o q ≠ .gone -> (s.o q).like (o2 q) := fun q hg => by
  by_cases hq : q = k
  ·subst hq; rw [hk, hko]; simp [AO.like]
  ·rw [hother q hq]; exact AO.like_refl _ hg
 have hobs : ∀ id, obj o2 id ≠ .gone -> obj s.o id ≠ .gone := by
  intro id hid
  cases id with
  | r q =>
   by_cases hq : q = k
   ·subst hq; show s.o q ≠ .gone; rw [hk]; simp
   ·have : o2 q ≠ .gone := hid
    rwa [hother q hq] at this
  | s q i j =>
   by_cases hq : q = k
   ·subst hq; exfalso; apply hid; simp only [obj, hko]
   ·simp only [obj] at hid ⊢; rwa [hother q hq] at hid
 have hK : Keeps [] L I w (obj s.o) L I w (obj o2) := ⟨fun b hb => ⟨hb, rfl⟩, fun q _ hg => ⟨rfl, hlike q hg, fun b x C e hL hC => ⟨C, hC, rfl⟩⟩⟩
 have M := hK.moves.of_nil
 have := hR.step (Turn.kill []) hK.moves (o' := o2) (fun q => q = k) (fun q hq => .inr ⟨by rw [hother q hq]; exact (AO.kill_nil _).symm, fun id hr hg => ⟨rfl, fun b x _ => ⟨rfl, fun h => h⟩⟩⟩)
  (fun q hq id hr => by
   subst hq
   cases id with
   | s q' i j =>
    have e : q' = q := hr
    subst e
    unfold ObjOk
    have : obj o2 (.s q' i j) = .gone := by simp only [obj, hko]
    rw [this]; trivial
   | r q' =>
    have e : q' = q := hr
    subst e
    unfold ObjOk
    rw [show obj o2 (.r q') = _ from hko]
    obtain ⟨b, C, e, h1, h2, h3, h4, h5⟩ := hR.heap.var (id := .r q') hk
    refine ⟨b, C, e, h1, h2, h3, by simpa using h4, fun i z hz => ?_⟩
    rw [List.getElem?_set] at hz
    split at hz
    ·rename_i hji
     subst hji
     split at hz
     ·injection hz with hz; subst hz
      obtain ⟨u, hu, hr⟩ := h5 j x hj
      exact ⟨u, hu, M _ _ (h u hr)⟩
     ·cases hz
    ·obtain ⟨u, hu, hr⟩ := h5 i z hz
     exact ⟨u, hu, M _ _ hr⟩)
  (fun id id' b x x' h1 h2 => hR.heap.inj id id' b x x' (hobs id h1) (hobs id' h2)) hR.heap.imm (fun b hb => hb) hR.only hR.below (fun id b x h => hR.new id b x (hobs id h)) (fun q hq h => hR.kept q hq (hobs (.r q) h))
 have e0 : AV.map (AC.kill []) = id := AV.kill_nil'
 rw [e0, List.map_id] at this
 exact this
theorem le_nilV (k j K sz : Nat) (g : Nat -> Nat -> AC) (hK : K % 2 = 0) (hkK : k ≠ K) {l : List AC} (hk : s.o k = .var l) (hj : l[j]? = some (.v (.slice none 0 0))) : s.le ⟨(s.kill [K]).t, updO (updO (s.kill [K]).o K (.arr .rw [] 0 sz g)) k (.var ((l.map (AC.kill [K])).set j (.os K 0 0)))⟩ := by
 intro w0 I0 a w ⟨L, I, hR⟩
 have h1 := hR.nilArr K hK sz g
 refine ⟨_, I, h1.setVar (k := k) (j := j) (l := l.map (AC.kill [K])) (x := .v (.slice none 0 0)) ?_ ?_ ?_⟩
 ·simp [updO, kill_t, killO, hkK, hk, AO.kill, AO.map]
 ·rw [List.getElem?_map, hj]; rfl
 ·intro y hy
  have : y = .slice none 0 0 := hy.1
  subst this
  exact ⟨.rw, [], 0, sz, g, by simp [obj, updO], .inl ⟨layL_r, rfl, rfl, rfl, ⟨_, rfl⟩, fun c hc => by cases hc⟩⟩
end
def len {α : Type} (l : List α) : Nat := l.length
def gd {α : Type} [Inhabited α] (l : List α) (i : Nat) : α := l.getD i default
def bv (b : Bool) : AV := .c (.v (.bool b))
def iv (k : IntKind) (x : Int) : AV := .c (.v (.int k x))
def sv (s : ByteArray) : AV := .c (.v (.string s))
def row {α : Type} (g : List α -> Nat -> α) (enc : α -> Nat -> AC) (l : List α) : Nat -> Nat -> AC := fun i j => enc (g l i) j
theorem fork {b : Bool} {p q : Prop} (h1 : b = true -> p) (h2 : b = false -> q) : brP b (fun _ => p) (fun _ => q) := brP_mk h1 h2
def letO {α β : Type} (e : α) (k : α -> Option β) : Option β := k e
open Classical in
def req {β : Type} (p : Prop) (k : Option β) : Option β := if p then k else none
def br {β : Type} (b : Bool) (x y : Option β) : Option β := match b with | true => x | false => y
theorem oq_ {β : Type} {p : Prop} {k : Option β} {r : β} (h : req p k = some r) : p /\ k = some r := by
 unfold req at h
 split at h
 ·rename_i hp; exact ⟨hp, h⟩
 ·cases h
theorem ot {β : Type} {b : Bool} {x y : Option β} {r : β} (hb : b = true) (h : br b x y = some r) : x = some r := by subst hb; exact h
theorem og {β : Type} {b : Bool} {x y : Option β} {r : β} (hb : b = false) (h : br b x y = some r) : y = some r := by subst hb; exact h
theorem ob_ {α β : Type} {x : Option α} {k : α -> Option β} {r : β} (h : x.bind k = some r) : ∃ y, x = some y /\ k y = some r := by
 cases x with
 | none => cases h
 | some y => exact ⟨y, rfl, h⟩
def whileN {σ ρ : Type} (step : σ -> Option (σ ⊕ ρ)) : Nat -> σ -> Option ρ
 | 0, _ => none
 | n + 1, s => match step s with
  | none => none
  | some (.inl s') => whileN step n s'
  | some (.inr r) => some r
theorem whileN_mono {σ ρ : Type} {step : σ -> Option (σ ⊕ ρ)} : ∀ {n m : Nat} {s : σ} {r : ρ}, whileN step n s = some r -> n <= m -> whileN step m s = some r
 | 0, _, _, _, h, _ => by cases h
 | n + 1, 0, _, _, _, hm => absurd hm (by omega)
 | n + 1, m + 1, s, r, h, hm => by
  unfold whileN at h ⊢
  split at h
  ·cases h
  ·exact whileN_mono h (by omega)
  ·exact h
open Classical in
def whileP {σ ρ : Type} (step : σ -> Option (σ ⊕ ρ)) (s : σ) : Option ρ := if h : ∃ n r, whileN step n s = some r then some (Classical.choose (Classical.choose_spec h)) else none
theorem whileP_spec {σ ρ : Type} {step : σ -> Option (σ ⊕ ρ)} {s : σ} {r : ρ} : whileP step s = some r ↔ ∃ n, whileN step n s = some r := by
 unfold whileP
 constructor
 ·intro h
  split at h
  ·rename_i hh
   injection h with h
   exact ⟨_, h ▸ Classical.choose_spec (Classical.choose_spec hh)⟩
  ·cases h
 ·rintro ⟨n, h⟩
  have hh : ∃ n r, whileN step n s = some r := ⟨n, r, h⟩
  rw [dif_pos hh]
  have h2 := Classical.choose_spec (Classical.choose_spec hh)
  have h3 := whileN_mono h (Nat.le_max_left n (Classical.choose hh))
  have h4 := whileN_mono h2 (Nat.le_max_right n (Classical.choose hh))
  rw [h3] at h4
  exact h4.symm
theorem whileP_unfold {σ ρ : Type} (step : σ -> Option (σ ⊕ ρ)) (s : σ) : whileP step s = match step s with | none => none | some (.inl s') => whileP step s' | some (.inr r) => some r := by
 apply Option.ext
 intro r
 rw [whileP_spec]
 constructor
 ·rintro ⟨n, h⟩
  cases n with
  | zero => cases h
  | succ n =>
   unfold whileN at h
   split at h
   ·cases h
   ·rename_i s' hs; exact whileP_spec.2 ⟨n, h⟩
   ·rename_i r' hs; exact h
 ·intro h
  split at h
  ·cases h
  ·rename_i s' hs
   obtain ⟨n, hn⟩ := whileP_spec.1 h
   exact ⟨n + 1, by unfold whileN; simp only [hs]; exact hn⟩
  ·rename_i r' hs
   exact ⟨1, by unfold whileN; simp only [hs]; exact h⟩
section
variable {s : St}
end
section
variable {s : St}
theorem loop_cut {σ ρ : Type} {step : σ -> Option (σ ⊕ ρ)} {x0 : σ} {y : ρ} (hrun : whileP step x0 = some y) {f : St -> (Exit -> St -> Prop) -> Prop} {K : Exit -> St -> Prop} (S : σ -> St) (hle : s.le (S x0)) (R : ρ -> Exit -> St -> Prop)
  (h : ∀ x z, step x = some z -> ∀ K' : Exit -> St -> Prop, (∀ x', z = .inl x' -> ∀ s', s'.le (S x') -> K' .normal s') -> (∀ y', z = .inr y' -> ∀ e s', R y' e s' -> e ≠ .normal -> K' e s') -> f (S x) K')
  (hend : ∀ e s', R y e s' -> e ≠ .normal -> K e s') : ∃ s' m, s.le s' /\ iter f m s' K := by
 obtain ⟨n, hn⟩ := whileP_spec.1 hrun
 refine ⟨S x0, n, hle, ?_⟩
 clear hrun hle
 induction n generalizing x0 with
 | zero => cases hn
 | succ n ih =>
  unfold whileN at hn
  split at hn
  ·cases hn
  ·rename_i x' hx
   refine h x0 _ hx _ (fun x2 hx2 s' hs' => ⟨S x2, hs', by injection hx2 with hx2; subst hx2; exact ih hn⟩) (fun y' hy => by cases hy)
  ·rename_i r hx
   refine h x0 _ hx _ (fun x2 hx2 => by cases hx2) (fun y' hy e s' hR he => ?_)
   injection hy with hy
   injection hn with hn
   subst hy
   subst hn
   cases e with
   | normal => exact (he rfl).elim
   | _ => exact hend _ _ hR he
end
theorem upd_join {α : Type} [Inhabited α] {enc : α -> Nat -> AC} {sz : Nat} (hcp : ∀ x j, j < sz -> (enc x j).cp = enc x j) {l xs : List α} {off : Nat} {N : Nat} (hN : N <= len l + (len xs - off)) :
  ∀ i, i < N -> ∀ j, j < sz -> joinC (len l) (row gd enc l) (fun i j => (row gd enc xs (off + i) j).cp) i j = row gd enc (l ++ xs.drop off) i j := by
 intro i hi j hj
 unfold joinC row gd len at *
 by_cases h : i < l.length
 ·rw [if_pos h]
  simp only [List.getD_eq_getElem?_getD, List.getElem?_append_left h]
 ·rw [if_neg h]
  show (enc (xs.getD (off + (i - l.length)) default) j).cp = _
  rw [hcp _ _ hj]
  simp only [List.getD_eq_getElem?_getD]
  rw [List.getElem?_append_right (by omega), List.getElem?_drop]
def encI (k : IntKind) (x : Int) : Nat -> AC := fun _ => .v (.int k x)
def encB (b : Bool) : Nat -> AC := fun _ => .v (.bool b)
def encS (s : ByteArray) : Nat -> AC := fun _ => .v (.string s)
def eN {α : Type} [Inhabited α] (U_ : {α : Type} -> List α -> Nat) (G_ : {α : Type} -> [Inhabited α] -> List α -> Nat -> α) (sz : Nat) (enc : α -> Nat -> AC) (l : List α) : Nat -> AC := fun _ => .bs (U_ l) sz (row G_ enc l)
section
variable {P : Program} {T : TT} {w0 w w' : World} {I0 : Fr} {I I' : Nat -> Prop} {L L' : Lay} {s : St} {a : Act}
def swapN (k k' q : Nat) : Nat := if q = k then k' else if q = k' then k else q
theorem swapN_swapN (k k' q : Nat) : swapN k k' (swapN k k' q) = q := by
 unfold swapN
 by_cases h1 : q = k
 ·subst h1
  by_cases h2 : k' = q
  ·simp [h2]
  ·simp [h2]
 ·by_cases h2 : q = k'
  ·subst h2; simp [h1]
  ·simp [h1, h2]
def swapI (k k' : Nat) : Id -> Id
 | .r q => .r (swapN k k' q)
 | .s q i j => .s (swapN k k' q) i j
def renSt (s : St) (k k' : Nat) : St :=
 ⟨s.t.map (AV.ren fun q => some (swapN k k' q)), fun q => (s.o (swapN k k' q)).ren fun q => some (swapN k k' q)⟩
theorem le_renG (k k' : Nat) (hk : k' % 2 = 0) (hg : k % 2 = 0 \/ s.o k' = .gone) : s.le (renSt s k k') := by
 intro w0 I0 a w ⟨L, I, hR⟩
 obtain ⟨f, hf⟩ : ∃ f : Nat -> Option Nat, f = fun q => some (swapN k k' q) := ⟨_, rfl⟩
 obtain ⟨o', ho'⟩ : ∃ o' : Nat -> AO, o' = fun q => (s.o (swapN k k' q)).ren f := ⟨_, rfl⟩
 have hst : renSt s k k' = ⟨s.t.map (AV.ren f), o'⟩ := by rw [ho', hf]; rfl
 rw [hst]
 have hfs : ∀ q, (f q).isSome := fun q => by rw [hf]; rfl
 have hfq : ∀ q q', f q = some q' -> q' = swapN k k' q := fun q q' h => by rw [hf] at h; injection h with h; exact h.symm
 obtain ⟨L', hL'⟩ : ∃ L' : Lay, L' = fun id => L (swapI k k' id) := ⟨_, rfl⟩
 have hLr : ∀ q, L' (.r q) = L (.r (swapN k k' q)) := fun q => by rw [hL']; rfl
 have hLs : ∀ q i j, L' (.s q i j) = L (.s (swapN k k' q) i j) := fun q i j => by rw [hL']; rfl
 have hor : ∀ q, o' q = (s.o (swapN k k' q)).ren f := fun q => by rw [ho']
 have hos : ∀ q i j, obj o' (.s q i j) = obj s.o (.s (swapN k k' q) i j) := fun q i j => by
  rw [obj_map (o := fun q => s.o (swapN k k' q)) (Turn.ren f) (hor q) i j]
  simp only [obj]
 have hsame : ∀ q q', f q = some q' -> s.o q ≠ .gone -> Same L (obj s.o) (.r q) L' (obj o') (.r q') := by
  intro q q' h hgq
  have e := hfq q q' h
  subst e
  refine ⟨by rw [hLr, swapN_swapN], ?_⟩
  show (s.o q).like (o' _)
  rw [hor, swapN_swapN]
  exact AO.like_map _ _ _ _ hgq
 have hfwd : ∀ (x : AC) (y : Value), RelC L I w (obj s.o) x y -> RelC L' I w (obj o') (x.ren f) y := by
  intro x
  induction x with
  | fn g n caps ih =>
   intro y
   rintro ⟨cs, h1, h2, h3⟩
   refine ⟨cs, h1, h2, fun j hj => ?_⟩
   obtain ⟨u, hu, hrr⟩ := h3 j hj
   exact ⟨u, hu, by simp only [if_pos hj]; exact ih j u hrr⟩
  | os q a b =>
   intro y h
   obtain ⟨q', hq⟩ := Option.isSome_iff_exists.1 (hfs q)
   simp only [AC.ren, hq]
   have hgq : s.o q ≠ .gone := by
    obtain ⟨_, _, _, _, _, ho, _⟩ := h
    intro hgg; rw [show obj s.o (.r q) = _ from hgg] at ho; cases ho
   exact ((hsame q q' hq hgq).refs (I := I) (I' := I)).1 a b y h
  | ptr q a =>
   intro y h
   obtain ⟨q', hq⟩ := Option.isSome_iff_exists.1 (hfs q)
   simp only [AC.ren, hq]
   have hgq : s.o q ≠ .gone := by
    obtain ⟨_, _, ho, _⟩ := h
    intro hgg; rw [show obj s.o (.r q) = _ from hgg] at ho; cases ho
   exact ((hsame q q' hq hgq).refs (w := w) (I := I) (I' := I)).2.1 a y h
  | ep q a b =>
   intro y h
   obtain ⟨q', hq⟩ := Option.isSome_iff_exists.1 (hfs q)
   simp only [AC.ren, hq]
   have hgq : s.o q ≠ .gone := by
    obtain ⟨_, _, _, _, _, _, _, ho, _⟩ := h
    intro hgg; rw [show obj s.o (.r q) = _ from hgg] at ho; cases ho
   exact ((hsame q q' hq hgq).refs (w := w) (I := I) (I' := I)).2.2 a b y h
  | _ => intro y h; exact h
 have hlive : ∀ id b x, obj o' id ≠ .gone -> L' id = some (b, x) -> obj s.o (swapI k k' id) ≠ .gone /\ L (swapI k k' id) = some (b, x) := by
  intro id b x hid hl
  cases id with
  | r q =>
   have : o' q ≠ .gone := hid
   rw [hor] at this
   exact ⟨AO.map_gone this, by rw [hLr] at hl; exact hl⟩
  | s q i j => rw [hos] at hid; exact ⟨hid, by rw [hLs] at hl; exact hl⟩
 have hswap : ∀ id id', swapI k k' id = swapI k k' id' -> id = id' := by
  intro id id' h
  have h2 : swapI k k' (swapI k k' id) = swapI k k' (swapI k k' id') := by rw [h]
  cases id <;> cases id' <;> simp only [swapI, swapN_swapN] at h2 <;> exact h2
 have hobj : ∀ id, ObjOk L' I w (obj o') id := by
  intro id
  cases id with
  | r q =>
   obtain ⟨q0, hq0⟩ : ∃ q0, q0 = swapN k k' q := ⟨_, rfl⟩
   unfold ObjOk
   have hoq : obj o' (.r q) = (s.o q0).ren f := by rw [hq0]; exact hor q
   rw [hoq]
   cases hx : s.o q0 with
   | gone => trivial
   | var l =>
    obtain ⟨b, C, e, h1, h2, h3, h4, h5⟩ := hR.heap.var (id := .r q0) hx
    refine ⟨b, C, e, by rw [hLr, <- hq0]; exact h1, h2, h3, by simpa using h4, fun i x hxi => ?_⟩
    rw [List.getElem?_map, Option.map_eq_some_iff] at hxi
    obtain ⟨x0, hx0, rfl⟩ := hxi
    obtain ⟨u, hu, hr⟩ := h5 i x0 hx0
    exact ⟨u, hu, hfwd _ _ hr⟩
   | arr m rs N sz get =>
    obtain ⟨h1, h2⟩ := hR.heap.arr (id := .r q0) hx
    obtain ⟨rs', get', e1, e2, e3⟩ := renmap (Turn.ren f) (m := m) h2
    have e1' : (AO.arr m rs N sz get).ren f = .arr m rs' N sz get' := e1
    rw [e1']
    refine ⟨?_, e3⟩
    rcases h1 with ⟨g1, g2⟩ | ⟨b, base, C, e, g3, g4, g5, g6, g7⟩
    ·exact .inl ⟨by rw [hLr, <- hq0]; exact g1, g2⟩
    ·refine .inr ⟨b, base, C, e, by rw [hLr, <- hq0]; exact g3, g4, g5, g6, fun i hi j hj => ?_⟩
     obtain ⟨u, hu, hr⟩ := g7 i hi j hj
     refine ⟨u, hu, ?_⟩
     rw [e2 i hi j hj]
     cases hxo : isOw (get i j) with
     | false => exact RelX.of (hfwd _ _ hr.toC) (by rw [ren_ow]; exact hxo)
     | true =>
      cases hgx : get i j with
      | ow p z r =>
       rw [hgx] at hr
       rw [ren_fix _ _ (by simp [AC.ref])]
       refine Hdr.same (id := .s q0 i j) (id' := .s q i j) ⟨by rw [hLs, <- hq0], ?_⟩ hr
       rw [hos, <- hq0]
       refine AO.like_refl _ ?_
       obtain ⟨_, _, _, _, _, ho, _⟩ := hr
       rw [ho]; simp
      | _ => rw [hgx] at hxo; cases hxo
  | s q i j =>
   by_cases hlv : obj o' (.s q i j) = .gone
   ·unfold ObjOk; rw [hlv]; trivial
   ·rw [hos] at hlv
    obtain ⟨m2, rs2, n2, sz2, get2, p2, q2, g2, _, _, _, _, h3⟩ := obj_s hlv
    obtain ⟨h4, h5⟩ := hR.heap.arr h3
    unfold ObjOk
    rw [hos, h3]
    refine ⟨?_, h5⟩
    rcases h4 with ⟨h6, h7⟩ | ⟨b, base, C, e, h6, h7, h8, h9, h10⟩
    ·exact .inl ⟨by rw [hLs]; exact h6, h7⟩
    ·refine .inr ⟨b, base, C, e, by rw [hLs]; exact h6, h7, h8, h9, fun i' hi' j' hj' => ?_⟩
     obtain ⟨u, hu, hr⟩ := h10 i' hi' j' hj'
     refine ⟨u, hu, RelX.of ?_ (isOw_cp _)⟩
     have hnil : (g2 i' j').cp.ref = [] := List.eq_nil_iff_forall_not_mem.2 fun z hz => by simpa using h5 i' hi' j' hj' z hz
     exact RelI.toC _ _ (RelC.toI _ _ hnil hr.toC)
 refine ⟨L', I, ⟨hobj, fun id id' b x x' g1 g2 g3 g4 => ?_, hR.heap.imm⟩, RelT.map hfwd hR.tmps, hR.defers, hR.below, hR.old, hR.only, fun id b x g1 g2 => ?_, fun q hq g1 => ?_⟩
 ·obtain ⟨h1, h2⟩ := hlive id b x g1 g3
  obtain ⟨h3, h4⟩ := hlive id' b x' g2 g4
  exact hswap _ _ (hR.heap.inj _ _ b x x' h1 h3 h2 h4)
 ·obtain ⟨h1, h2⟩ := hlive id b x g1 g2
  exact hR.new _ b x h1 h2
 ·have h1 : s.o (swapN k k' q) ≠ .gone := by
   have g2 : o' q ≠ .gone := g1
   rw [hor] at g2; exact AO.map_gone g2
  have hqk' : q ≠ k' := by rintro rfl; omega
  have hqk : q ≠ k := by
   rintro rfl
   rcases hg with hg | hg
   ·omega
   apply h1
   simp only [swapN, if_pos]; exact hg
  have e : swapN k k' q = q := by simp [swapN, hqk, hqk']
  rw [hLr, e]
  rw [e] at h1
  exact hR.kept q hq h1
theorem le_ren (k k' : Nat) (hk : k' % 2 = 0) (hg : s.o k' = .gone) : s.le (renSt s k k') := le_renG k k' hk (.inr hg)
theorem le_swap (k k' : Nat) (hk : k' % 2 = 0) (hk2 : k % 2 = 0) : s.le (renSt s k k') := le_renG k k' hk (.inl hk2)
end
def plainC : AC -> Bool
 | .v _ | .bs .. | .bp .. => true
 | _ => false
def valC : AC -> Bool
 | .v _ => true
 | _ => false
theorem plain_ref {x : AC} (h : plainC x = true) {k : Nat} (hk : k ∈ x.ref) : False := by
 cases x <;> first | (cases h; done) | (cases hk; done)
theorem plain_nil {x : AC} (h : plainC x = true) : x.ref = [] := by
 cases x <;> first | rfl | cases h
theorem plain_cp {x : AC} (h : plainC x = true) : x.cp = x := by
 cases x <;> first | rfl | cases h
theorem val_flat {x : AC} (h : valC x = true) : x.flat := by
 cases x <;> first | trivial | cases h
theorem val_plain {x : AC} (h : valC x = true) : plainC x = true := by
 cases x <;> first | rfl | cases h
theorem ln_ : AV.les [] [] := trivial
theorem lc_ {x y : AV} {l q : List AV} (h : x.le y) (h' : AV.les l q) : AV.les (x :: l) (y :: q) := ⟨h, h'⟩
theorem le_bs {n n' sz : Nat} {g g' : Nat -> Nat -> AC} (hn : n = n') (h : ∀ i, i < n -> ∀ j, j < sz -> g i j = g' i j) : AV.le (.c (.bs n sz g)) (.c (.bs n' sz g')) := by
 subst hn
 intro L I w o v hv
 obtain ⟨a, cap, h1, h2, h3⟩ := hv
 refine ⟨a, cap, h1, h2, fun hn => ?_⟩
 obtain ⟨b, off, h4, h5, h6⟩ := h3 hn
 refine ⟨b, off, h4, h5, fun i hi j hj => ?_⟩
 obtain ⟨u, h7, h8⟩ := h6 i hi j hj
 exact ⟨u, h7, by rw [<- h i hi j hj]; exact h8⟩
section
variable {α : Type} [Inhabited α] {G : {α : Type} -> [Inhabited α] -> List α -> Nat -> α} {s : St}
theorem give_os {enc : α -> Nat -> AC} {l : List α} {σ : Ren} {k n n' N sz : Nat} {m : Md} {rs : List Nat} (hpl : ∀ x j, plainC (enc x j) = true) (hk : s.o k = .arr m rs N sz (row G enc l)) (hb : Ren.back σ k = none) (hn : n = n') :
  AV.le (AV.map (AC.give (Ren.back σ) s.o) (.c (.os k 0 n))) (.c (.bs n' sz (row G enc l))) := by
 have e : AV.map (AC.give (Ren.back σ) s.o) (.c (.os k 0 n)) = .c (.bs n sz fun i j => match row G enc l (0 + i) j with
    | .os k' off' n' => if rs.contains k' then (match s.o k' with
     | .arr _ _ _ sz' get' => .bs n' sz' fun i' j' => (get' (off' + i') j').lentIn
     | _ => .junk) else .junk
    | x => x.lentIn) := by
  show AV.c (AC.give _ _ _) = _
  simp only [AC.give, hb, hk]
  rfl
 rw [e]
 refine le_bs hn fun i hi j hj => ?_
 rw [Nat.zero_add]
 have h := hpl (G l i) j
 unfold row
 cases hx : enc (G l i) j <;> rw [hx] at h <;> first | rfl | cases h
end
section
variable {α : Type} [Inhabited α]
theorem app_os {enc : α -> Nat -> AC} {sz N off : Nat} {l xs l2 : List α} (hpl : ∀ x j, plainC (enc x j) = true) (hl : l2 = l ++ xs.drop off) (hN : N <= len l2) :
  ∀ i, i < N -> ∀ j, j < sz -> joinC (len l) (row gd enc l) (fun i j => (row gd enc xs (off + i) j).cp) i j = row gd enc l2 i j := by
 subst hl
 refine upd_join (fun x j hj => plain_cp (hpl x j)) ?_
 unfold len at *
 simpa using hN
theorem app_bs {enc : α -> Nat -> AC} {sz N : Nat} {l xs l2 : List α} (hpl : ∀ x j, plainC (enc x j) = true) (hl : l2 = l ++ xs) (hN : N <= len l2) :
  ∀ i, i < N -> ∀ j, j < sz -> joinC (len l) (row gd enc l) (fun i j => (row gd enc xs i j).cp) i j = row gd enc l2 i j := by
 intro i hi j hj
 rw [<- app_os (off := 0) hpl hl hN i hi j hj]
 unfold joinC
 simp only [Nat.zero_add]
end
section
variable {α : Type} [Inhabited α]
theorem app_mv {enc : α -> Nat -> AC} {sz N off : Nat} {l xs l2 : List α} {g : Nat -> Nat -> AC} (hl : l2 = l ++ xs.drop off) :
  ∀ i, i < N -> ∀ j, j < sz -> joinC (len l) (joinC (len l) (row gd enc l) g) (fun i j => row gd enc xs (off + i) j) i j = row gd enc l2 i j := by
 subst hl
 intro i hi j hj
 unfold joinC row gd len at *
 by_cases h : i < l.length
 ·simp only [if_pos h, List.getD_eq_getElem?_getD, List.getElem?_append_left h]
 ·simp only [if_neg h, List.getD_eq_getElem?_getD]
  rw [List.getElem?_append_right (by omega), List.getElem?_drop]
end
section
variable {α : Type} [Inhabited α]
end
def strL (s : ByteArray) : List Int := s.data.toList.map fun b => (b.toNat : Int)
theorem strL_len (s : ByteArray) : len (strL s) = s.size := by
 unfold strL len
 rw [List.length_map]
 rfl
theorem strapp_len (l : List Int) (s : ByteArray) : len (l ++ strL s) = len l + s.size := by
 have := strL_len s
 unfold len at *
 rw [List.length_append, this]
theorem strL_at {s : ByteArray} {i : Nat} (hi : i < s.size) : gd (strL s) i = std.sat s i := by
 show (strL s).getD i default = ((s[i]?.getD 0).toNat : Int)
 unfold strL
 rw [List.getD_eq_getElem?_getD, List.getElem?_map]
 have h1 : s.data.toList[i]? = some s[i] := by
  rw [Array.getElem?_toList]
  exact Array.getElem?_eq_getElem hi
 rw [h1]
 simp [hi]
theorem app_str {N : Nat} {l l2 : List Int} {s : ByteArray} (hl : l2 = l ++ strL s) (hN : N <= len l2) :
  ∀ i, i < N -> ∀ j, j < 1 -> joinC (len l) (row gd (encI .u8) l) (fun i _ => .v (.int .u8 (std.sat s i))) i j = row gd (encI .u8) l2 i j := by
 intro i hi j hj
 rw [<- app_bs (sz := 1) (enc := encI .u8) (fun _ _ => rfl) hl hN i hi j hj]
 unfold joinC
 split
 ·rfl
 ·rename_i hlt
  have hs : len l2 = len l + s.size := by rw [hl]; unfold len; rw [List.length_append]; congr 1; exact strL_len s
  show _ = AC.v (.int .u8 (gd (strL s) (i - len l)))
  rw [strL_at (by omega)]
def layoutB (T : TT) : List Field -> Nat -> Nat -> Bool
 | [], off, n => off == n
 | f :: fs, off, n => f.offset == off && match T f.type with | some d => layoutB T fs (off + d.size) n | none => false
def okB (T : TT) : Nat -> Nat -> Bool
 | 0, _ => false
 | d + 1, t => match T t with
  | none => false
  | some td => match td.und with
   | .bool => td.size == 1
   | .int _ => td.size == 1
   | .string => td.size == 1
   | .slice e => td.size == 1 && okB T d e && match T e with | some ed => decide (0 < ed.size) | none => false
   | .struct fs => layoutB T fs.toList 0 td.size && fs.toList.all fun f => okB T d f.type
   | _ => false
def ShF (S : Nat -> List AC -> Prop) : List Field -> List AC -> Prop
 | [], cs => cs = []
 | f :: fs, cs => ∃ a b, cs = a ++ b /\ S f.type a /\ ShF S fs b
def Shape (T : TT) : Nat -> Nat -> List AC -> Prop
 | 0, _, _ => False
 | d + 1, t, cs => match T t with
  | none => False
  | some td => match td.und with
   | .bool => ∃ b, cs = [.v (.bool b)]
   | .int k => ∃ x, cs = [.v (.int k x)] /\ (Lit.int k x).wf = true
   | .string => ∃ s : ByteArray, cs = [.v (.string s)] /\ s.size <= maxLen
   | .slice e => ∃ n sz get, cs = [.bs n sz get] /\ n <= maxLen /\ (∃ ed, T e = some ed /\ sz = ed.size) /\ ∀ i, i < n -> Shape T d e ((List.range sz).map (get i))
   | .struct fs => ShF (Shape T d) fs.toList cs
   | _ => False
section
variable {P : Program} {T : TT} {H : Type} {enc : TypeId × Value -> H} {W : World} {spare : Nat -> Bool} {held : Bool}
def RelVs (W : World) (cs : List AC) (vs : List Value) : Prop := cs.length = vs.length /\ ∀ (i : Nat) c, cs[i]? = some c -> ∃ u, vs[i]? = some u /\ RelI (fun b => b < W.heap.size) W c u
theorem cellsOf_T (hT : TOk P T) {t : Nat} {d : TD} (h : T t = some d) : P.cellsOf t = d.size := by
 obtain ⟨i, h1, h2, _⟩ := (hT t d h).2.1
 simp [Program.cellsOf, h1, h2]
theorem one_rel {c : AC} {v : Value} (h : RelI (fun b => b < W.heap.size) W c v) : RelVs W [c] [v] := by
 refine ⟨rfl, fun i x hx => ?_⟩
 cases i with
 | zero => simp at hx; subst hx; exact ⟨v, rfl, h⟩
 | succ i => simp at hx
theorem shape_of_trod (hT : TOk P T) : ∀ (d t fuel : Nat) (vs : List Value) (x : DataW H × List MemPlace), okB T d t = true -> DataW.trod enc P W 0 spare held fuel t vs = some x ->
  ∃ cs, Shape T d t cs /\ vs.length = P.cellsOf t /\ RelVs W cs vs := by
 intro d
 induction d with
 | zero => intro t fuel vs x h; cases h
 | succ d ih =>
  intro t fuel vs x hok h
  unfold okB at hok
  unfold Shape
  cases htd : T t with
  | none => rw [htd] at hok; cases hok
  | some td =>
   rw [htd] at hok
   simp only at hok ⊢
   have hu := (hT t td htd).1
   have hsz := cellsOf_T hT htd
   split at hok
   ·rename_i hund
    rw [hund] at hu
    obtain ⟨b, rfl, _⟩ := DataW.trod_bool hu h
    exact ⟨_, ⟨b, rfl⟩, by simp at hok; simp [hsz, hok], one_rel ⟨rfl, rfl⟩⟩
   ·rename_i k hund
    rw [hund] at hu
    obtain ⟨n, rfl, _, hw⟩ := DataW.trod_int hu h
    exact ⟨_, ⟨n, rfl, hw⟩, by simp at hok; simp [hsz, hok], one_rel ⟨rfl, rfl⟩⟩
   ·rename_i hund
    rw [hund] at hu
    obtain ⟨s, rfl, _, hw⟩ := DataW.trod_string hu h
    exact ⟨_, ⟨s, rfl, hw⟩, by simp at hok; simp [hsz, hok], one_rel ⟨rfl, rfl⟩⟩
   ·rename_i e hund
    rw [hund] at hu
    simp only [Bool.and_eq_true, beq_iff_eq] at hok
    obtain ⟨⟨ho1, ho2⟩, ho3⟩ := hok
    cases hte : T e with
    | none => rw [hte] at ho3; cases ho3
    | some ed =>
     rw [hte] at ho3
     have hpos : 0 < ed.size := by simpa using ho3
     have hce := cellsOf_T hT hte
     rcases DataW.trod_slice hu h with ⟨rfl, _⟩ | ⟨a, len, cap, elems, rest, n, rfl, rfl, _, _, hlc, hcm, hel, hget, _, _⟩
     ·exact ⟨_, ⟨0, ed.size, fun _ _ => .junk, rfl, Nat.zero_le _, ⟨ed, rfl, rfl⟩, fun i hi => absurd hi (by omega)⟩, by simp [hsz, ho1], one_rel ⟨none, 0, rfl, Nat.le_refl _, fun hh => absurd hh (by omega)⟩⟩
     ·have hall : ∀ i, i < len -> ∃ cs : List AC, Shape T d e cs /\ cs.length = ed.size /\ ∀ (j : Nat) c, cs[j]? = some c -> ∃ u, W.cell? ((a.add (i * ed.size)).add j) = some u /\ RelI (fun b => b < W.heap.size) W c u := by
       intro i hi
       have h1 := hget i hi
       rw [hce] at h1
       have h2 : elems[i]? = some elems[i] := List.getElem?_eq_getElem (by omega)
       rw [h2, Option.bind_eq_some_iff] at h1
       obtain ⟨us, hus, htr⟩ := h1
       obtain ⟨_, hul, huc⟩ := World.cells?_some hus
       obtain ⟨cs, hs, _, hl, hc⟩ := ih e n us _ ho2 htr
       refine ⟨cs, hs, by rw [hl, hul], fun j c hj => ?_⟩
       obtain ⟨u, hu', hr⟩ := hc j c hj
       have hjl : j < ed.size := by rw [<- hul, <- hl]; exact (List.getElem?_eq_some_iff.1 hj).1
       exact ⟨u, by rw [huc j hjl]; exact hu', hr⟩
      have hex : ∃ g : Nat -> List AC, ∀ i, i < len -> Shape T d e (g i) /\ (g i).length = ed.size /\ ∀ (j : Nat) c, (g i)[j]? = some c -> ∃ u, W.cell? ((a.add (i * ed.size)).add j) = some u /\ RelI (fun b => b < W.heap.size) W c u := by
       classical
       refine ⟨fun i => if hi : i < len then (hall i hi).choose else [], fun i hi => ?_⟩
       simp only [dif_pos hi]
       exact (hall i hi).choose_spec
      obtain ⟨g, hg⟩ := hex
      refine ⟨_, ⟨len, ed.size, fun i j => (g i).getD j .junk, rfl, by omega, ⟨ed, rfl, rfl⟩, fun i hi => ?_⟩, by simp [hsz, ho1], one_rel ⟨some a, cap, rfl, hlc, fun hn => ?_⟩⟩
      ·have h1 := (hg i hi).1
       have h2 : (List.range ed.size).map (fun j => (g i).getD j .junk) = g i := by
        apply List.ext_getElem?
        intro j
        rw [List.getElem?_map]
        by_cases hj : j < ed.size
        ·rw [List.getElem?_range hj]
         have : j < (g i).length := by rw [(hg i hi).2.1]; exact hj
         simp [List.getD_eq_getElem?_getD, List.getElem?_eq_getElem this]
        ·rw [List.getElem?_eq_none (by simpa using hj), List.getElem?_eq_none (by rw [(hg i hi).2.1]; omega)]; rfl
       rw [h2]; exact h1
      ·have hcell : ∀ i, i < len -> ∀ j, j < ed.size -> ∃ u, W.cell? ((a.add (i * ed.size)).add j) = some u /\ RelI (fun b => b < W.heap.size) W ((g i).getD j .junk) u := by
        intro i hi j hj
        have hjl : j < (g i).length := by rw [(hg i hi).2.1]; exact hj
        have e1 : (g i)[j]? = some ((g i).getD j .junk) := by simp [List.getD_eq_getElem?_getD, List.getElem?_eq_getElem hjl]
        exact (hg i hi).2.2 j _ e1
       obtain ⟨u0, hu0, _⟩ := hcell 0 hn 0 hpos
       have hsp : a.spot = none /\ a.block < W.heap.size := by
        simp only [Nat.zero_mul, Addr.add, if_true] at hu0
        unfold World.cell? at hu0
        split at hu0
        ·rename_i c _ _ hb
         split at hu0
         ·cases hu0
         ·rename_i hs
          exact ⟨by simpa using hs, (Array.getElem?_eq_some_iff.1 hb).1⟩
        ·cases hu0
       obtain ⟨ab, ao, asp⟩ := a
       simp only at hsp
       obtain ⟨rfl, hblk⟩ := hsp
       refine ⟨ab, ao, rfl, hblk, fun i hi j hj => ?_⟩
       obtain ⟨u, hu', hr⟩ := hcell i hi j hj
       refine ⟨u, ?_, hr⟩
       rw [<- hu', addr_add, addr_add, Nat.add_assoc]
   ·rename_i fs hund
    rw [hund] at hu
    simp only [Bool.and_eq_true] at hok
    obtain ⟨hlay, hall⟩ := hok
    obtain ⟨xs, n, rfl, _, hlen, hxl, hget⟩ := DataW.trod_struct hu h
    have key : ∀ (l : List Field) (off : Nat), layoutB T l off td.size = true -> (∀ f ∈ l, okB T d f.type = true /\ ∃ x, DataW.trod enc P W 0 spare held n f.type ((vs.drop f.offset).take (P.cellsOf f.type)) = some x) ->
      ∃ cs, ShF (Shape T d) l cs /\ off + cs.length = td.size /\ ∀ (i : Nat) c, cs[i]? = some c -> ∃ u, vs[off + i]? = some u /\ RelI (fun b => b < W.heap.size) W c u := by
     intro l
     induction l with
     | nil =>
      intro off hl _
      simp [layoutB] at hl
      exact ⟨[], rfl, by simpa using hl, fun i c hc => by simp at hc⟩
     | cons f l ihl =>
      intro off hl hf
      unfold layoutB at hl
      simp only [Bool.and_eq_true, beq_iff_eq] at hl
      obtain ⟨hoff, hl⟩ := hl
      cases htf : T f.type with
      | none => rw [htf] at hl; cases hl
      | some fd =>
       rw [htf] at hl
       simp only at hl
       obtain ⟨hf1, y, hf2⟩ := hf f (by simp)
       obtain ⟨ca, hs1, hs2, hs3, hs4⟩ := ih f.type n _ _ hf1 hf2
       obtain ⟨cb, hb1, hb2, hb3⟩ := ihl (off + fd.size) hl (fun f' hf' => hf f' (by simp [hf']))
       have hcf := cellsOf_T hT htf
       have hcal : ca.length = fd.size := by rw [hs3, hs2, hcf]
       refine ⟨ca ++ cb, ⟨ca, cb, rfl, hs1, hb1⟩, by simp [hcal]; omega, fun i c hc => ?_⟩
       rw [List.getElem?_append, hcal] at hc
       split at hc
       ·rename_i hi
        obtain ⟨u, hu', hr⟩ := hs4 i c hc
        rw [List.getElem?_take, hcf, if_pos hi, List.getElem?_drop, hoff] at hu'
        exact ⟨u, hu', hr⟩
       ·rename_i hi
        obtain ⟨u, hu', hr⟩ := hb3 (i - fd.size) c hc
        exact ⟨u, by rw [show off + i = off + fd.size + (i - fd.size) by omega]; exact hu', hr⟩
    obtain ⟨cs, g1, g2, g3⟩ := key fs.toList 0 hlay (fun f hf => by
     refine ⟨List.all_eq_true.1 hall f hf, ?_⟩
     obtain ⟨i, hi⟩ := List.mem_iff_getElem?.1 hf
     have h1 := hget i f (by rwa [Array.getElem?_toList] at hi)
     have hil : i < xs.length := by
      have := (List.getElem?_eq_some_iff.1 hi).1
      rw [hxl]; simpa using this
     exact ⟨xs[i], by rw [h1]; exact List.getElem?_eq_getElem hil⟩)
    refine ⟨cs, g1, hlen, ?_, fun i c hc => by obtain ⟨u, hu', hr⟩ := g3 i c hc; exact ⟨u, by simpa using hu', hr⟩⟩
    rw [hlen, hsz]; omega
   ·cases hok
theorem open_one (hT : TOk P T) {d t : Nat} {v : Value} {x : DataW H} {ps : List MemPlace} (hok : okB T d t = true) (hv : v.cells = #[v]) (h : DataW.Trod enc P W 0 spare held t v x ps) :
  ∃ c, Shape T d t [c] /\ RelV (RelI (fun b => b < W.heap.size) W) (.c c) v := by
 obtain ⟨fuel, h⟩ := h
 rw [hv] at h
 obtain ⟨cs, hs, _, hl, hc⟩ := shape_of_trod hT d t fuel _ _ hok h
 obtain ⟨c, rfl⟩ : ∃ c, cs = [c] := by
  simp at hl
  exact List.length_eq_one_iff.1 hl
 ·obtain ⟨u, hu, hr⟩ := hc 0 c rfl
  simp at hu
  subst hu
  exact ⟨c, hs, hr⟩
end
theorem Fun.yes {P : Program} {f : FuncId} {args : List AV} {fl : Bool} (h : Fun P f args [] (.c (.v (.bool true))) [] fl) {vals : Array Value} {W : World} (hrel : RelT (RelI (fun b => b < W.heap.size) W) args vals) :
  Calls P f vals W fun e w' => e = .returned (.bool true) /\ Below W.heap.size W w' := by
 have hH : HRel (fun _ => none) (fun b => b < W.heap.size) W (obj (lookO [])) := by
  have hg : ∀ id, obj (lookO []) id = .gone := by
   intro id
   cases id with
   | r k => rfl
   | s k i j => rfl
  exact ⟨fun id => by unfold ObjOk; rw [hg]; trivial, fun id id' b x x' g1 => (g1 (hg id)).elim, fun b hb => hb⟩
 have hT : RelT (RelC (fun _ => none) (fun b => b < W.heap.size) W (obj (lookO []))) args vals := by
  refine ⟨hrel.1, fun i x hx => ?_⟩
  obtain ⟨u, hu, hr⟩ := hrel.2 i x hx
  refine ⟨u, hu, ?_⟩
  cases x with
  | any => trivial
  | c c => exact RelI.toC _ _ hr
  | agg l =>
   obtain ⟨ys, rfl, h1, h2⟩ := hr
   exact ⟨ys, rfl, h1, fun i x hx => by obtain ⟨u, hu, hr⟩ := h2 i x hx; exact ⟨u, hu, RelI.toC _ _ hr⟩⟩
  | tup l =>
   obtain ⟨ys, rfl, h1, h2⟩ := hr
   refine ⟨ys, rfl, h1, fun i x hx => ?_⟩
   obtain ⟨u, hu, hr⟩ := h2 i x hx
   refine ⟨u, hu, ?_⟩
   cases x with
   | c c => exact RelI.toC _ _ hr
   | agg l =>
    obtain ⟨ys, rfl, h1, h2⟩ := hr
    exact ⟨ys, rfl, h1, fun i x hx => by obtain ⟨u, hu, hr⟩ := h2 i x hx; exact ⟨u, hu, RelI.toC _ _ hr⟩⟩
   | tup l => exact hr.elim
   | any => exact hr.elim
 refine (h.2.2 vals W _ _ hH hT).mono fun e w' hh => ?_
 obtain ⟨v, I', L', rfl, _, _, _, hr, _, _, hb⟩ := hh
 have hv : v = .bool true := hr.1
 subst hv
 refine ⟨rfl, BelowE.none ⟨hb.os, hb.tape, hb.output, hb.size, fun k hk _ => hb.block k hk ?_⟩⟩
 rintro ⟨id, x, hg, _⟩
 apply hg
 cases id <;> rfl
theorem relT_nil {R : AC -> Value -> Prop} : RelT R [] #[] := ⟨rfl, fun i x h => by simp at h⟩
theorem relT_of {R : AC -> Value -> Prop} {l : List AV} {vs : List Value} (hl : vs.length = l.length) (h : ∀ (i : Nat) x, l[i]? = some x -> ∃ u, vs[i]? = some u /\ RelV R x u) : RelT R l vs.toArray :=
 ⟨by simpa using hl, fun i x hx => by obtain ⟨u, hu, hr⟩ := h i x hx; exact ⟨u, by simpa using hu, hr⟩⟩
theorem relT_cons {R : AC -> Value -> Prop} {l : List AV} {vs : List Value} {x : AV} {v : Value} (h : RelV R x v) (ht : RelT R l vs.toArray) : RelT R (x :: l) (v :: vs).toArray := by
 refine relT_of (by have := ht.1; simp at this; simp [this]) fun i y hy => ?_
 cases i with
 | zero => simp at hy; subst hy; exact ⟨v, rfl, h⟩
 | succ i =>
  obtain ⟨u, hu, hr⟩ := ht.2 i y (by simpa using hy)
  exact ⟨u, by simpa using hu, hr⟩
section
variable {P : Program} {T : TT} {w0 w w' : World} {I0 : Fr} {I I' : Nat -> Prop} {L L' : Lay} {s : St} {a : Act}
def pC (g : Nat -> Nat -> AC) (i : Nat) (cs : List AC) : Nat -> Nat -> AC := fun a b => if a = i then cs.getD b .junk else g a b
def foldP (s : St) (k : Nat) (m : Md) (rs : List Nat) (N sz : Nat) (g : Nat -> Nat -> AC) (i : Nat) (cs : List AC) (j S n2 sz2 : Nat) (g2 : Nat -> Nat -> AC) : St :=
 ⟨(s.kill [S]).t, updO (s.kill [S]).o k (.arr m rs N sz (pC g i ((cs.map (AC.kill [S])).set j (.ow n2 sz2 g2))))⟩
theorem kill_noref {x : AC} {ks : List Nat} (h : x.ref = []) : x.kill ks = x := AC.kill_id (by rw [h]; intro z hz; cases hz)
theorem le_foldP {m m2 : Md} {rs : List Nat} {N sz n2 sz2 i : Nat} {g g2 : Nat -> Nat -> AC} {cs : List AC} (k j S : Nat) (hk : s.o k = .arr m rs N sz (pC g i cs)) (hS : s.o S = .arr m2 [] n2 sz2 g2) (hm2 : m2.w = true) (hkS : k ≠ S) (hi : i < N) (hj : j < sz) (hg : cs[j]? = some (.os S 0 n2)) (hpl : ∀ a b, (g a b).ref = []) :
  s.le (foldP s k m rs N sz g i cs j S n2 sz2 g2) := by
 have hjl := (List.getElem?_eq_some_iff.1 hg).1
 have h := le_fold (j := j) hk hS hm2 hkS hi hj (by simp [pC, List.getD_eq_getElem?_getD, hg])
 have e : foldSt s k i j S = foldP s k m rs N sz g i cs j S n2 sz2 g2 := by
  unfold foldSt foldP
  simp only [hk, hS]
  congr 3
  funext a b
  unfold pC
  by_cases h1 : a = i
  ·subst h1
   by_cases h2 : b = j
   ·subst h2
    simp [List.getD_eq_getElem?_getD, hjl]
   ·simp only [h2, and_false, if_false, if_true]
    rw [List.getD_eq_getElem?_getD, List.getD_eq_getElem?_getD, List.getElem?_set_ne (Ne.symm h2), List.getElem?_map]
    cases cs[b]? <;> rfl
  ·simp only [h1, false_and, if_false]
   exact kill_noref (hpl a b)
 rw [<- e]; exact h
end
def aggle : List AC -> List AC -> Prop
 | [], [] => True
 | x :: r, y :: q => AV.le (.c x) (.c y) /\ aggle r q
 | _, _ => False
theorem aggle_len : ∀ {l q : List AC}, aggle l q -> l.length = q.length
 | [], [], _ => rfl
 | x :: r, y :: q, h => by simp [aggle_len h.2]
 | [], _ :: _, h => h.elim
 | _ :: _, [], h => h.elim
theorem aggle_get : ∀ {l q : List AC}, aggle l q -> ∀ {i : Nat} {y : AC}, q[i]? = some y -> ∃ x, l[i]? = some x /\ AV.le (.c x) (.c y)
 | [], [], _, i, y, h => by simp at h
 | x :: r, y' :: q, h, 0, y, hy => by simp at hy; subst hy; exact ⟨x, rfl, h.1⟩
 | x :: r, y' :: q, h, i + 1, y, hy => by
  obtain ⟨x', h1, h2⟩ := aggle_get h.2 (i := i) (y := y) (by simpa using hy)
  exact ⟨x', by simpa using h1, h2⟩
 | [], _ :: _, h, _, _, _ => h.elim
 | _ :: _, [], h, _, _, _ => h.elim
theorem le_agg {l q : List AC} (h : aggle l q) : AV.le (.agg l) (.agg q) := by
 intro L I w o v hv
 obtain ⟨ys, rfl, hs, hc⟩ := hv
 refine ⟨ys, rfl, hs.trans (aggle_len h), fun i y hy => ?_⟩
 obtain ⟨x, hx, hle⟩ := aggle_get h hy
 obtain ⟨u, hu, hr⟩ := hc i x hx
 exact ⟨u, hu, hle L I w o u hr⟩
def rle (x y : AC) : Prop := ∀ I w v, RelI I w x v -> RelI I w y v
theorem rle_refl (x : AC) : rle x x := fun _ _ _ h => h
theorem le_bp {n n' : Nat} {g g' : Nat -> AC} (hn : n' <= n) (h : ∀ j, j < n' -> rle (g j) (g' j)) : AV.le (.c (.bp n g)) (.c (.bp n' g')) := by
 intro L I w o v hv
 obtain ⟨b, off, h1, h2, h3⟩ := hv
 refine ⟨b, off, h1, h2, fun j hj => ?_⟩
 obtain ⟨u, hu, hr⟩ := h3 j (Nat.lt_of_lt_of_le hj hn)
 exact ⟨u, hu, h j hj I w u hr⟩
theorem noref {x : AC} (h : x.ref = []) {z : Nat} (hz : z ∈ x.ref) : False := by rw [h] at hz; cases hz
section
variable {α : Type} [Inhabited α] {G : {α : Type} -> [Inhabited α] -> List α -> Nat -> α} {s : St}
theorem gD {eo eb : α -> Nat -> AC} {l : List α} {σ : Ren} {k n n' N sz : Nat} {m : Md} {rs : List Nat} (h1 : ∀ x j, (eo x j).ref = []) (h2 : ∀ x j, (eo x j).lentIn = eb x j) (hk : s.o k = .arr m rs N sz (row G eo l)) (hb : Ren.back σ k = none) (hn : n = n') :
  AV.le (AV.map (AC.give (Ren.back σ) s.o) (.c (.os k 0 n))) (.c (.bs n' sz (row G eb l))) := by
 have e : AV.map (AC.give (Ren.back σ) s.o) (.c (.os k 0 n)) = .c (.bs n sz fun i j => match row G eo l (0 + i) j with
    | .os k' off' n' => if rs.contains k' then (match s.o k' with
     | .arr _ _ _ sz' get' => .bs n' sz' fun i' j' => (get' (off' + i') j').lentIn
     | _ => .junk) else .junk
    | x => x.lentIn) := by
  show AV.c (AC.give _ _ _) = _
  simp only [AC.give, hb, hk]
  rfl
 rw [e]
 refine le_bs hn fun i hi j hj => ?_
 rw [Nat.zero_add]
 have g1 := h1 (G l i) j
 have g2 := h2 (G l i) j
 unfold row
 rw [<- g2]
 cases hx : eo (G l i) j <;> rw [hx] at g1 <;> first | rfl | (simp [AC.ref] at g1)
end
def subL {α : Type} (l : List α) (a b : Nat) : List α := (l.drop a).take (b - a)
section
variable {α : Type}
theorem app_lt {l l2 : List α} {x : α} (hl : l2 = l ++ [x]) : len l < len l2 := by subst hl; unfold len; simp
end
section
variable {α : Type} [Inhabited α]
theorem gd_set_eq {l : List α} {i : Nat} {x : α} (h : i < l.length) : gd (l.set i x) i = x := by
 unfold gd; rw [List.getD_eq_getElem?_getD, List.getElem?_set_self h]; rfl
theorem gd_set_ne {l : List α} {i a : Nat} {x : α} (h : a ≠ i) : gd (l.set i x) a = gd l a := by
 unfold gd; rw [List.getD_eq_getElem?_getD, List.getElem?_set_ne (Ne.symm h), <- List.getD_eq_getElem?_getD]
theorem ix_ {i : Int} {n : Nat} (h : std.inR i n) : std.nadd 0 (std.toN i) < n := by
 have h1 : 0 <= i := h.1
 have h2 : i < (n : Int) := h.2
 show 0 + i.toNat < n
 omega
theorem upd_set {enc : α -> Nat -> AC} {l l2 : List α} {i j0 N sz : Nat} {x : α} {cs : List AC} (hl : l2 = l.set i x) (hi : i < len l) (h1 : ∀ b, b < sz -> j0 <= b /\ b < j0 + cs.length -> cs.getD (b - j0) .junk = enc x b) (h2 : ∀ b, b < sz -> ¬ (j0 <= b /\ b < j0 + cs.length) -> enc (gd l i) b = enc x b) :
  ∀ a, a < N -> ∀ b, b < sz -> (if a = i /\ j0 <= b /\ b < j0 + cs.length then cs.getD (b - j0) .junk else row gd enc l a b) = row gd enc l2 a b := by
 subst hl
 intro a ha b hb
 unfold row
 by_cases h : a = i
 ·subst h
  rw [gd_set_eq hi]
  by_cases h3 : j0 <= b /\ b < j0 + cs.length
  ·rw [if_pos ⟨rfl, h3⟩]; exact h1 b hb h3
  ·rw [if_neg (fun h => h3 h.2)]; exact h2 b hb h3
 ·rw [if_neg (fun h' => h h'.1), gd_set_ne h]
theorem patch_app {enc : α -> Nat -> AC} {l l2 : List α} {x : α} {cs : List AC} {sz N : Nat} (hl : l2 = l ++ [x]) (hN : N <= len l2) (h : ∀ j, j < sz -> cs.getD j .junk = enc x j) :
  ∀ i, i < N -> ∀ j, j < sz -> pC (row gd enc l) (len l) cs i j = row gd enc l2 i j := by
 subst hl
 intro i hi j hj
 unfold pC row
 by_cases h1 : i = len l
 ·subst h1
  rw [if_pos rfl, h j hj]
  congr 1
  unfold gd len
  simp
 ·have h2 : i < l.length := by
   have h3 : len (l ++ [x]) = l.length + 1 := by unfold len; simp
   have h4 : len l = l.length := rfl
   omega
  rw [if_neg h1]
  congr 1
  unfold gd
  rw [List.getD_eq_getElem?_getD, List.getD_eq_getElem?_getD, List.getElem?_append_left h2]
theorem patch_set {enc : α -> Nat -> AC} {l l2 : List α} {x : α} {cs : List AC} {sz i N : Nat} (hl : l2 = l.set i x) (hi : i < len l) (h : ∀ j, j < sz -> cs.getD j .junk = enc x j) :
  ∀ a, a < N -> ∀ b, b < sz -> pC (row gd enc l) i cs a b = row gd enc l2 a b := by
 subst hl
 intro a ha b hb
 unfold pC row
 by_cases h1 : a = i
 ·subst h1
  rw [if_pos rfl, h b hb, gd_set_eq hi]
 ·rw [if_neg h1, gd_set_ne h1]
theorem patch_same {enc : α -> Nat -> AC} {l : List α} {cs : List AC} {sz i N : Nat} (h : ∀ j, j < sz -> cs.getD j .junk = enc (gd l i) j) :
  ∀ a, a < N -> ∀ b, b < sz -> pC (row gd enc l) i cs a b = row gd enc l a b := by
 intro a ha b hb
 unfold pC row
 by_cases h1 : a = i
 ·subst h1; rw [if_pos rfl, h b hb]
 ·rw [if_neg h1]
theorem patch_of {g : Nat -> Nat -> AC} {cs cs' : List AC} {i j0 m N sz : Nat} (h : ∀ b, b < sz -> (if j0 <= b /\ b < j0 + m then cs.getD (b - j0) .junk else g i b) = cs'.getD b .junk) :
  ∀ a, a < N -> ∀ b, b < sz -> (if a = i /\ j0 <= b /\ b < j0 + m then cs.getD (b - j0) .junk else g a b) = pC g i cs' a b := by
 intro a ha b hb
 unfold pC
 by_cases h1 : a = i
 ·subst h1
  rw [if_pos rfl, <- h b hb]
  simp only [true_and]
 ·rw [if_neg h1, if_neg (fun h' => h1 h'.1)]
theorem patch_of2 {g : Nat -> Nat -> AC} {cs c0 cs' : List AC} {i j0 m N sz : Nat} (h : ∀ b, b < sz -> (if j0 <= b /\ b < j0 + m then cs.getD (b - j0) .junk else c0.getD b .junk) = cs'.getD b .junk) :
  ∀ a, a < N -> ∀ b, b < sz -> (if a = i /\ j0 <= b /\ b < j0 + m then cs.getD (b - j0) .junk else pC g i c0 a b) = pC g i cs' a b := by
 intro a ha b hb
 unfold pC
 by_cases h1 : a = i
 ·subst h1
  rw [if_pos rfl, if_pos rfl, <- h b hb]
  simp only [true_and]
 ·rw [if_neg h1, if_neg (fun h' => h1 h'.1), if_neg h1]
theorem patch_one {g g' : Nat -> Nat -> AC} {cs : List AC} {N sz : Nat} (hN : N = 1) (h : ∀ j, j < sz -> (g' 0 j) = cs.getD j .junk) :
  ∀ i, i < N -> ∀ j, j < sz -> g' i j = pC g 0 cs i j := by
 intro i hi j hj
 have : i = 0 := by omega
 subst this
 unfold pC
 rw [if_pos rfl, h j hj]
end
open Classical in
def nilB {β : Type} (n : Nat) (x y : Option β) : Option β := if n = 0 then (if x = y then y else none) else y
theorem of_nilB {β : Type} {n : Nat} {x y : Option β} {r : β} (h : nilB n x y = some r) : y = some r /\ (n = 0 -> x = some r) := by
 unfold nilB at h
 split at h
 ·split at h
  ·rename_i h1 h2; exact ⟨h, fun _ => h2.trans h⟩
  ·cases h
 ·rename_i h1; exact ⟨h, fun h2 => (h1 h2).elim⟩
section
variable {U_ : {α : Type} -> List α -> Nat} {G_ : {α : Type} -> [Inhabited α] -> List α -> Nat -> α}
def oN {α : Type} [Inhabited α] (U_ : {α : Type} -> List α -> Nat) (G_ : {α : Type} -> [Inhabited α] -> List α -> Nat -> α) (sz : Nat) (enc : α -> Nat -> AC) (l : List α) : Nat -> AC := fun _ => .ow (U_ l) sz (row G_ enc l)
end
def le1 (x y : AV) : Prop := ∀ L I w o v, Rel1 (RelC L I w o) x v -> Rel1 (RelC L I w o) y v
def tuple : List AV -> List AV -> Prop
 | [], [] => True
 | x :: r, y :: q => le1 x y /\ tuple r q
 | _, _ => False
theorem le_fn {f : FuncId} {n : Nat} {g g' : Nat -> AC} (h : ∀ j, j < n -> AV.le (.c (g j)) (.c (g' j))) : AV.le (.c (.fn f n g)) (.c (.fn f n g')) := by
 intro L I w o v hv
 obtain ⟨cs, h1, h2, h3⟩ := hv
 refine ⟨cs, h1, h2, fun j hj => ?_⟩
 obtain ⟨u, hu, hr⟩ := h3 j hj
 exact ⟨u, hu, h j hj L I w o u hr⟩
theorem lent_plain {x : AC} (h : plainC x = true) : x.lentIn = x := by cases x <;> first | rfl | cases h
theorem val_v {x : AC} (h : valC x = true) : ∃ y, x = .v y := by cases x <;> first | exact ⟨_, rfl⟩ | cases h
theorem part_gd {α : Type} [Inhabited α] {l l2 : List α} {m off i : Nat} (h : l2 = List.take m (List.drop off l)) (hi : i < m) : gd l (off + i) = gd l2 i := by
 subst h
 unfold gd
 rw [List.getD_eq_getElem?_getD, List.getD_eq_getElem?_getD, List.getElem?_take, if_pos hi, List.getElem?_drop]
theorem Fun.pure {P : Program} {f : FuncId} {fn : Func} (hf : P.funcs[f]? = some fn) (hname : (fn.name == "runtime.NumGoroutine") = false) (hb : fn.body.isNone = false) (vs : List Value) {v : Value} (h : ∀ w, Calls P f vs.toArray w fun e w' => e = .returned v /\ w' = w) (hv : v.oneCell' = true := by rfl) (hvs : ∀ x ∈ vs, x.oneCell' = true := by simp [Value.oneCell']) :
  Fun P f (vs.map fun x => .c (.v x)) [] (.c (.v v)) [] true := by
 refine ⟨⟨fn, hf, hname, hb⟩, ⟨trivial, fun _ => ⟨trivial, tv⟩⟩, fun vals w I L hH hargs => ?_⟩
 have e : vals = vs.toArray := by
  apply Array.ext_getElem?
  intro i
  simp only [Array.getElem?_toList, List.getElem?_toArray]
  cases hi : vs[i]? with
  | none =>
   rw [List.getElem?_eq_none_iff] at hi
   have h1 := hargs.1
   rw [List.length_map] at h1
   rw [Array.getElem?_eq_none_iff]; omega
  | some x =>
   obtain ⟨u, hu, hr⟩ := hargs.2 i (.c (.v x)) (by rw [List.getElem?_map, hi]; rfl)
   rw [hu]
   exact congrArg some hr.1
 subst e
 refine (h w).mono ?_
 rintro e w' ⟨rfl, rfl⟩
 refine ⟨v, I, L, rfl, fun b hb => hb, fun b hb _ => .inl hb, hH, ⟨rfl, hv⟩, fun k _ hg => (hg rfl).elim, fun id b x hg _ => (hg (by cases id <;> rfl)).elim, BelowE.refl _⟩
def rlist : List AC -> List AC -> Prop
 | [], [] => True
 | x :: r, y :: q => rle x y /\ rlist r q
 | _, _ => False
theorem rlist_get : ∀ {l q : List AC}, rlist l q -> ∀ {i : Nat} {x y : AC}, l[i]? = some x -> q[i]? = some y -> rle x y
 | [], [], _, i, x, y, h, _ => by simp at h
 | x :: r, y' :: q, h, 0, _, y, hx, hy => by simp at hx hy; subst hx; subst hy; exact h.1
 | x :: r, y' :: q, h, i + 1, _, y, hx, hy => rlist_get h.2 (i := i) (by simpa using hx) (by simpa using hy)
 | [], _ :: _, h, _, _, _, _, _ => h.elim
 | _ :: _, [], h, _, _, _, _, _ => h.elim
def Opens (T : TT) (d t : Nat) {α : Type} (cl : α -> List AC) (wf : α -> Prop) : Prop := ∀ cs, Shape T d t cs -> ∃ e, wf e /\ rlist cs (cl e)
def clI (k : IntKind) (x : Int) : List AC := [.v (.int k x)]
def clB (b : Bool) : List AC := [.v (.bool b)]
def clS (s : ByteArray) : List AC := [.v (.string s)]
def clL {α : Type} [Inhabited α] (sz : Nat) (enc : α -> Nat -> AC) (l : List α) : List AC := [.bs (len l) sz (row gd enc l)]
def wfI (k : IntKind) (x : Int) : Prop := (Lit.int k x).wf = true
def wfB (b : Bool) : Prop := True
def wfS (s : ByteArray) : Prop := s.size <= maxLen
def wfL {α : Type} (wf : α -> Prop) (l : List α) : Prop := l.length <= maxLen /\ ∀ x ∈ l, wf x
section
variable {T : TT} {t d : Nat} {td : TD}
theorem op_int (k : IntKind) (h : T t = some td) (hu : td.und = .int k) : Opens T (d + 1) t (clI k) (wfI k) := by
 intro cs hs
 simp only [Shape, h, hu] at hs
 obtain ⟨x, rfl, hw⟩ := hs
 exact ⟨x, hw, rle_refl _, tv⟩
theorem rle_bs' {n n' sz : Nat} {g g' : Nat -> Nat -> AC} (hn : n = n') (h : ∀ i, i < n -> ∀ j, j < sz -> rle (g i j) (g' i j)) : rle (.bs n sz g) (.bs n' sz g') := by
 subst hn
 intro I w v hv
 obtain ⟨a, cap, h1, h2, h3⟩ := hv
 refine ⟨a, cap, h1, h2, fun hn => ?_⟩
 obtain ⟨b, off, h4, h5, h6⟩ := h3 hn
 refine ⟨b, off, h4, h5, fun i hi j hj => ?_⟩
 obtain ⟨u, h7, h8⟩ := h6 i hi j hj
 exact ⟨u, h7, h i hi j hj I w u h8⟩
theorem list_of {α : Type} [Inhabited α] {Q : Nat -> α -> Prop} : ∀ (n : Nat), (∀ i, i < n -> ∃ x, Q i x) -> ∃ l : List α, l.length = n /\ ∀ i, i < n -> Q i (gd l i)
 | 0, _ => ⟨[], rfl, fun i hi => absurd hi (by omega)⟩
 | n + 1, h => by
  obtain ⟨l, h1, h2⟩ := list_of n fun i hi => h i (by omega)
  obtain ⟨x, hx⟩ := h n (by omega)
  refine ⟨l ++ [x], by simp [h1], fun i hi => ?_⟩
  unfold gd at *
  rw [List.getD_eq_getElem?_getD]
  by_cases hin : i < n
  ·rw [List.getElem?_append_left (by omega), <- List.getD_eq_getElem?_getD]; exact h2 i hin
  ·have : i = n := by omega
   subst this
   rw [List.getElem?_append_right (by omega), h1]
   simpa using hx
theorem op_slice {α : Type} [Inhabited α] {e sz : Nat} {ed : TD} {cl : α -> List AC} {wf : α -> Prop} {enc : α -> Nat -> AC} (h : T t = some td) (hu : td.und = .slice e) (he : T e = some ed) (hsz : ed.size = sz) (hc : ∀ x j, j < sz -> (cl x)[j]? = some (enc x j)) (ho : Opens T d e cl wf) :
  Opens T (d + 1) t (clL sz enc) (wfL wf) := by
 intro cs hs
 simp only [Shape, h, hu] at hs
 obtain ⟨n, sz', get, rfl, hn, ⟨ed', he', hs'⟩, hall⟩ := hs
 rw [he] at he'; injection he' with he'; subst he'
 rw [hsz] at hs'; subst hs'
 obtain ⟨l, h1, h2⟩ := list_of (Q := fun i x => wf x /\ rlist ((List.range sz').map (get i)) (cl x)) n fun i hi => ho _ (hall i hi)
 refine ⟨l, ⟨by omega, fun x hx => ?_⟩, rle_bs' h1.symm fun i hi j hj => ?_, tv⟩
 ·obtain ⟨i, hi, rfl⟩ := List.getElem_of_mem hx
  have := (h2 i (by omega)).1
  unfold gd at this
  simpa [List.getD_eq_getElem?_getD, hi] using this
 ·exact rlist_get (h2 i hi).2 (i := j) (by simp [hj]) (hc _ j hj)
end
section
variable {P : Program} {T : TT} {H : Type} {enc : TypeId × Value -> H} {W : World} {spare : Nat -> Bool} {held : Bool}
theorem opened_one (hT : TOk P T) {d t : Nat} {α : Type} {cl : α -> List AC} {wf : α -> Prop} (ho : Opens T d t cl wf) (h1 : ∀ e, (cl e).length = 1) {v : Value} {x : DataW H} {ps : List MemPlace} (hok : okB T d t = true) (hv : v.cells = #[v]) (h : DataW.Trod enc P W 0 spare held t v x ps) :
  ∃ e, wf e /\ RelV (RelI (fun b => b < W.heap.size) W) (.c ((cl e).getD 0 .junk)) v := by
 obtain ⟨c, hs, hr⟩ := open_one hT hok hv h
 obtain ⟨e, hw, hl⟩ := ho [c] hs
 refine ⟨e, hw, ?_⟩
 have h2 : (cl e)[0]? = some ((cl e).getD 0 .junk) := by
  rw [List.getD_eq_getElem?_getD]
  have := h1 e
  cases hq : (cl e)[0]? with
  | none => rw [List.getElem?_eq_none_iff] at hq; omega
  | some y => rfl
 exact rlist_get hl (i := 0) rfl h2 _ _ v hr
end
theorem run_clear_cells {P : Program} (w : World) (t e ty : TypeId) (z : Value) (ht : P.underlying t = some (.slice e)) (hv : ∀ w, (zeroValue e).run P w = .ok z w) (b o n c : Nat) (hn : 0 < n) (h1 : ∀ v ∈ (Builtin.zeroCells z.cells n).toList, v.oneCell' = true)
    (hc : ∀ j, j < (Builtin.zeroCells z.cells n).size -> (w.cell? ⟨b, o + j, none⟩).isSome = true) (hf : ∀ j, j < (Builtin.zeroCells z.cells n).size -> w.frozen? ⟨b, o + j, none⟩ = false) :
    (Builtin.clear_ #[t] ty #[.slice (some ⟨b, o, none⟩) n c]).run P w = .ok (.tuple #[]) (w.setCells b o (Builtin.zeroCells z.cells n).toList) := by
  have hst := run_storeCells_cells (P := P) b o (Builtin.zeroCells z.cells n).toList 0 w (by simpa using hc) (by simpa using hf) h1
  simp only [Nat.add_zero] at hst
  obtain ⟨m, rfl⟩ : ∃ m, n = m + 1 := ⟨n - 1, by omega⟩
  simp [Builtin.clear_, run_underlying ht, hv, hst]
theorem zeroCells_one (z : Array Value) (hz : ∀ v ∈ z, v.oneCell' = true) (n : Nat) : ∀ v ∈ (Builtin.zeroCells z n).toList, v.oneCell' = true := by
  intro v hv
  unfold Builtin.zeroCells at hv
  simp only [Array.toList_map, List.mem_map, Array.mem_toList_iff, Array.mem_range] at hv
  obtain ⟨i, hi, rfl⟩ := hv
  have h0 : 0 < z.size := by
    rcases Nat.eq_zero_or_pos z.size with h | h
    · rw [h] at hi; omega
    · exact h
  have h1 := Nat.mod_lt i h0
  rw [getElem!_pos z _ h1]
  exact hz _ (Array.getElem_mem h1)
theorem patch_joinG {G : Nat -> Nat -> AC} {n : Nat} {cs : List AC} {g' : Nat -> Nat -> AC} {N sz : Nat} (hN : N = n + 1) (h : ∀ j, j < sz -> (g' 0 j) = cs.getD j .junk) :
    ∀ i, i < N -> ∀ j, j < sz -> joinC n G g' i j = pC G n cs i j := by
  intro i hi j hj
  unfold joinC pC
  by_cases h1 : i = n
  · subst h1
    rw [if_neg (by omega), if_pos rfl, Nat.sub_self, h j hj]
  · rw [if_pos (by omega), if_neg h1]
theorem patch_of2K {g : Nat -> Nat -> AC} {cs c0 cs' : List AC} {i j0 m N sz : Nat} {ks : List Nat} (hg : ∀ a b, (g a b).ref = []) (h : ∀ b, b < sz -> (if j0 <= b /\ b < j0 + m then cs.getD (b - j0) .junk else (c0.getD b .junk).kill ks) = cs'.getD b .junk) :
    ∀ a, a < N -> ∀ b, b < sz -> (if a = i /\ j0 <= b /\ b < j0 + m then cs.getD (b - j0) .junk else (pC g i c0 a b).kill ks) = pC g i cs' a b := by
  intro a ha b hb
  unfold pC
  by_cases h1 : a = i
  · subst h1
    rw [if_pos rfl, if_pos rfl, <- h b hb]
    simp only [true_and]
  · rw [if_neg h1, if_neg (fun h' => h1 h'.1), if_neg h1]
    exact AC.kill_id fun k hk => by rw [hg a b] at hk; cases hk
/-- where the objects lie behind: the array at bl; what its element i owns where the element π i's lay -/
def layP (k k' : Nat) (bl : Option (Nat × Nat)) (π : Nat -> Option Nat) (L : Lay) : Lay
  | .r q => if q = k' then bl else none
  | .s q i j => if q = k' then (match π i with | some t => L (.s k t j) | none => none) else none
theorem lookO_one (k : Nat) (x : AO) (q : Nat) : lookO [(k, x)] q = if q = k then x else .gone := by
  unfold lookO lookO; rfl
theorem HRel.rows {k k' : Nat} {L : Lay} {I : Nat -> Prop} {w w' : World} {N sz n' : Nat} {get get' : Nat -> Nat -> AC} {o : Nat -> AO} (hlk : o k = .arr .rw [] N sz get) (hH : HRel L I w (obj o)) (π : Nat -> Option Nat) (bl : Option (Nat × Nat))
    (hπ : ∀ i i' t, i < n' -> i' < n' -> π i = some t -> π i' = some t -> i = i')
    (hπN : ∀ i t, i < n' -> π i = some t -> t < N /\ ∀ j, j < sz -> get' i j = get t j)
    (hnew : ∀ i, i < n' -> π i = none -> ∀ j, j < sz -> (∃ x, get' i j = .v x) \/ ∃ s g, get' i j = .ow 0 s g)
    (hsz : w.heap.size <= w'.heap.size) (hI : ∀ b, I b -> w'.heap[b]? = w.heap[b]?)
    (hb : ∀ i j b y, obj o (.s k i j) ≠ .gone -> L (.s k i j) = some (b, y) -> w'.heap[b]? = w.heap[b]?)
    (hbl : (bl = none /\ n' = 0) \/ ∃ b base C e, bl = some (b, base) /\ ¬ I b /\ w'.heap[b]? = some (.cells C e (0, 0)) /\ (base + n' * sz <= C.size /\ ∀ (q : Nat) u, C[q]? = some u -> u.oneCell' = true) /\
      (∀ i t, i < n' -> π i = some t -> ∀ j, j < sz -> ∃ u, C[base + (i * sz + j)]? = some u /\ RelX L I w (obj o) (.r k) t j (get t j) u) /\
      (∀ i, i < n' -> π i = none -> ∀ j, j < sz -> ∃ u, C[base + (i * sz + j)]? = some u /\ (∀ x, get' i j = .v x -> u = x) /\ (∀ s g, get' i j = .ow 0 s g -> ∃ ad, u = .slice ad 0 0)) /\
      (w.heap.size <= b \/ ∃ z, L (.r k) = some (b, z))) :
    HRel (layP k k' bl π L) I w' (obj (lookO [(k', .arr .rw [] n' sz get')])) /\ ∀ id b x, obj (lookO [(k', .arr .rw [] n' sz get')]) id ≠ .gone -> layP k k' bl π L id = some (b, x) -> (bl = some (b, x) \/ ∃ id0, obj o id0 ≠ .gone /\ L id0 = some (b, x)) := by
  have hlk' : lookO [(k', .arr .rw [] n' sz get')] k' = .arr .rw [] n' sz get' := by rw [lookO_one, if_pos rfl]
  have hok : obj o (.r k) = .arr .rw [] N sz get := hlk
  have href : ∀ t, t < N -> ∀ j, j < sz -> (get t j).ref = [] := fun t ht j hj => by
    have := (hH.arr hok).2 t ht j hj
    rcases h : (get t j).ref with _ | ⟨x, r⟩
    · rfl
    · exact absurd (this x (by rw [h]; simp)) (by simp)
  -- an inner object behind is one ahead, or an empty one
  have hsub : ∀ i j, obj (lookO [(k', .arr .rw [] n' sz get')]) (.s k' i j) ≠ .gone -> i < n' /\ j < sz /\ ((∃ t, π i = some t /\ t < N /\ obj (lookO [(k', .arr .rw [] n' sz get')]) (.s k' i j) = obj o (.s k t j) /\ obj o (.s k t j) ≠ .gone) \/
      π i = none /\ ∃ s g, obj (lookO [(k', .arr .rw [] n' sz get')]) (.s k' i j) = .arr .rw [] 0 s g) := by
    intro i j hg
    simp only [obj, hlk'] at hg ⊢
    split at hg
    · rename_i hlt
      refine ⟨hlt.1, hlt.2, ?_⟩
      rw [if_pos hlt]
      cases hp : π i with
      | some t =>
        obtain ⟨h1, h2⟩ := hπN i t hlt.1 hp
        refine .inl ⟨t, rfl, h1, ?_⟩
        simp only [hlk]
        rw [if_pos ⟨h1, hlt.2⟩, h2 j hlt.2]
        rw [h2 j hlt.2] at hg
        exact ⟨rfl, hg⟩
      | none =>
        rcases hnew i hlt.1 hp j hlt.2 with ⟨x, hx⟩ | ⟨s, g, hx⟩
        · rw [hx] at hg; exact (hg rfl).elim
        · exact .inr ⟨rfl, s, fun i j => (g i j).cp, by rw [hx]; rfl⟩
    · exact (hg rfl).elim
  have hgone : ∀ q, q ≠ k' -> lookO [(k', .arr .rw [] n' sz get')] q = .gone := fun q hq => by rw [lookO_one, if_neg hq]
  have hgs : ∀ q i j, q ≠ k' -> obj (lookO [(k', .arr .rw [] n' sz get')]) (.s q i j) = .gone := fun q i j hq => by simp only [obj, hgone q hq]
  have hmono : ∀ (x : AC) (y : Value), x.ref = [] -> RelC L I w (obj o) x y -> RelC (layP k k' bl π L) I w' (obj (lookO [(k', .arr .rw [] n' sz get')])) x y := fun x y hx h =>
    RelI.toC _ _ (RelI.mono (fun b hb' => ⟨hb', hI b hb'⟩) _ _ (RelC.toI _ _ hx h))
  have hLs : ∀ i j t, π i = some t -> layP k k' bl π L (.s k' i j) = L (.s k t j) := fun i j t h => by simp [layP, h]
  have hLn : ∀ i j, π i = none -> layP k k' bl π L (.s k' i j) = none := fun i j h => by simp [layP, h]
  have hLr : layP k k' bl π L (.r k') = bl := by simp [layP]
  refine ⟨⟨fun id => ?_, fun id id' b x x' hg hg' hL hL' => ?_, fun b hb' => Nat.lt_of_lt_of_le (hH.imm b hb') hsz⟩, fun id b x hg hL => ?_⟩
  · cases id with
    | r q =>
      unfold ObjOk
      by_cases hq : q = k'
      · subst hq
        rw [show obj (lookO [(q, .arr .rw [] n' sz get')]) (.r q) = _ from hlk']
        refine ⟨?_, fun i hi j hj z hz => ?_⟩
        · rw [hLr]
          rcases hbl with ⟨h1, h2⟩ | ⟨b, base, C, e, h1, h2, h3, h4, h5, h6, _⟩
          · exact .inl ⟨h1, h2, fun c hc => by cases hc⟩
          · refine .inr ⟨b, base, C, e, h1, fun _ => h2, h3, h4, fun i hi j hj => ?_⟩
            cases hp : π i with
            | some t =>
              obtain ⟨u, hu, hr⟩ := h5 i t hi hp j hj
              refine ⟨u, hu, ?_⟩
              obtain ⟨ht, he⟩ := hπN i t hi hp
              rw [he j hj]
              cases hx : isOw (get t j) with
              | false => exact RelX.of (hmono _ _ (href t ht j hj) hr.toC) hx
              | true =>
                cases hgx : get t j with
                | ow a s g =>
                  rw [hgx] at hr
                  have hlive : obj (lookO [(q, .arr .rw [] n' sz get')]) (.s q i j) ≠ .gone := by
                    simp only [obj, hlk', if_pos (show i < n' /\ j < sz from ⟨hi, hj⟩), he j hj, hgx, subO']; simp
                  obtain ⟨_, _, h7 | h7⟩ := hsub i j hlive
                  · obtain ⟨t', h8, _, h9, h10⟩ := h7
                    rw [hp] at h8; injection h8 with h8; subst h8
                    exact Hdr.step (id := .s k t j) ⟨hLs i j t hp, by rw [h9]; exact AO.like_refl _ h10, fun b' y C' e' hL hC => ⟨C', by rw [hb t j b' y h10 hL]; exact hC, rfl⟩⟩ hr
                  · rw [hp] at h7; cases h7.1
                | _ => rw [hgx] at hx; cases hx
            | none =>
              obtain ⟨u, hu, hv, ho⟩ := h6 i hi hp j hj
              refine ⟨u, hu, ?_⟩
              rcases hnew i hi hp j hj with ⟨x, hx⟩ | ⟨s, g, hx⟩
              · rw [hx]
                have := hv x hx
                subst this
                exact ⟨rfl, h4.2 _ _ hu⟩
              · rw [hx]
                obtain ⟨ad, rfl⟩ := ho s g hx
                have : obj (lookO [(q, .arr .rw [] n' sz get')]) (.s q i j) = .arr .rw [] 0 s fun i j => (g i j).cp := by
                  simp only [obj, hlk', if_pos (show i < n' /\ j < sz from ⟨hi, hj⟩), hx, subO']
                exact ⟨_, _, _, _, _, this, .inl ⟨hLn i j hp, rfl, rfl, rfl, ⟨ad, rfl⟩, fun c hc => by cases hc⟩⟩
        · cases hp : π i with
          | some t =>
            obtain ⟨ht, he⟩ := hπN i t hi hp
            rw [he j hj, href t ht j hj] at hz; exact hz
          | none =>
            rcases hnew i hi hp j hj with ⟨x, hx⟩ | ⟨s, g, hx⟩ <;> rw [hx] at hz <;> exact hz
      · rw [show obj (lookO [(k', .arr .rw [] n' sz get')]) (.r q) = _ from hgone q hq]; trivial
    | s q i j =>
      by_cases hg : obj (lookO [(k', .arr .rw [] n' sz get')]) (.s q i j) = .gone
      · unfold ObjOk; rw [hg]; trivial
      · have hq : q = k' := by
          rcases Nat.decEq q k' with h | h
          · exact (hg (hgs q i j h)).elim
          · exact h
        subst hq
        obtain ⟨h1, h2, ⟨t, h3, h4, h5, h6⟩ | ⟨h3, s, g, h4⟩⟩ := hsub i j hg
        · have h0 := hH.ok (.s k t j)
          obtain ⟨m', rs', n2, sz2, get2, a', b', g, _, _, _, _, g3⟩ := obj_s h6
          have h0 := hH.arr g3
          unfold ObjOk
          rw [h5, g3]
          refine ⟨?_, h0.2⟩
          rw [hLs i j t h3]
          rcases h0.1 with h7 | ⟨b, base, C, e, h7, h8, h9, h10, h11⟩
          · exact .inl h7
          · refine .inr ⟨b, base, C, e, h7, h8, by rw [hb t j b base h6 h7]; exact h9, h10, fun i' hi' j' hj' => ?_⟩
            obtain ⟨u, hu, hr⟩ := h11 i' hi' j' hj'
            refine ⟨u, hu, RelX.of (hmono _ _ ?_ hr.toC) (isOw_cp _)⟩
            rcases h : ((g i' j').cp).ref with _ | ⟨x, r⟩
            · rfl
            · exact absurd (h0.2 i' hi' j' hj' x (by rw [h]; simp)) (by simp)
        · unfold ObjOk
          rw [h4]
          exact ⟨.inl ⟨hLn i j h3, rfl, fun c hc => by cases hc⟩, fun i' hi' => absurd hi' (by omega)⟩
  · have live : ∀ id : Id, obj (lookO [(k', .arr .rw [] n' sz get')]) id ≠ .gone -> id.root = k' := by
      intro id hg
      cases id with
      | r q =>
        rcases Nat.decEq q k' with h | h
        · exact (hg (hgone q h)).elim
        · exact h
      | s q i j =>
        rcases Nat.decEq q k' with h | h
        · exact (hg (hgs q i j h)).elim
        · exact h
    have hrs : ∀ i j, obj (lookO [(k', .arr .rw [] n' sz get')]) (.s k' i j) ≠ .gone -> ∀ b y y', bl = some (b, y) -> layP k k' bl π L (.s k' i j) = some (b, y') -> False := by
      intro i j hg b y y' hbb hLL
      obtain ⟨h1, h2, ⟨t, h3, h4, h5, h6⟩ | ⟨h3, s, g, h4⟩⟩ := hsub i j hg
      · rw [hLs i j t h3] at hLL
        rcases hbl with ⟨h7, _⟩ | ⟨b', base, C, e, h7, _, _, _, _, _, h8⟩
        · rw [h7] at hbb; cases hbb
        · rw [h7] at hbb; injection hbb with hbb; injection hbb with h9 h10; subst h9
          rcases h8 with h8 | ⟨z, h8⟩
          · have := (hH.lt h6 hLL).1; omega
          · have := hH.inj (.s k t j) (.r k) b' y' z h6 (by rw [hok]; simp) hLL h8; cases this
      · rw [hLn i j h3] at hLL; cases hLL
    have e1 := live id hg
    have e2 := live id' hg'
    cases id with
    | r q =>
      cases id' with
      | r q' => have e1 : q = k' := e1
                have e2 : q' = k' := e2
                rw [e1, e2]
      | s q' i j =>
        have e1 : q = k' := e1
        have e2 : q' = k' := e2
        subst e1; subst e2
        rw [hLr] at hL
        exact (hrs i j hg' b x x' hL hL').elim
    | s q i j =>
      have e1 : q = k' := e1
      subst e1
      cases id' with
      | r q' =>
        have e2 : q' = q := e2
        subst e2
        rw [hLr] at hL'
        exact (hrs i j hg b x' x hL' hL).elim
      | s q' i' j' =>
        have e2 : q' = q := e2
        subst e2
        obtain ⟨h1, h2, ⟨t, h3, h4, h5, h6⟩ | ⟨h3, s, g, h4⟩⟩ := hsub i j hg
        · obtain ⟨h1', h2', ⟨t', h3', h4', h5', h6'⟩ | ⟨h3', s', g', h4'⟩⟩ := hsub i' j' hg'
          · rw [hLs i j t h3] at hL
            rw [hLs i' j' t' h3'] at hL'
            have := hH.inj _ _ b x x' h6 h6' hL hL'
            injection this with _ h7 h8
            subst h7; subst h8
            rw [hπ i i' t h1 h1' h3 h3']
          · rw [hLn i' j' h3'] at hL'; cases hL'
        · rw [hLn i j h3] at hL; cases hL
  · cases id with
    | r q =>
      have hq : q = k' := by
        rcases Nat.decEq q k' with h | h
        · exact (hg (hgone q h)).elim
        · exact h
      subst hq
      rw [hLr] at hL
      exact .inl hL
    | s q i j =>
      have hq : q = k' := by
        rcases Nat.decEq q k' with h | h
        · exact (hg (hgs q i j h)).elim
        · exact h
      subst hq
      obtain ⟨h1, h2, ⟨t, h3, h4, h5, h6⟩ | ⟨h3, s, g, h4⟩⟩ := hsub i j hg
      · rw [hLs i j t h3] at hL
        exact .inr ⟨_, h6, hL⟩
      · rw [hLn i j h3] at hL; cases hL
/-- cells that are set -/
theorem heap_setCells (b : Nat) : ∀ (vs : List Value) (o : Nat) (w : World) (C : Array Value) (e : TypeId), w.heap[b]? = some (.cells C e (0, 0)) ->
    ∃ C', (w.setCells b o vs).heap[b]? = some (.cells C' e (0, 0)) /\ C'.size = C.size /\ (∀ q, q < o \/ o + vs.length <= q -> C'[q]? = C[q]?) /\ (∀ t u, vs[t]? = some u -> o + t < C.size -> C'[o + t]? = some u) /\
      (∀ (q : Nat) u, C'[q]? = some u -> C[q]? = some u \/ u ∈ vs) /\ (w.setCells b o vs).os = w.os /\ (w.setCells b o vs).tape = w.tape /\ (w.setCells b o vs).output = w.output /\ (w.setCells b o vs).heap.size = w.heap.size /\ ∀ q, q ≠ b -> (w.setCells b o vs).heap[q]? = w.heap[q]?
  | [], o, w, C, e, h => ⟨C, h, rfl, fun _ _ => rfl, fun t u h _ => by simp at h, fun q u h => .inl h, rfl, rfl, rfl, rfl, fun _ _ => rfl⟩
  | v :: r, o, w, C, e, h => by
    obtain ⟨C', h1, h2, h3, h4, h5, h6, h7, h8, h9, h10⟩ := heap_setCells b r (o + 1) (w.setCell ⟨b, o, none⟩ v) (C.setIfInBounds o v) e (heap_setCell_same w b o C e v h)
    refine ⟨C', h1, by rw [h2, Array.size_setIfInBounds], fun q hq => ?_, fun t u ht hlt => ?_, fun q u hu => ?_, h6, h7, h8, by rw [World.setCells, h9, World.size_setCell], fun q hq => ?_⟩
    · rw [h3 q (by simp only [List.length_cons] at hq; omega), Array.getElem?_setIfInBounds_ne (by simp only [List.length_cons] at hq; omega)]
    · cases t with
      | zero =>
        injection ht with ht; subst ht
        rw [Nat.add_zero, h3 o (by omega), Array.getElem?_setIfInBounds_self_of_lt (by omega)]
      | succ t =>
        have := h4 t u ht (by rw [Array.size_setIfInBounds]; omega)
        rw [show o + 1 + t = o + (t + 1) by omega] at this
        exact this
    · rcases h5 q u hu with h | h
      · by_cases hq : q = o
        · subst hq
          rw [Array.getElem?_setIfInBounds] at h
          split at h
          · split at h
            · injection h with h; subst h; exact .inr (by simp)
            · cases h
          · exact .inl h
        · rw [Array.getElem?_setIfInBounds_ne (fun h => hq h.symm)] at h; exact .inl h
      · exact .inr (List.mem_cons_of_mem _ h)
    · rw [World.setCells, h10 q hq, heap_setCell_other w _ q v hq]
/-- elements i.. taken out -/
theorem cut_get {α : Type} [Inhabited α] (l : List α) (i j t : Nat) (hij : i <= j) (hj : j <= l.length) : gd (l.take i ++ l.drop j) t = gd l (if t < i then t else t + (j - i)) := by
  unfold gd
  rw [List.getD_eq_getElem?_getD, List.getD_eq_getElem?_getD]
  congr 1
  rw [List.getElem?_append, List.length_take]
  split
  · rename_i h
    rw [List.getElem?_take, if_pos (by omega), if_pos (by omega)]
  · rename_i h
    rw [List.getElem?_drop, if_neg (by omega)]
    congr 1
    omega
theorem cell_at {w : World} {b : Nat} {C : Array Value} {e : TypeId} (h : w.heap[b]? = some (.cells C e (0, 0))) (q : Nat) : w.cell? ⟨b, q, none⟩ = C[q]? := by
  simp [World.cell?, h]
theorem frozen_of {w : World} {b : Nat} {C : Array Value} {e : TypeId} (h : w.heap[b]? = some (.cells C e (0, 0))) (q : Nat) : w.frozen? ⟨b, q, none⟩ = false := by
  simp [World.frozen?, h]
theorem Fun.delete {P : Program} {f : FuncId} {fn : Func} (hf : P.funcs[f]? = some fn) (hname : (fn.name == "runtime.NumGoroutine") = false) (hbd : fn.body.isNone = false) (sz : Nat)
    (hD : ∀ (blk off cap n i j : Nat) (D : List Value) (w : World), D.length = n * sz -> (∀ t u, D[t]? = some u -> w.cell? ⟨blk, off + t, none⟩ = some u) -> (∀ u ∈ D, u.oneCell' = true) -> (∀ t, t < n * sz -> w.frozen? ⟨blk, off + t, none⟩ = false) -> n <= cap -> i < j -> j <= n ->
      Calls P f #[.slice (some ⟨blk, off, none⟩) n cap, .int .i64 i, .int .i64 j] w fun e w' => e = .returned (.slice (some ⟨blk, off, none⟩) (n - (j - i)) cap) /\ ∃ zs : List Value, zs.length = (j - i) * sz /\ (∀ u ∈ zs, u.oneCell' = true) /\ w' = (w.drew.setCells blk (off + i * sz) (D.drop (j * sz))).setCells blk (off + (i + (n - j)) * sz) zs)
    (n i j : Nat) (get get' : Nat -> Nat -> AC) (hij : i < j) (hj : j <= n) (hget : ∀ t, t < n - (j - i) -> ∀ q, q < sz -> get' t q = get (if t < i then t else t + (j - i)) q) (href : ∀ t q, (get t q).ref = []) (hfl : ∀ t q, (get' t q).flat) :
    Fun P f [.c (.os 5 0 n), .c (.v (.int .i64 i)), .c (.v (.int .i64 j))] [(5, .arr .rw [] n sz get)] (.c (.os 64000 0 (n - (j - i)))) [(64000, .arr .rw [] (n - (j - i)) sz get')] true := by
  refine ⟨⟨fn, hf, hname, hbd⟩, ⟨⟨fun t _ q _ k hk => by rw [href t q] at hk; exact hk, tv⟩, fun _ => ⟨trivial, fun t _ q _ => hfl t q, tv⟩⟩, fun vals w I L hH hargs => ?_⟩
  have hok : obj (lookO [(5, .arr .rw [] n sz get)]) (.r 5) = .arr .rw [] n sz get := by
    show lookO _ 5 = _
    rw [lookO_one, if_pos rfl]
  obtain ⟨y, hy, hr0⟩ := hargs.2 0 _ rfl
  obtain ⟨u1, hu1, hr1⟩ := hargs.2 1 _ rfl
  obtain ⟨u2, hu2, hr2⟩ := hargs.2 2 _ rfl
  have hr1 : u1 = .int .i64 i := hr1.1
  have hr2 : u2 = .int .i64 j := hr2.1
  have hr0 : Hdr L w (obj (lookO [(5, .arr .rw [] n sz get)])) (.r 5) 0 n y := hr0
  obtain ⟨m, rs, N, sz', get2, ho, hh⟩ := hr0
  rw [hok] at ho
  injection ho with e1 e2 e3 e4 e5
  subst e1; subst e2; subst e3; subst e4; subst e5
  rcases hh with ⟨_, h0, _⟩ | ⟨b, base, cap, hL, hyv, h1, h2, _, C0, e0, hC0, h3⟩ | ⟨_, h0, _⟩
  · omega
  rotate_left
  · omega
  have ha := (hH.arr hok).1
  rcases ha with ⟨h4, _⟩ | ⟨b', base', C, e, h4, hnI, hC, hCs, hcell⟩
  · rw [hL] at h4; cases h4
  rw [hL] at h4; injection h4 with h4; injection h4 with h5 h6; subst h5; subst h6
  rw [hC0] at hC; injection hC with hC; injection hC with h7 h8; subst h7; subst h8
  have hvals : vals = #[.slice (some ⟨b, base, none⟩) n cap, .int .i64 i, .int .i64 j] := by
    apply Array.ext_getElem?
    intro q
    match q with
    | 0 => rw [hy, hyv]; simp
    | 1 => rw [hu1, hr1]; rfl
    | 2 => rw [hu2, hr2]; rfl
    | q + 3 =>
      have := hargs.1
      rw [Array.getElem?_eq_none (by simp at this; omega), Array.getElem?_eq_none (by simp)]
  subst hvals
  have hsz := hCs.1
  obtain ⟨D, hDd⟩ : ∃ D, D = (C0.toList.drop base).take (n * sz) := ⟨_, rfl⟩
  have hDl : D.length = n * sz := by rw [hDd, List.length_take, List.length_drop, Array.length_toList]; omega
  have hDg : ∀ t, t < n * sz -> D[t]? = C0[base + t]? := fun t ht => by
    rw [hDd, List.getElem?_take, if_pos ht, List.getElem?_drop, Array.getElem?_toList]
  have hDlt : ∀ t u, D[t]? = some u -> t < n * sz := fun t u h => by
    have := (List.getElem?_eq_some_iff.1 h).1; omega
  have hD1 : ∀ u ∈ D, u.oneCell' = true := fun u hu => by
    obtain ⟨t, ht⟩ := List.mem_iff_getElem?.1 hu
    exact hCs.2 _ u ((hDg t (hDlt t u ht)).symm.trans ht)
  refine (hD b base cap n i j D w hDl (fun t u h => by rw [cell_at hC0, <- hDg t (hDlt t u h)]; exact h) hD1 (fun t _ => frozen_of hC0 _) (by omega) hij hj).mono ?_
  rintro e w' ⟨rfl, zs, hzl, hz1, rfl⟩
  have hwd : w.drew.heap[b]? = some (.cells C0 e0 (0, 0)) := hC0
  obtain ⟨C1, a1, a2, a3, a4, a5, a6, a7, a8, a9, a10⟩ := heap_setCells b (D.drop (j * sz)) (base + i * sz) w.drew C0 e0 hwd
  obtain ⟨C2, b1, b2, b3, b4, b5, b6, b7, b8, b9, b10⟩ := heap_setCells b zs (base + (i + (n - j)) * sz) _ C1 e0 a1
  have hother : ∀ q, q ≠ b -> ((w.drew.setCells b (base + i * sz) (D.drop (j * sz))).setCells b (base + (i + (n - j)) * sz) zs).heap[q]? = w.heap[q]? := fun q hq => (b10 q hq).trans (a10 q hq)
  have hown : Owned L (obj (lookO [(5, .arr .rw [] n sz get)])) b := ⟨.r 5, base, by rw [hok]; simp, hL⟩
  obtain ⟨hR1, hR2⟩ := HRel.rows (k' := 64000) (w' := (w.drew.setCells b (base + i * sz) (D.drop (j * sz))).setCells b (base + (i + (n - j)) * sz) zs) (n' := n - (j - i)) (get' := get') (o := lookO [(5, .arr .rw [] n sz get)]) (by rw [lookO_one, if_pos rfl]) hH (fun t => some (if t < i then t else t + (j - i))) (some (b, base))
    (fun t t' q ht ht' h h' => by
      injection h with h; injection h' with h'
      split at h <;> split at h' <;> omega)
    (fun t q ht h => by
      injection h with h
      refine ⟨by split at h <;> omega, fun z hz => by rw [hget t ht z hz, h]⟩)
    (fun t ht h => by cases h) (by rw [b9, a9]; exact Nat.le_refl _) (fun q hq => hother q (by rintro rfl; exact hnI rfl hq))
    (fun t q b' y hg hl => hother b' (by
      rintro rfl
      have := hH.inj (.s 5 t q) (.r 5) b' y base hg (by rw [hok]; simp) hl hL
      cases this))
    (.inr ⟨b, base, C2, e0, rfl, hnI rfl, b1, ⟨by
      have : (n - (j - i)) * sz <= n * sz := Nat.mul_le_mul_right _ (by omega)
      rw [b2, a2]; omega, fun q u hu => by
        rcases b5 q u hu with h | h
        · rcases a5 q u h with h | h
          · exact hCs.2 q u h
          · exact hD1 u (List.mem_of_mem_drop h)
        · exact hz1 u h⟩, fun t q ht h z hz => by
      injection h with h
      have e3 : (i + (n - j)) * sz = i * sz + (n - j) * sz := Nat.add_mul _ _ _
      have hq : q < n := by split at h <;> omega
      obtain ⟨u, hu, hr⟩ := hcell q hq z hz
      refine ⟨u, ?_, hr⟩
      have hlen : (D.drop (j * sz)).length = (n - j) * sz := by rw [List.length_drop, hDl, Nat.sub_mul]
      have ht2 : t * sz + z < (i + (n - j)) * sz := by
        have h1 : (t + 1) * sz <= (i + (n - j)) * sz := Nat.mul_le_mul_right _ (by omega)
        rw [Nat.add_mul] at h1; omega
      rw [b3 _ (by omega)]
      split at h
      · subst h
        rename_i hti
        have h1 : (t + 1) * sz <= i * sz := Nat.mul_le_mul_right _ (by omega)
        rw [Nat.add_mul] at h1
        rw [a3 _ (by omega)]
        exact hu
      · subst h
        rename_i hti
        have h1 : i * sz <= t * sz := Nat.mul_le_mul_right _ (by omega)
        have h2 : (t + (j - i)) * sz = t * sz + (j - i) * sz := Nat.add_mul _ _ _
        have h3 : (j - i) * sz = j * sz - i * sz := Nat.sub_mul _ _ _
        have h4 : i * sz <= j * sz := Nat.mul_le_mul_right _ (by omega)
        have h5 : (t + (j - i) + 1) * sz <= n * sz := Nat.mul_le_mul_right _ (by omega)
        have h6 : (t + (j - i) + 1) * sz = (t + (j - i)) * sz + sz := Nat.succ_mul _ _
        have := a4 (t * sz + z - i * sz) u (by
          rw [List.getElem?_drop, hDg _ (by omega)]
          rw [show base + (j * sz + (t * sz + z - i * sz)) = base + ((t + (j - i)) * sz + z) by omega]
          exact hu) (by omega)
        rw [show base + i * sz + (t * sz + z - i * sz) = base + (t * sz + z) by omega] at this
        exact this, fun t ht h z hz => (by cases h), .inr ⟨base, hL⟩⟩)
  refine ⟨_, I, _, rfl, fun b h => h, fun b h _ => .inl h, hR1, ?_, fun q hq hg => ?_, fun id b' x hg hl => .inr ?_, ⟨by rw [b6, a6]; rfl, by rw [b7, a7]; rfl, by rw [b8, a8]; rfl, by rw [b9, a9]; exact Nat.le_refl _, fun q hq hno => hother q (by rintro rfl; exact hno hown)⟩⟩
  · refine ⟨.rw, [], n - (j - i), sz, get', by show lookO _ 64000 = _; rw [lookO_one, if_pos rfl], .inr (.inl ⟨b, base, cap, by simp [layP], by simp, by omega, by omega, fun c hc => (by cases hc), C2, e0, b1, by rw [b2, a2]; simpa using h3⟩)⟩
  · rw [lookO_one] at hg
    split at hg
    · omega
    · exact (hg rfl).elim
  · rcases hR2 id b' x hg hl with h | ⟨id0, h, h'⟩
    · injection h with h; injection h with h h'; subst h; exact hown
    · exact ⟨id0, x, h, h'⟩
/-- where the objects lie behind: the array at bl; what its element i owns where that of the element (π i).2 of the array (π i).1 lies -/
def layQ (k' : Nat) (bl : Option (Nat × Nat)) (π : Nat -> Nat × Nat) (L : Lay) : Lay
  | .r q => if q = k' then bl else none
  | .s q i j => if q = k' then L (.s (π i).1 (π i).2 j) else none
theorem HRel.rowsQ {k' : Nat} {L : Lay} {I : Nat -> Prop} {w w' : World} {sz n' : Nat} {get' : Nat -> Nat -> AC} {o : Nat -> AO} (hH : HRel L I w (obj o)) (π : Nat -> Nat × Nat) (bl : Option (Nat × Nat))
    (hπ : ∀ i i', i < n' -> i' < n' -> π i = π i' -> i = i')
    (hπN : ∀ i, i < n' -> ∃ N get, o (π i).1 = .arr .rw [] N sz get /\ (π i).2 < N /\ ∀ j, j < sz -> get' i j = get (π i).2 j)
    (hsz : w.heap.size <= w'.heap.size) (hI : ∀ b, I b -> w'.heap[b]? = w.heap[b]?)
    (hb : ∀ k i j b y, obj o (.s k i j) ≠ .gone -> L (.s k i j) = some (b, y) -> w'.heap[b]? = w.heap[b]?)
    (hbl : (bl = none /\ n' = 0) \/ ∃ b base C e, bl = some (b, base) /\ ¬ I b /\ w'.heap[b]? = some (.cells C e (0, 0)) /\ (base + n' * sz <= C.size /\ ∀ (q : Nat) u, C[q]? = some u -> u.oneCell' = true) /\
      (∀ i, i < n' -> ∀ j, j < sz -> ∃ u, C[base + (i * sz + j)]? = some u /\ RelX L I w (obj o) (.r (π i).1) (π i).2 j (get' i j) u) /\
      (w.heap.size <= b \/ ∃ k z, o k ≠ .gone /\ L (.r k) = some (b, z))) :
    HRel (layQ k' bl π L) I w' (obj (lookO [(k', .arr .rw [] n' sz get')])) /\ ∀ id b x, obj (lookO [(k', .arr .rw [] n' sz get')]) id ≠ .gone -> layQ k' bl π L id = some (b, x) -> (bl = some (b, x) \/ ∃ id0, obj o id0 ≠ .gone /\ L id0 = some (b, x)) := by
  have hlk' : lookO [(k', .arr .rw [] n' sz get')] k' = .arr .rw [] n' sz get' := by rw [lookO_one, if_pos rfl]
  have href : ∀ i, i < n' -> ∀ j, j < sz -> (get' i j).ref = [] := fun i hi j hj => by
    obtain ⟨N, get, h1, h2, h3⟩ := hπN i hi
    have h4 : obj o (.r (π i).1) = .arr .rw [] N sz get := h1
    have := (hH.arr h4).2 _ h2 j hj
    rw [h3 j hj]
    rcases h : (get (π i).2 j).ref with _ | ⟨x, r⟩
    · rfl
    · exact absurd (this x (by rw [h]; simp)) (by simp)
  have hsub : ∀ i j, obj (lookO [(k', .arr .rw [] n' sz get')]) (.s k' i j) ≠ .gone -> i < n' /\ j < sz /\ obj (lookO [(k', .arr .rw [] n' sz get')]) (.s k' i j) = obj o (.s (π i).1 (π i).2 j) /\ obj o (.s (π i).1 (π i).2 j) ≠ .gone := by
    intro i j hg
    simp only [obj, hlk'] at hg ⊢
    split at hg
    · rename_i hlt
      refine ⟨hlt.1, hlt.2, ?_⟩
      rw [if_pos hlt]
      obtain ⟨N, get, h1, h2, h3⟩ := hπN i hlt.1
      simp only [h1]
      rw [if_pos ⟨h2, hlt.2⟩, h3 j hlt.2]
      rw [h3 j hlt.2] at hg
      exact ⟨rfl, hg⟩
    · exact (hg rfl).elim
  have hgone : ∀ q, q ≠ k' -> lookO [(k', .arr .rw [] n' sz get')] q = .gone := fun q hq => by rw [lookO_one, if_neg hq]
  have hgs : ∀ q i j, q ≠ k' -> obj (lookO [(k', .arr .rw [] n' sz get')]) (.s q i j) = .gone := fun q i j hq => by simp only [obj, hgone q hq]
  have hmono : ∀ (x : AC) (y : Value), x.ref = [] -> RelC L I w (obj o) x y -> RelC (layQ k' bl π L) I w' (obj (lookO [(k', .arr .rw [] n' sz get')])) x y := fun x y hx h =>
    RelI.toC _ _ (RelI.mono (fun b hb' => ⟨hb', hI b hb'⟩) _ _ (RelC.toI _ _ hx h))
  have hLs : ∀ i j, layQ k' bl π L (.s k' i j) = L (.s (π i).1 (π i).2 j) := fun i j => by simp [layQ]
  have hLr : layQ k' bl π L (.r k') = bl := by simp [layQ]
  refine ⟨⟨fun id => ?_, fun id id' b x x' hg hg' hL hL' => ?_, fun b hb' => Nat.lt_of_lt_of_le (hH.imm b hb') hsz⟩, fun id b x hg hL => ?_⟩
  · cases id with
    | r q =>
      unfold ObjOk
      by_cases hq : q = k'
      · subst hq
        rw [show obj (lookO [(q, .arr .rw [] n' sz get')]) (.r q) = _ from hlk']
        refine ⟨?_, fun i hi j hj z hz => by rw [href i hi j hj] at hz; exact hz⟩
        rw [hLr]
        rcases hbl with ⟨h1, h2⟩ | ⟨b, base, C, e, h1, h2, h3, h4, h5, _⟩
        · exact .inl ⟨h1, h2, fun c hc => by cases hc⟩
        · refine .inr ⟨b, base, C, e, h1, fun _ => h2, h3, h4, fun i hi j hj => ?_⟩
          obtain ⟨u, hu, hr⟩ := h5 i hi j hj
          refine ⟨u, hu, ?_⟩
          cases hx : isOw (get' i j) with
          | false => exact RelX.of (hmono _ _ (href i hi j hj) hr.toC) hx
          | true =>
            cases hgx : get' i j with
            | ow a s g =>
              rw [hgx] at hr
              have hlive : obj (lookO [(q, .arr .rw [] n' sz get')]) (.s q i j) ≠ .gone := by
                simp only [obj, hlk', if_pos (show i < n' /\ j < sz from ⟨hi, hj⟩), hgx, subO']; simp
              obtain ⟨_, _, h9, h10⟩ := hsub i j hlive
              exact Hdr.step (id := .s (π i).1 (π i).2 j) ⟨hLs i j, by rw [h9]; exact AO.like_refl _ h10, fun b' y C' e' hL hC => ⟨C', by rw [hb _ _ j b' y h10 hL]; exact hC, rfl⟩⟩ hr
            | _ => rw [hgx] at hx; cases hx
      · rw [show obj (lookO [(k', .arr .rw [] n' sz get')]) (.r q) = _ from hgone q hq]; trivial
    | s q i j =>
      by_cases hg : obj (lookO [(k', .arr .rw [] n' sz get')]) (.s q i j) = .gone
      · unfold ObjOk; rw [hg]; trivial
      · have hq : q = k' := by
          rcases Nat.decEq q k' with h | h
          · exact (hg (hgs q i j h)).elim
          · exact h
        subst hq
        obtain ⟨h1, h2, h5, h6⟩ := hsub i j hg
        have h0 := hH.ok (.s (π i).1 (π i).2 j)
        obtain ⟨m', rs', n2, sz2, get2, a', b', g, _, _, _, _, g3⟩ := obj_s h6
        have h0 := hH.arr g3
        unfold ObjOk
        rw [h5, g3]
        refine ⟨?_, h0.2⟩
        rw [hLs i j]
        rcases h0.1 with h7 | ⟨b, base, C, e, h7, h8, h9, h10, h11⟩
        · exact .inl h7
        · refine .inr ⟨b, base, C, e, h7, h8, by rw [hb _ _ j b base h6 h7]; exact h9, h10, fun i' hi' j' hj' => ?_⟩
          obtain ⟨u, hu, hr⟩ := h11 i' hi' j' hj'
          refine ⟨u, hu, RelX.of (hmono _ _ ?_ hr.toC) (isOw_cp _)⟩
          rcases h : ((g i' j').cp).ref with _ | ⟨x, r⟩
          · rfl
          · exact absurd (h0.2 i' hi' j' hj' x (by rw [h]; simp)) (by simp)
  · have live : ∀ id : Id, obj (lookO [(k', .arr .rw [] n' sz get')]) id ≠ .gone -> id.root = k' := by
      intro id hg
      cases id with
      | r q =>
        rcases Nat.decEq q k' with h | h
        · exact (hg (hgone q h)).elim
        · exact h
      | s q i j =>
        rcases Nat.decEq q k' with h | h
        · exact (hg (hgs q i j h)).elim
        · exact h
    have hrs : ∀ i j, obj (lookO [(k', .arr .rw [] n' sz get')]) (.s k' i j) ≠ .gone -> ∀ b y y', bl = some (b, y) -> layQ k' bl π L (.s k' i j) = some (b, y') -> False := by
      intro i j hg b y y' hbb hLL
      obtain ⟨h1, h2, h5, h6⟩ := hsub i j hg
      rw [hLs i j] at hLL
      rcases hbl with ⟨h7, _⟩ | ⟨b', base, C, e, h7, _, _, _, _, h8⟩
      · rw [h7] at hbb; cases hbb
      · rw [h7] at hbb; injection hbb with hbb; injection hbb with h9 h10; subst h9
        rcases h8 with h8 | ⟨k, z, h8', h8⟩
        · have := (hH.lt h6 hLL).1; omega
        · have := hH.inj (.s (π i).1 (π i).2 j) (.r k) b' y' z h6 h8' hLL h8; cases this
    have e1 := live id hg
    have e2 := live id' hg'
    cases id with
    | r q =>
      cases id' with
      | r q' => have e1 : q = k' := e1
                have e2 : q' = k' := e2
                rw [e1, e2]
      | s q' i j =>
        have e1 : q = k' := e1
        have e2 : q' = k' := e2
        subst e1; subst e2
        rw [hLr] at hL
        exact (hrs i j hg' b x x' hL hL').elim
    | s q i j =>
      have e1 : q = k' := e1
      subst e1
      cases id' with
      | r q' =>
        have e2 : q' = q := e2
        subst e2
        rw [hLr] at hL'
        exact (hrs i j hg b x' x hL' hL).elim
      | s q' i' j' =>
        have e2 : q' = q := e2
        subst e2
        obtain ⟨h1, h2, h5, h6⟩ := hsub i j hg
        obtain ⟨h1', h2', h5', h6'⟩ := hsub i' j' hg'
        rw [hLs i j] at hL
        rw [hLs i' j'] at hL'
        have := hH.inj _ _ b x x' h6 h6' hL hL'
        injection this with h3 h7 h8
        subst h8
        rw [hπ i i' h1 h1' (Prod.ext h3 h7)]
  · cases id with
    | r q =>
      have hq : q = k' := by
        rcases Nat.decEq q k' with h | h
        · exact (hg (hgone q h)).elim
        · exact h
      subst hq
      rw [hLr] at hL
      exact .inl hL
    | s q i j =>
      have hq : q = k' := by
        rcases Nat.decEq q k' with h | h
        · exact (hg (hgs q i j h)).elim
        · exact h
      subst hq
      obtain ⟨h1, h2, h5, h6⟩ := hsub i j hg
      rw [hLs i j] at hL
      exact .inr ⟨_, h6, hL⟩
section
open Go.Lib
/-- copy of elements of more than one cell -/
theorem run_copy_cellsN {P : Program} (sz : Nat) (w : World) (dT sT ty elem : TypeId) (b o dLen dCap : Nat) (a : Addr) (sLen sCap : Nat) (cs : List Value)
    (hu : P.underlying dT = some (.slice elem)) (hs : (P.info? elem).map (·.size) = some sz) (hn : cs.length = Nat.min sLen dLen * sz)
    (hsrc : ∀ j v, cs[j]? = some v -> w.cell? (a.add j) = some v) (hc : ∀ j, j < cs.length -> (w.cell? ⟨b, o + j, none⟩).isSome = true) (hf : ∀ j, j < cs.length -> w.frozen? ⟨b, o + j, none⟩ = false) (h1 : ∀ v ∈ cs, v.oneCell' = true) :
    (Builtin.copy_ #[dT, sT] ty #[.slice (some ⟨b, o, none⟩) dLen dCap, .slice (some a) sLen sCap]).run P w = .ok (goInt (Nat.min sLen dLen)) (w.setCells b o cs) := by
  have hl := run_loadCells_list (P := P) w a cs hsrc
  have hst := run_storeCells_cells (P := P) b o cs 0 w (by simpa using hc) (by simpa using hf) h1
  cases hq : P.info? elem with
  | none => simp [hq] at hs
  | some i =>
    have hi : i.size = sz := by simpa [hq] using hs
    simp [Builtin.copy_, run_underlying hu, Builtin.lenOf, Builtin.firstCells, sizeOf, typeInfo, hq, hi, <- hn, hl, hst]
end
/-- an element of the list with others put in -/
theorem ins_get {α : Type} [Inhabited α] (l v : List α) (i t : Nat) (hi : i <= l.length) : gd (l.take i ++ v ++ l.drop i) t = if t < i then gd l t else if t < i + v.length then gd v (t - i) else gd l (t - v.length) := by
  unfold gd
  rw [List.getD_eq_getElem?_getD, List.getD_eq_getElem?_getD, List.getD_eq_getElem?_getD, List.getD_eq_getElem?_getD, List.append_assoc]
  split
  · rename_i h
    rw [List.getElem?_append_left (by rw [List.length_take]; omega), List.getElem?_take, if_pos h]
  · rename_i h
    rw [List.getElem?_append_right (by rw [List.length_take]; omega), List.length_take, Nat.min_eq_left hi]
    split
    · rename_i h'
      rw [List.getElem?_append_left (by omega)]
    · rename_i h'
      rw [List.getElem?_append_right (by omega), List.getElem?_drop]
      congr 2
      omega
/-- what stands behind an insertion -/
def Inserted (w : World) (old : Option (Nat × Nat)) (sz nm : Nat) (cells : List Value) (e : Ending) (w' : World) : Prop :=
  ∃ b off c C t, e = .returned (.slice (some ⟨b, off, none⟩) nm c) /\ (old = some (b, off) \/ b = w.heap.size /\ off = 0) /\ nm <= c /\ w'.heap[b]? = some (.cells C t (0, 0)) /\ off + c * sz <= C.size /\ (∀ (q : Nat) u, C[q]? = some u -> u.oneCell' = true) /\
    (∀ q, q < nm * sz -> C[off + q]? = cells[q]?) /\ w'.os = w.os /\ w'.tape = w.tape /\ w'.output = w.output /\ w.heap.size <= w'.heap.size /\ ∀ q, q ≠ b -> q < w.heap.size -> w'.heap[q]? = w.heap[q]?
theorem look_a {cs vs : List Value} {I q : Nat} (h : q < I) (hl : I <= cs.length) : (cs.take I ++ vs ++ cs.drop I)[q]? = cs[q]? := by
  rw [List.append_assoc, List.getElem?_append_left (by rw [List.length_take]; omega), List.getElem?_take, if_pos h]
theorem look_b {cs vs : List Value} {I q : Nat} (h : I <= q) (h2 : q < I + vs.length) (hl : I <= cs.length) : (cs.take I ++ vs ++ cs.drop I)[q]? = vs[q - I]? := by
  rw [List.append_assoc, List.getElem?_append_right (by rw [List.length_take]; omega), List.length_take, Nat.min_eq_left hl, List.getElem?_append_left (by omega)]
theorem look_c {cs vs : List Value} {I q : Nat} (h2 : I + vs.length <= q) (hl : I <= cs.length) : (cs.take I ++ vs ++ cs.drop I)[q]? = cs[q - vs.length]? := by
  rw [List.getElem?_append_right (by rw [List.length_append, List.length_take]; omega), List.length_append, List.length_take, Nat.min_eq_left hl, List.getElem?_drop]
  congr 1
  omega
theorem ins_post_shift {w : World} {b off n c m i sz : Nat} {C : Array Value} {t : TypeId} {cs vs : List Value} (hC : w.heap[b]? = some (.cells C t (0, 0))) (hCs : off + c * sz <= C.size) (h1 : ∀ (q : Nat) u, C[q]? = some u -> u.oneCell' = true)
    (hcs : ∀ q, q < n * sz -> C[off + q]? = cs[q]?) (hcl : cs.length = n * sz) (hvl : vs.length = m * sz) (h1v : ∀ u ∈ vs, u.oneCell' = true) (h1c : ∀ u ∈ cs, u.oneCell' = true) (hi : i <= n) (hnm : n + m <= c) :
    Inserted w (some (b, off)) sz (n + m) (cs.take (i * sz) ++ vs ++ cs.drop (i * sz)) (.returned (.slice (some ⟨b, off, none⟩) (n + m) c)) ((w.drew.setCells b (off + (i + m) * sz) (cs.drop (i * sz))).setCells b (off + i * sz) vs) := by
  obtain ⟨C1, a1, a2, a3, a4, a5, a6, a7, a8, a9, a10⟩ := heap_setCells b (cs.drop (i * sz)) (off + (i + m) * sz) w.drew C t hC
  obtain ⟨C2, b1, b2, b3, b4, b5, b6, b7, b8, b9, b10⟩ := heap_setCells b vs (off + i * sz) _ C1 t a1
  have e1 : (i + m) * sz = i * sz + m * sz := Nat.add_mul _ _ _
  have e2 : (n + m) * sz = n * sz + m * sz := Nat.add_mul _ _ _
  have e3 : i * sz <= n * sz := Nat.mul_le_mul_right _ hi
  have e4 : (n + m) * sz <= c * sz := Nat.mul_le_mul_right _ hnm
  have e5 : (cs.drop (i * sz)).length = n * sz - i * sz := by rw [List.length_drop, hcl]
  refine ⟨b, off, c, C2, t, rfl, .inl rfl, hnm, b1, by rw [b2, a2]; exact hCs, fun q u hu => ?_, fun q hq => ?_, by rw [b6, a6]; rfl, by rw [b7, a7]; rfl, by rw [b8, a8]; rfl, by rw [b9, a9]; exact Nat.le_refl _, fun q hq _ => by rw [b10 q hq, a10 q hq]; rfl⟩
  · rcases b5 q u hu with h | h
    · rcases a5 q u h with h | h
      · exact h1 q u h
      · exact h1c u (List.mem_of_mem_drop h)
    · exact h1v u h
  · by_cases h : q < i * sz
    · rw [b3 _ (by omega), a3 _ (by omega), hcs q (by omega), look_a h (by omega)]
    · by_cases h' : q < i * sz + m * sz
      · rw [look_b (by omega) (by omega) (by omega)]
        have hlt : q - i * sz < vs.length := by omega
        have := b4 (q - i * sz) _ (List.getElem?_eq_getElem hlt) (by omega)
        rw [show off + i * sz + (q - i * sz) = off + q by omega] at this
        rw [this, List.getElem?_eq_getElem hlt]
      · rw [look_c (by omega) (by omega), b3 _ (by omega)]
        have hlt : q - (i + m) * sz < (cs.drop (i * sz)).length := by omega
        have := a4 (q - (i + m) * sz) _ (List.getElem?_eq_getElem hlt) (by omega)
        rw [show off + (i + m) * sz + (q - (i + m) * sz) = off + q by omega] at this
        rw [this, <- List.getElem?_eq_getElem hlt, List.getElem?_drop]
        congr 1
        omega
theorem ins_post_end {w : World} {b off n c m sz : Nat} {C : Array Value} {t : TypeId} {cs vs : List Value} (hC : w.heap[b]? = some (.cells C t (0, 0))) (hCs : off + c * sz <= C.size) (h1 : ∀ (q : Nat) u, C[q]? = some u -> u.oneCell' = true)
    (hcs : ∀ q, q < n * sz -> C[off + q]? = cs[q]?) (hcl : cs.length = n * sz) (hvl : vs.length = m * sz) (h1v : ∀ u ∈ vs, u.oneCell' = true) (hnm : n + m <= c) :
    Inserted w (some (b, off)) sz (n + m) (cs.take (n * sz) ++ vs ++ cs.drop (n * sz)) (.returned (.slice (some ⟨b, off, none⟩) (n + m) c)) (w.setCells b (off + n * sz) vs) := by
  obtain ⟨C1, a1, a2, a3, a4, a5, a6, a7, a8, a9, a10⟩ := heap_setCells b vs (off + n * sz) w C t hC
  have e2 : (n + m) * sz = n * sz + m * sz := Nat.add_mul _ _ _
  have e4 : (n + m) * sz <= c * sz := Nat.mul_le_mul_right _ hnm
  refine ⟨b, off, c, C1, t, rfl, .inl rfl, hnm, a1, by rw [a2]; exact hCs, fun q u hu => ?_, fun q hq => ?_, a6, a7, a8, by rw [a9]; exact Nat.le_refl _, fun q hq _ => a10 q hq⟩
  · rcases a5 q u hu with h | h
    · exact h1 q u h
    · exact h1v u h
  · by_cases h : q < n * sz
    · rw [a3 _ (by omega), hcs q (by omega), look_a h (by omega)]
    · rw [look_b (by omega) (by omega) (by omega)]
      have hlt : q - n * sz < vs.length := by omega
      have := a4 (q - n * sz) _ (List.getElem?_eq_getElem hlt) (by omega)
      rw [show off + n * sz + (q - n * sz) = off + q by omega] at this
      rw [this, List.getElem?_eq_getElem hlt]
theorem heap_alloc_old' (w : World) (o : Obj) {q : Nat} (h : q < w.heap.size) : (w.alloc o).heap[q]? = w.heap[q]? := Below.heap_alloc w o q h
theorem heap_alloc_at (w : World) (o : Obj) : (w.alloc o).heap[w.heap.size]? = some o := by
  show (w.heap.push o)[w.heap.size]? = some o
  simp
theorem ins_post_endgrow {w : World} {n G m sz : Nat} {E : TypeId} {Z : Array Value} {cs vs : List Value} {old : Option (Nat × Nat)} (hcl : cs.length = n * sz) (hvl : vs.length = m * sz) (h1v : ∀ u ∈ vs, u.oneCell' = true) (h1c : ∀ u ∈ cs, u.oneCell' = true)
    (hG : n + m <= G) (hZ : Z.size = (G - (n + m)) * sz) (h1Z : ∀ v ∈ Z.toList, v.oneCell' = true) :
    Inserted w old sz (n + m) (cs.take (n * sz) ++ vs ++ cs.drop (n * sz)) (.returned (.slice (some ⟨w.heap.size, 0, none⟩) (n + m) G)) (w.drew.alloc (.cells ((cs ++ vs).toArray ++ Z) E)) := by
  have e2 : (n + m) * sz = n * sz + m * sz := Nat.add_mul _ _ _
  have e4 : (n + m) * sz <= G * sz := Nat.mul_le_mul_right _ hG
  have e5 : (G - (n + m)) * sz = G * sz - (n + m) * sz := Nat.sub_mul _ _ _
  refine ⟨w.heap.size, 0, G, (cs ++ vs).toArray ++ Z, E, rfl, .inr ⟨rfl, rfl⟩, hG, heap_alloc_at w.drew _, by rw [Array.size_append, List.size_toArray, List.length_append, hcl, hvl, hZ]; omega, fun q u hu => ?_, fun q hq => ?_, rfl, rfl, rfl, ?_, fun q hq hlt => heap_alloc_old' w.drew _ hlt⟩
  · rw [Array.getElem?_append] at hu
    split at hu
    · have := List.mem_of_getElem? (show (cs ++ vs)[q]? = some u by simpa using hu)
      rcases List.mem_append.1 this with h | h
      · exact h1c u h
      · exact h1v u h
    · exact h1Z u (by have := Array.mem_of_getElem? hu; exact Array.mem_toList_iff.2 this)
  · rw [Nat.zero_add, Array.getElem?_append, if_pos (by rw [List.size_toArray, List.length_append]; omega), List.getElem?_toArray, List.take_of_length_le (by omega), List.drop_of_length_le (by omega), List.append_nil]
  · exact (BelowE.alloc (BelowE.drew (BelowE.refl (E := fun _ => False) w)) _).size
theorem ins_post_grow {w : World} {n G m i sz : Nat} {E : TypeId} {Z1 Z2 : Array Value} {cs vs : List Value} {old : Option (Nat × Nat)} (hcl : cs.length = n * sz) (hvl : vs.length = m * sz) (h1v : ∀ u ∈ vs, u.oneCell' = true) (h1c : ∀ u ∈ cs, u.oneCell' = true)
    (hi : i <= n) (hG : n + m <= G) (hZ1 : Z1.size = (n + m - i) * sz) (hZ2 : Z2.size = (G - (n + m)) * sz) (h1Z1 : ∀ v ∈ Z1.toList, v.oneCell' = true) (h1Z2 : ∀ v ∈ Z2.toList, v.oneCell' = true) :
    Inserted w old sz (n + m) (cs.take (i * sz) ++ vs ++ cs.drop (i * sz)) (.returned (.slice (some ⟨w.heap.size, 0, none⟩) (n + m) G))
      ((((w.alloc (.cells ((cs.take (i * sz)).toArray ++ Z1 ++ Z2) E)).drew.setCells w.heap.size (i * sz) vs).drew).setCells w.heap.size ((i + m) * sz) (cs.drop (i * sz))) := by
  have e1 : (i + m) * sz = i * sz + m * sz := Nat.add_mul _ _ _
  have e2 : (n + m) * sz = n * sz + m * sz := Nat.add_mul _ _ _
  have e3 : i * sz <= n * sz := Nat.mul_le_mul_right _ hi
  have e4 : (n + m) * sz <= G * sz := Nat.mul_le_mul_right _ hG
  have e5 : (G - (n + m)) * sz = G * sz - (n + m) * sz := Nat.sub_mul _ _ _
  have e6 : (n + m - i) * sz = (n + m) * sz - i * sz := Nat.sub_mul _ _ _
  have e7 : (cs.drop (i * sz)).length = n * sz - i * sz := by rw [List.length_drop, hcl]
  have e8 : (cs.take (i * sz)).length = i * sz := by rw [List.length_take, hcl]; omega
  obtain ⟨R, hR⟩ : ∃ R, R = (cs.take (i * sz)).toArray ++ Z1 ++ Z2 := ⟨_, rfl⟩
  have hRs : R.size = G * sz := by rw [hR, Array.size_append, Array.size_append, List.size_toArray, e8, hZ1, hZ2]; omega
  have h1R : ∀ (q : Nat) u, R[q]? = some u -> u.oneCell' = true := fun q u hu => by
    have hu := Array.mem_of_getElem? hu
    rw [hR] at hu
    rcases Array.mem_append.1 hu with h | h
    · rcases Array.mem_append.1 h with h | h
      · exact h1c u (List.mem_of_mem_take (by simpa using h))
      · exact h1Z1 u (Array.mem_toList_iff.2 h)
    · exact h1Z2 u (Array.mem_toList_iff.2 h)
  have hRg : ∀ q, q < i * sz -> R[q]? = cs[q]? := fun q hq => by
    rw [hR, Array.append_assoc, Array.getElem?_append, if_pos (by rw [List.size_toArray, e8]; exact hq), List.getElem?_toArray, List.getElem?_take, if_pos hq]
  rw [<- hR]
  obtain ⟨C1, a1, a2, a3, a4, a5, a6, a7, a8, a9, a10⟩ := heap_setCells w.heap.size vs (i * sz) (w.alloc (.cells R E)).drew R E (heap_alloc_at w _)
  obtain ⟨C2, b1, b2, b3, b4, b5, b6, b7, b8, b9, b10⟩ := heap_setCells w.heap.size (cs.drop (i * sz)) ((i + m) * sz) (((w.alloc (.cells R E)).drew.setCells w.heap.size (i * sz) vs).drew) C1 E a1
  refine ⟨w.heap.size, 0, G, C2, E, rfl, .inr ⟨rfl, rfl⟩, hG, b1, by rw [b2, a2, hRs]; omega, fun q u hu => ?_, fun q hq => ?_, by rw [b6]; exact a6, by rw [b7]; exact a7, by rw [b8]; exact a8, ?_, fun q hq hlt => ?_⟩
  · rcases b5 q u hu with h | h
    · rcases a5 q u h with h | h
      · exact h1R q u h
      · exact h1v u h
    · exact h1c u (List.mem_of_mem_drop h)
  · rw [Nat.zero_add]
    by_cases h : q < i * sz
    · rw [b3 _ (by omega), a3 _ (by omega), hRg q h, look_a h (by omega)]
    · by_cases h' : q < i * sz + m * sz
      · rw [look_b (by omega) (by omega) (by omega), b3 _ (by omega)]
        have hlt : q - i * sz < vs.length := by omega
        have := a4 (q - i * sz) _ (List.getElem?_eq_getElem hlt) (by omega)
        rw [show i * sz + (q - i * sz) = q by omega] at this
        rw [this, List.getElem?_eq_getElem hlt]
      · rw [look_c (by omega) (by omega)]
        have hlt : q - (i + m) * sz < (cs.drop (i * sz)).length := by omega
        have := b4 (q - (i + m) * sz) _ (List.getElem?_eq_getElem hlt) (by omega)
        rw [show (i + m) * sz + (q - (i + m) * sz) = q by omega] at this
        rw [this, <- List.getElem?_eq_getElem hlt, List.getElem?_drop]
        congr 1
        omega
  · rw [b9]
    show w.heap.size <= ((w.alloc (.cells R E)).drew.setCells w.heap.size (i * sz) vs).heap.size
    rw [a9]
    exact (BelowE.alloc (BelowE.refl (E := fun _ => False) w) _).size
  · rw [b10 q hq]
    show ((w.alloc (.cells R E)).drew.setCells w.heap.size (i * sz) vs).heap[q]? = _
    rw [a10 q hq]
    exact heap_alloc_old' w _ hlt
theorem Fun.insert {P : Program} {f : FuncId} {fn : Func} (hf : P.funcs[f]? = some fn) (hname : (fn.name == "runtime.NumGoroutine") = false) (hbd : fn.body.isNone = false) (sz by_ : Nat)
    (hD : ∀ (old : Option (Nat × Nat)) (y : Value) (n cap i vb voff m vc : Nat) (cs vs : List Value) (w : World),
      ((old = none /\ n = 0 /\ cap = 0 /\ ∃ ad, y = .slice ad 0 0) \/ ∃ b off C t, old = some (b, off) /\ y = .slice (some ⟨b, off, none⟩) n cap /\ n <= cap /\ w.heap[b]? = some (.cells C t (0, 0)) /\ off + cap * sz <= C.size /\ (∀ (q : Nat) u, C[q]? = some u -> u.oneCell' = true) /\ (∀ q, q < n * sz -> C[off + q]? = cs[q]?) /\ vb ≠ b) ->
      i <= n -> 0 < m -> (n + m) * by_ <= 140737488355328 -> cs.length = n * sz -> vs.length = m * sz -> (∃ C2 t2, w.heap[vb]? = some (.cells C2 t2 (0, 0)) /\ ∀ q, q < m * sz -> C2[voff + q]? = vs[q]?) -> (∀ u ∈ cs, u.oneCell' = true) -> (∀ u ∈ vs, u.oneCell' = true) ->
      Calls P f #[y, .int .i64 i, .slice (some ⟨vb, voff, none⟩) m vc] w (Inserted w old sz (n + m) (cs.take (i * sz) ++ vs ++ cs.drop (i * sz))))
    (n i m : Nat) (get getv get' : Nat -> Nat -> AC) (hi : i <= n) (hm : 0 < m) (hbig : (n + m) * by_ <= 140737488355328) (hget : ∀ t, t < n + m -> ∀ q, q < sz -> get' t q = if t < i then get t q else if t < i + m then getv (t - i) q else get (t - m) q)
    (href : ∀ t q, (get t q).ref = []) (hrefv : ∀ t q, (getv t q).ref = []) (hfl : ∀ t q, (get' t q).flat) :
    Fun P f [.c (.os 5 0 n), .c (.v (.int .i64 i)), .c (.os 7 0 m)] [(5, .arr .rw [] n sz get), (7, .arr .rw [] m sz getv)] (.c (.os 64000 0 (n + m))) [(64000, .arr .rw [] (n + m) sz get')] true := by
  refine ⟨⟨fn, hf, hname, hbd⟩, ⟨⟨fun t _ q _ k hk => by rw [href t q] at hk; exact hk, fun t _ q _ k hk => by rw [hrefv t q] at hk; exact hk, tv⟩, fun _ => ⟨trivial, fun t _ q _ => hfl t q, tv⟩⟩, fun vals w I L hH hargs => ?_⟩
  obtain ⟨o, ho⟩ : ∃ o, o = lookO [(5, .arr .rw [] n sz get), (7, .arr .rw [] m sz getv)] := ⟨_, rfl⟩
  have l5 : o 5 = .arr .rw [] n sz get := by rw [ho]; rfl
  have l7 : o 7 = .arr .rw [] m sz getv := by rw [ho]; rfl
  rw [<- ho] at hH hargs ⊢
  have hok5 : obj o (.r 5) = .arr .rw [] n sz get := l5
  have hok7 : obj o (.r 7) = .arr .rw [] m sz getv := l7
  obtain ⟨y, hy, hr0⟩ := hargs.2 0 _ rfl
  obtain ⟨u1, hu1, hr1⟩ := hargs.2 1 _ rfl
  obtain ⟨u2, hu2, hr2⟩ := hargs.2 2 _ rfl
  have hr1 : u1 = .int .i64 i := hr1.1
  have hr0 : Hdr L w (obj o) (.r 5) 0 n y := hr0
  have hr2 : Hdr L w (obj o) (.r 7) 0 m u2 := hr2
  obtain ⟨m2, rs2, N2, sz2, get2, ho2, hh2⟩ := hr2
  rw [hok7] at ho2
  injection ho2 with e1 e2 e3 e4 e5
  subst e1; subst e2; subst e3; subst e4; subst e5
  rcases hh2 with ⟨_, h0, _⟩ | ⟨vb, voff, vc, hL7, hyv2, g1, g2, _, Cv, ev, hCv, g3⟩ | ⟨_, h0, _⟩
  · omega
  rotate_left
  · omega
  rcases (hH.arr hok7).1 with ⟨h4, _⟩ | ⟨vb', voff', Cv', ev', g4, hnI7, hCv', hCsv, hcellv⟩
  · rw [hL7] at h4; cases h4
  rw [hL7] at g4; injection g4 with g4; injection g4 with g5 g6; subst g5; subst g6
  rw [hCv] at hCv'; injection hCv' with hCv'; injection hCv' with g7 g8; subst g7; subst g8
  have hvals : vals = #[y, .int .i64 i, .slice (some ⟨vb, voff, none⟩) m vc] := by
    apply Array.ext_getElem?
    intro q
    match q with
    | 0 => rw [hy]; rfl
    | 1 => rw [hu1, hr1]; rfl
    | 2 => rw [hu2, hyv2]; simp
    | q + 3 =>
      have := hargs.1
      rw [Array.getElem?_eq_none (by simp at this; omega), Array.getElem?_eq_none (by simp)]
  subst hvals
  obtain ⟨vs, hvsd⟩ : ∃ vs, vs = (Cv.toList.drop voff).take (m * sz) := ⟨_, rfl⟩
  have hszv := hCsv.1
  have hvl : vs.length = m * sz := by rw [hvsd, List.length_take, List.length_drop, Array.length_toList]; omega
  have hvg : ∀ q, q < m * sz -> Cv[voff + q]? = vs[q]? := fun q hq => by
    rw [hvsd, List.getElem?_take, if_pos hq, List.getElem?_drop, Array.getElem?_toList]
  have h1v : ∀ u ∈ vs, u.oneCell' = true := fun u hu => by
    obtain ⟨q, hq⟩ := List.mem_iff_getElem?.1 hu
    have hlt := (List.getElem?_eq_some_iff.1 hq).1
    exact hCsv.2 _ u ((hvg q (by omega)).trans hq)
  -- the first array, if there is a block
  obtain ⟨old, cap, cs, hold, hcl, h1c, hO, hoI⟩ : ∃ (old : Option (Nat × Nat)) (cap : Nat) (cs : List Value), ((old = none /\ n = 0 /\ cap = 0 /\ ∃ ad, y = .slice ad 0 0) \/ ∃ b off C t, old = some (b, off) /\ y = .slice (some ⟨b, off, none⟩) n cap /\ n <= cap /\ w.heap[b]? = some (.cells C t (0, 0)) /\ off + cap * sz <= C.size /\ (∀ (q : Nat) u, C[q]? = some u -> u.oneCell' = true) /\ (∀ q, q < n * sz -> C[off + q]? = cs[q]?) /\ vb ≠ b) /\
      cs.length = n * sz /\ (∀ u ∈ cs, u.oneCell' = true) /\ (∀ t, t < n -> ∀ j, j < sz -> ∃ u, cs[t * sz + j]? = some u /\ RelX L I w (obj o) (.r 5) t j (get t j) u) /\ (∀ b x, old = some (b, x) -> L (.r 5) = some (b, x) /\ ¬ I b) := by
    obtain ⟨m', rs, N, sz', get2, ho', hh⟩ := hr0
    rw [hok5] at ho'
    injection ho' with e1 e2 e3 e4 e5
    subst e1; subst e2; subst e3; subst e4; subst e5
    rcases hh with ⟨_, h0, _, _, had, _⟩ | ⟨b, base, cap, hL, hyv, h1, h2, _, C0, e0, hC0, h3⟩ | ⟨hq1, hq2, _⟩
    rotate_right
    · omega
    · subst h0
      exact ⟨none, 0, [], .inl ⟨rfl, rfl, rfl, had⟩, by simp, fun u hu => by simp at hu, fun t ht => absurd ht (by omega), fun b x h => by cases h⟩
    · rcases (hH.arr hok5).1 with ⟨h4, _⟩ | ⟨b', base', C, e, h4, hnI, hC, hCs, hcell⟩
      · rw [hL] at h4; cases h4
      rw [hL] at h4; injection h4 with h4; injection h4 with h5 h6; subst h5; subst h6
      rw [hC0] at hC; injection hC with hC; injection hC with h7 h8; subst h7; subst h8
      have hn : n * sz <= cap * sz := Nat.mul_le_mul_right _ (by omega)
      have hg : ∀ q, q < n * sz -> C0[base + q]? = ((C0.toList.drop base).take (n * sz))[q]? := fun q hq => by
        rw [List.getElem?_take, if_pos hq, List.getElem?_drop, Array.getElem?_toList]
      have hl : ((C0.toList.drop base).take (n * sz)).length = n * sz := by rw [List.length_take, List.length_drop, Array.length_toList]; have := hCs.1; omega
      refine ⟨some (b, base), cap, (C0.toList.drop base).take (n * sz), .inr ⟨b, base, C0, e0, rfl, by rw [hyv]; simp, by omega, hC0, by rw [Nat.zero_add] at h3; exact h3, hCs.2, hg, ?_⟩, hl, fun u hu => ?_, fun t ht j hj => ?_, fun b' x h => ?_⟩
      · rintro rfl
        have := hH.inj (.r 7) (.r 5) vb voff base (by rw [hok7]; simp) (by rw [hok5]; simp) hL7 hL
        cases this
      · obtain ⟨q, hq⟩ := List.mem_iff_getElem?.1 hu
        have hlt := (List.getElem?_eq_some_iff.1 hq).1
        exact hCs.2 _ u ((hg q (by omega)).trans hq)
      · obtain ⟨u, hu, hr⟩ := hcell t ht j hj
        have h9 : (t + 1) * sz <= n * sz := Nat.mul_le_mul_right _ (by omega)
        rw [Nat.add_mul] at h9
        exact ⟨u, (hg _ (by omega)).symm.trans hu, hr⟩
      · injection h with h; injection h with h h'; subst h; subst h'
        exact ⟨hL, hnI rfl⟩
  refine (hD old y n cap i vb voff m vc cs vs w hold hi hm hbig hcl hvl ⟨Cv, ev, hCv, hvg⟩ h1c h1v).mono ?_
  rintro e w' ⟨b, off, c, C, t, rfl, hbb, hnc, hC, hCs, h1C, hCg, hos, htp, hout, hsize, hother⟩
  have hbI : ¬ I b := by
    rcases hbb with h | ⟨h, _⟩
    · exact (hoI b off h).2
    · intro h'; have := hH.imm b h'; omega
  have hbown : w.heap.size <= b \/ ∃ k z, o k ≠ .gone /\ L (.r k) = some (b, z) := by
    rcases hbb with h | ⟨h, _⟩
    · exact .inr ⟨5, off, by rw [l5]; simp, (hoI b off h).1⟩
    · exact .inl (by omega)
  have hbown' : w.heap.size <= b \/ Owned L (obj o) b := by
    rcases hbown with h | ⟨k, z, h1, h2⟩
    · exact .inl h
    · exact .inr ⟨.r k, z, h1, h2⟩
  have hnmc : (n + m) * sz <= c * sz := Nat.mul_le_mul_right _ hnc
  obtain ⟨π, hπd⟩ : ∃ π : Nat -> Nat × Nat, π = fun t => if t < i then (5, t) else if t < i + m then (7, t - i) else (5, t - m) := ⟨_, rfl⟩
  have hπ1 : ∀ t, t < i -> π t = (5, t) := fun t h => by rw [hπd]; exact if_pos h
  have hπ2 : ∀ t, i <= t -> t < i + m -> π t = (7, t - i) := fun t h h' => by rw [hπd]; show (if t < i then _ else _) = _; rw [if_neg (by omega), if_pos h']
  have hπ3 : ∀ t, i + m <= t -> π t = (5, t - m) := fun t h => by rw [hπd]; show (if t < i then _ else _) = _; rw [if_neg (by omega), if_neg (by omega)]
  have hcase : ∀ t, t < i /\ π t = (5, t) \/ (i <= t /\ t < i + m) /\ π t = (7, t - i) \/ i + m <= t /\ π t = (5, t - m) := fun t => by
    by_cases h : t < i
    · exact .inl ⟨h, hπ1 t h⟩
    · by_cases h' : t < i + m
      · exact .inr (.inl ⟨⟨by omega, h'⟩, hπ2 t (by omega) h'⟩)
      · exact .inr (.inr ⟨by omega, hπ3 t (by omega)⟩)
  obtain ⟨hR1, hR2⟩ := HRel.rowsQ (k' := 64000) (w' := w') (n' := n + m) (sz := sz) (get' := get') hH π (some (b, off))
    (fun t t' ht ht' h => by
      rcases hcase t with ⟨h1, h2⟩ | ⟨h1, h2⟩ | ⟨h1, h2⟩ <;> rcases hcase t' with ⟨h3, h4⟩ | ⟨h3, h4⟩ | ⟨h3, h4⟩ <;> rw [h2, h4] at h <;> injection h with h5 h6 <;> omega)
    (fun t ht => by
      rcases hcase t with ⟨h1, h2⟩ | ⟨h1, h2⟩ | ⟨h1, h2⟩ <;> rw [h2]
      · exact ⟨n, get, l5, by show t < n; omega, fun j hj => by rw [hget t ht j hj, if_pos h1]⟩
      · exact ⟨m, getv, l7, by show t - i < m; omega, fun j hj => by rw [hget t ht j hj, if_neg (by omega), if_pos h1.2]⟩
      · exact ⟨n, get, l5, by show t - m < n; omega, fun j hj => by rw [hget t ht j hj, if_neg (by omega), if_neg (by omega)]⟩)
    hsize (fun q hq => hother q (by rintro rfl; exact hbI hq) (hH.imm q hq))
    (fun k t q b' y' hg hl => hother b' (by
      rintro rfl
      rcases hbown with h | ⟨k2, z, h1, h2⟩
      · have := (hH.lt hg hl).1; omega
      · have := hH.inj (.s k t q) (.r k2) b' y' z hg h1 hl h2
        cases this) (hH.lt hg hl).1)
    (.inr ⟨b, off, C, t, rfl, hbI, hC, ⟨by omega, h1C⟩, fun z hz j hj => by
      have h9 : (z + 1) * sz <= (n + m) * sz := Nat.mul_le_mul_right _ (by omega)
      rw [Nat.add_mul] at h9
      rw [hCg _ (by omega)]
      have e1 : (i + m) * sz = i * sz + m * sz := Nat.add_mul _ _ _
      have e3 : i * sz <= n * sz := Nat.mul_le_mul_right _ hi
      rcases hcase z with ⟨h1, h2⟩ | ⟨h1, h2⟩ | ⟨h1, h2⟩ <;> rw [h2]
      · obtain ⟨u, hu, hr⟩ := hO z (by omega) j hj
        have h3 : (z + 1) * sz <= i * sz := Nat.mul_le_mul_right _ (by omega)
        rw [Nat.add_mul] at h3
        refine ⟨u, by rw [look_a (by omega) (by omega)]; exact hu, ?_⟩
        rw [hget z hz j hj, if_pos h1]
        exact hr
      · obtain ⟨u, hu, hr⟩ := hcellv (z - i) (by omega) j hj
        have h3 : i * sz <= z * sz := Nat.mul_le_mul_right _ (by omega)
        have h4 : (z - i) * sz = z * sz - i * sz := Nat.sub_mul _ _ _
        have h5 : (z - i + 1) * sz <= m * sz := Nat.mul_le_mul_right _ (by omega)
        rw [Nat.add_mul] at h5
        refine ⟨u, ?_, ?_⟩
        · rw [look_b (by omega) (by omega) (by omega), show z * sz + j - i * sz = (z - i) * sz + j by omega, <- hvg _ (by omega)]
          exact hu
        · rw [hget z hz j hj, if_neg (by omega), if_pos h1.2]
          exact hr
      · obtain ⟨u, hu, hr⟩ := hO (z - m) (by omega) j hj
        have h3 : (i + m) * sz <= z * sz := Nat.mul_le_mul_right _ (by omega)
        have h4 : (z - m) * sz = z * sz - m * sz := Nat.sub_mul _ _ _
        refine ⟨u, ?_, ?_⟩
        · rw [look_c (by omega) (by omega), hvl, show z * sz + j - m * sz = (z - m) * sz + j by omega]
          exact hu
        · rw [hget z hz j hj, if_neg (by omega), if_neg (by omega)]
          exact hr, hbown⟩)
  refine ⟨_, I, _, rfl, fun b h => h, fun b h _ => .inl h, hR1, ?_, fun q hq hg => ?_, fun id b' x hg hl => ?_, ⟨hos, htp, hout, hsize, fun q hq hno => hother q (by
    rintro rfl
    rcases hbown' with h | h
    · omega
    · exact hno h) hq⟩⟩
  · refine ⟨.rw, [], n + m, sz, get', by show lookO _ 64000 = _; rw [lookO_one, if_pos rfl], .inr (.inl ⟨b, off, c, by simp [layQ], by simp, by omega, by omega, fun c hc => (by cases hc), C, t, hC, by rw [Nat.zero_add]; exact hCs⟩)⟩
  · rw [lookO_one] at hg
    split at hg
    · omega
    · exact (hg rfl).elim
  · rcases hR2 id b' x hg hl with h | ⟨id0, h, h'⟩
    · injection h with h; injection h with h h'; subst h; exact hbown'
    · exact .inr ⟨id0, x, h, h'⟩
def partC (p n : Nat) (g : Nat -> Nat -> AC) : Nat -> Nat -> AC := fun i j => if i = 5000 then g i j else if p <= i /\ i < p + n then (g i j).cp else g i j
theorem partC_of {p n N sz : Nat} {g : Nat -> Nat -> AC} (h : N <= 5000) : ∀ i, i < N -> ∀ j, j < sz -> movC p n g i j = partC p n g i j := by
 intro i hi j hj
 unfold movC partC
 rw [if_neg (show ¬ i = 5000 by omega)]
theorem partC_out {p n i j : Nat} {g : Nat -> Nat -> AC} (h : i < p \/ p + n <= i) : partC p n g i j = g i j := by
 unfold partC
 split
 ·rfl
 ·rw [if_neg (by omega)]
section
variable {α : Type} [Inhabited α]
theorem app_osP {enc : α -> Nat -> AC} {sz N off m : Nat} {l xs lp l2 : List α} (hpl : ∀ x j, plainC (enc x j) = true) (hlp : lp = List.take m (List.drop off xs)) (hm : m = len lp) (hl : l2 = l ++ lp) (hN : N <= len l2) :
  ∀ i, i < N -> ∀ j, j < sz -> joinC (len l) (row gd enc l) (fun i j => (row gd enc xs (off + i) j).cp) i j = row gd enc l2 i j := by
 intro i hi j hj
 have h1 := app_bs (sz := sz) hpl hl hN i hi j hj
 rw [<- h1]
 unfold joinC
 split
 ·rfl
 ·rename_i hlt
  have hs : len l2 = len l + len lp := by rw [hl]; unfold len; exact List.length_append
  show (enc (gd xs (off + (i - len l))) j).cp = (enc (gd lp (i - len l)) j).cp
  rw [part_gd hlp (i := i - len l) (by omega)]
theorem app_mvP {enc : α -> Nat -> AC} {sz N off m : Nat} {l xs lp l2 : List α} {g G : Nat -> Nat -> AC} (hlp : lp = List.take m (List.drop off xs)) (hm : m = len lp) (hl : l2 = l ++ lp) (hN : N <= len l2) (hG : ∀ i, off <= i -> i < off + m -> ∀ j, G i j = row gd enc xs i j) :
  ∀ i, i < N -> ∀ j, j < sz -> joinC (len l) (joinC (len l) (row gd enc l) g) (fun i j => G (off + i) j) i j = row gd enc l2 i j := by
 intro i hi j hj
 have hs : len l2 = len l + len lp := by rw [hl]; unfold len; exact List.length_append
 unfold joinC
 by_cases h : i < len l
 ·rw [if_pos h, if_pos h]
  subst hl
  unfold row gd len at *
  simp only [List.getD_eq_getElem?_getD, List.getElem?_append_left h]
 ·rw [if_neg h]
  show G (off + (i - len l)) j = enc (gd l2 i) j
  rw [hG _ (by omega) (by omega)]
  show enc (gd xs (off + (i - len l))) j = enc (gd l2 i) j
  rw [part_gd hlp (i := i - len l) (by omega)]
  subst hl
  unfold gd len at *
  simp only [List.getD_eq_getElem?_getD]
  rw [List.getElem?_append_right (by omega)]
theorem app_nil_mvP {enc : α -> Nat -> AC} {sz N off m : Nat} {xs lp l2 : List α} {g g2 G : Nat -> Nat -> AC} (hlp : lp = List.take m (List.drop off xs)) (hm : m = len lp) (hl : l2 = ([] : List α) ++ lp) (hN : N <= len l2) (hG : ∀ i, off <= i -> i < off + m -> ∀ j, G i j = row gd enc xs i j) :
  ∀ i, i < N -> ∀ j, j < sz -> joinC 0 (joinC 0 g2 g) (fun i j => G (off + i) j) i j = row gd enc l2 i j := by
 intro i hi j hj
 rw [<- app_mvP (sz := sz) (g := g) hlp hm hl hN hG i hi j hj]
 unfold joinC
 rw [if_neg (by omega), if_neg (by unfold len; simp)]
 rfl
end
section
variable {α : Type} [Inhabited α] {G : {α : Type} -> [Inhabited α] -> List α -> Nat -> α} {s : St}
end
section
variable {P : Program} {T : TT} {w0 w w' : World} {I0 : Fr} {I I' : Nat -> Prop} {L L' : Lay} {s : St} {a : Act} {o : Oper} {ob o' : Obs}
theorem le_nilVb (k j sz : Nat) (g : Nat -> Nat -> AC) {l : List AC} (hk : s.o k = .var l) (hj : l[j]? = some (.v (.slice none 0 0))) : s.le ⟨s.t, updO s.o k (.var (l.set j (.bs 0 sz g)))⟩ := by
 intro w0 I0 a w ⟨L, I, hR⟩
 refine ⟨L, I, hR.setVar hk hj fun y hy => ?_⟩
 have : y = .slice none 0 0 := hy.1
 subst this
 exact ⟨none, 0, rfl, Nat.le_refl _, fun h => by omega⟩
def AC.fzR (S sz : Nat) (g : Nat -> Nat -> AC) : AC -> AC
 | .os k off n => if k = S then (match off with | 0 => .bs n sz g | off => .bs n sz fun a b => g (off + a) b) else .os k off n
 | .ptr k a => if k = S then .junk else .ptr k a
 | .ep k a b => if k = S then .junk else .ep k a b
 | .fn f n caps => .fn f n fun j => if j < n then (caps j).fzR S sz g else caps j
 | x => x
def fzSt (s : St) (S sz : Nat) (g : Nat -> Nat -> AC) : St := ⟨s.t.map (AV.map (AC.fzR S sz g)), fun q => if q = S then .gone else (s.o q).map (AC.fzR S sz g) id fun rs => !rs.contains S⟩
theorem fzR_eq {S sz : Nat} {g g' : Nat -> Nat -> AC} (h : ∀ a b, (g' a b).lentIn = g a b) : ∀ x : AC, x.fz S sz g' = x.fzR S sz g := by
 intro x
 induction x with
 | fn f n caps ih => simp only [AC.fz, AC.fzR]; congr 1; funext j; rw [ih j]
 | os k off n =>
  simp only [AC.fz, AC.fzR]
  split
  ·split
   ·congr 1; funext a b; rw [Nat.zero_add]; exact h a b
   ·congr 1; funext a b; exact h _ b
  ·rfl
 | _ => rfl
theorem le_fz (S : Nat) {m : Md} {N sz : Nat} {g' : Nat -> Nat -> AC} (g : Nat -> Nat -> AC) (hS : s.o S = .arr m [] N sz g') (h : ∀ a b, (g' a b).lentIn = g a b) : s.le (fzSt s S sz g) := by
 have h1 := le_freeze hS
 have e : freezeSt s S = fzSt s S sz g := by
  unfold freezeSt fzSt
  rw [hS]
  simp only
  rw [show AC.fz S sz g' = AC.fzR S sz g from funext (fzR_eq h)]
 rw [e] at h1
 exact h1
end
theorem out_of {off m p n i : Nat} (c : off + m <= p \/ p + n <= off) (h1 : off <= i) (h2 : i < off + m) : i < p \/ p + n <= i := by omega
@[cbv_eval] theorem patchC_self (g : Nat -> Nat -> AC) (i : Nat) (cs : List AC) (b : Nat) : pC g i cs i b = cs.getD b .junk := by simp [pC]
section
variable {s : St}
def exSt (s : St) (k i k0 : Nat) (cs : List AC) (m : Md) (rs : List Nat) (n sz : Nat) (get : Nat -> Nat -> AC) : St :=
 ⟨(s.kill ((exO k0 0 cs).map (·.1))).t, updL ((k, .arr m (rs ++ (exO k0 0 cs).map (·.1)) n sz fun a b => if a = i /\ 0 <= b /\ b < 0 + sz then (exC k0 0 cs).getD (b - 0) .junk else get a b) :: exO k0 0 cs) (s.kill ((exO k0 0 cs).map (·.1))).o⟩
theorem le_expose {m : Md} {rs : List Nat} {n sz : Nat} {get : Nat -> Nat -> AC} (k i k0 : Nat) (cs : List AC) (hk : s.o k = .arr m rs n sz get) (hi : i < n) (hm : m.w = true) (h0 : k0 % 2 = 0)
  (hl : cs.length = sz) (hcs : ∀ j, j < sz -> get i j = cs.getD j .junk) (hids : ((k :: rs).all fun q => !((exO k0 0 cs).map (·.1)).contains q) = true) : s.le (exSt s k i k0 cs m rs n sz get) := by
 intro w0 I0 a w ⟨L, I, hR⟩
 have e : ((List.range sz).map fun q => get i (0 + q)) = cs := by
  apply List.ext_getElem (by simp [hl])
  intro j h1 h2
  rw [List.getElem_map, List.getElem_range, Nat.zero_add, hcs j (by simpa using h1), List.getD_eq_getElem?_getD, List.getElem?_eq_getElem h2]
  rfl
 obtain ⟨L', h, _⟩ := hR.expose (k0 := k0) (i := i) (j := 0) (dz := sz) hk hi (by omega) hm h0 (by
  rw [e]
  intro q hq hc
  have := List.all_eq_true.1 hids q hq
  rw [Bool.not_eq_true', List.contains_eq_mem, decide_eq_false_iff_not] at this
  exact this hc)
 rw [e] at h
 exact ⟨L', I, h⟩
end
section
variable {α β : Type} {r : β} {p q : Prop}
theorem rq {c : Prop} {k : Option β} (f : c -> k = some r -> p) : req c k = some r -> p := fun h => f (oq_ h).1 (oq_ h).2
theorem rl {e : α} {k : α -> Option β} (f : ∀ l, l = e -> k l = some r -> p) : letO e k = some r -> p := fun h => f e rfl h
theorem rz {e : α} {k : α -> Option β} (f : k e = some r -> p) : letO e k = some r -> p := f
theorem rb {x : Option α} {k : α -> Option β} (f : ∀ y, x = some y -> k y = some r -> p) : x.bind k = some r -> p := fun h => let ⟨y, h1, h2⟩ := ob_ h; f y h1 h2
theorem oz {e : α} {k : α -> Option β} (h : letO e k = some r) : k e = some r := h
theorem fk {b : Bool} {x y : Option β} (h1 : x = some r -> p) (h2 : y = some r -> q) : br b x y = some r -> brP b (fun _ => p) (fun _ => q) := fun h => fork (fun hb => h1 (ot hb h)) fun hb => h2 (og hb h)
theorem cu {σ : Type} {x : Option α} {k : α -> Option β} {P Q : σ -> Prop} (S0 : α -> σ) (h1 : ∀ y S, S = S0 y -> x = some y -> P S) (h2 : ∀ y, k y = some r -> Q (S0 y)) : x.bind k = some r -> ∃ S, P S /\ Q S := fun h => let ⟨y, e1, e2⟩ := ob_ h; ⟨S0 y, h1 y _ rfl e1, h2 y e2⟩
theorem ra {c : Prop} {k : Option β} (f : c -> k = some r -> q) (hp : c -> p := by intro c; first | exact c | exact ⟨c, tv⟩) : req c k = some r -> p /\ q := fun h => ⟨hp (oq_ h).1, f (oq_ h).1 (oq_ h).2⟩
theorem rd {c d : Prop} {k : Option β} (f : c -> d -> k = some r -> q) (hp : c -> d -> p := by intro c d; first | exact ⟨c, d⟩ | exact ⟨c, d, tv⟩) : req c (req d k) = some r -> p /\ q := fun h => ⟨hp (oq_ h).1 (oq_ (oq_ h).2).1, f (oq_ h).1 (oq_ (oq_ h).2).1 (oq_ (oq_ h).2).2⟩
theorem ai {A : Prims} {i : Int} {n : Nat} (c : A.inR i n) (hq : q) (hA : std = A := by assumption) (hp : A.nadd 0 (A.toN i) < n -> p := by intro t; first | exact t | exact ⟨t, tv⟩ | exact ⟨t, trivial, tv⟩) : p /\ q := ⟨hp (by subst hA; exact ix_ c), hq⟩
theorem oS {rs : List Nat} {n sz : Nat} {g : Nat -> Nat -> AC} : Ole (.arr .rw rs n sz g) (.arr .rw rs n sz g) := ⟨fun hw => hw, fun c hc => (by cases hc), .inl (List.all_eq_true.2 fun k hk => List.contains_iff_mem.2 hk), rfl, rfl, fun i hi j hj => rfl⟩
theorem oE {rs : List Nat} {n n' sz : Nat} {g : Nat -> Nat -> AC} (h : n = n') : Ole (.arr .rw rs n sz g) (.arr .rw rs n' sz g) := h ▸ oS
theorem lA {s : St} {i : Nat} {x : AV} {l : List (Nat × AV)} (h : leT s i x) (h' : allLe s l) : allLe s ((i, x) :: l) := ⟨h, h'⟩
theorem oA {s : St} {k n n' sz : Nat} {rs : List Nat} {g : Nat -> Nat -> AC} {l : List (Nat × AO)} (h : s.o k = .arr .rw rs n sz g) (hn : n = n') (h' : allOle s l) : allOle s ((k, .arr .rw rs n' sz g) :: l) := ⟨by rw [h, hn]; exact oS, h'⟩
theorem oV {s : St} {k : Nat} {c : List AC} {l : List (Nat × AO)} (h : s.o k = .var c) (h' : allOle s l) : allOle s ((k, .var c) :: l) := ⟨by rw [h]; rfl, h'⟩
theorem gV {s : St} {σ : Ren} {k a : Nat} {c : List AC} {l : List (Nat × AO)} (h0 : Ren.to σ k = some a) (h : Ole (s.o a) ((AO.var c).ren (Ren.to σ))) (h' : gives0 s σ l) : gives0 s σ ((k, .var c) :: l) := ⟨by rw [h0]; exact h, h'⟩
theorem gO {s : St} {σ : Ren} {k a : Nat} {x : AO} {l : List (Nat × AO)} (h0 : Ren.to σ k = some a) (h : Ole (s.o a) (x.ren (Ren.to σ))) (h' : gives0 s σ l) : gives0 s σ ((k, x) :: l) := ⟨by rw [h0]; exact h, h'⟩
theorem zl {s : St} {l : List (Nat × AV)} (t : allLe s l := by (repeat refine lA (AV.le_refl _) ?_); exact trivial) : allLe s l := t
theorem zo {s : St} {l : List (Nat × AO)} (t : allOle s l := by (repeat (first | refine oV rfl ?_ | refine oA rfl rfl ?_ | refine oA rfl (by assumption) ?_)); exact trivial) : allOle s l := t
theorem zq {s : St} {σ : Ren} {l : List (Nat × AO)} (t : gives0 s σ l := by (repeat (first | refine gV rfl rfl ?_ | refine gO rfl oS ?_ | refine gO rfl (oE (by assumption)) ?_)); exact trivial) : gives0 s σ l := t
theorem zb {p : Prop} (t : p := by exact lsp rfl zl zo rfl) : p := t
theorem zc {p : Prop} (t : p := by (repeat refine lc_ (AV.le_refl _) ?_); exact ln_) : p := t
theorem like_ev {o0 o1 : List (Nat × AO)} : ∀ (l : List Nat), (l.all fun k => k % 2 == 0) = true -> likeB o0 o1 l
 | [], _ => trivial
 | k :: l, h => by
  rw [List.all_cons, Bool.and_eq_true] at h
  have h1 : k % 2 = 0 := by simpa using h.1
  exact ⟨fun h2 => by omega, like_ev l h.2⟩
theorem like_tau {d : CallD} (hk : (keysOf d.o1 == d.τ.map (·.1)) = true) (h : (d.τ.all fun p => p.1 % 2 == 0) = true) : likeB d.o0 d.o1 (keysOf d.o1) := by
 refine like_ev _ ?_
 rw [beq_iff_eq.1 hk, List.all_map]
 exact h
theorem fitE {s : St} {args : List AV} {d : CallD} (h1 : AV.les (args.map (AV.map (AC.give (Ren.back d.σ) s.o))) d.args) (h2 : gives0 s d.σ d.o0) (h3 : rwO d.o0 = true)
  (h4 : (keysOf d.o0 == d.σ.map (·.1) && nodupB (d.σ.map (·.1)) && nodupB (d.σ.map (·.2)) && (d.σ.map (·.1)).all (fun k => k % 2 == 1) && closedO (keysOf d.o0) d.o0) = true)
  (h5 : (keysOf d.o1 == d.τ.map (·.1) && nodupB (d.τ.map (·.1)) && nodupB (d.τ.map (·.2)) && closedO (keysOf d.o1) d.o1 && rwO d.o1 && d.r.refs.all (fun k => (keysOf d.o1).contains k)) = true)
  (h6 : (d.τ.all fun p => (p.1 % 2 == 1 && Ren.to d.σ p.1 == some p.2) || (p.1 % 2 == 0 && p.2 % 2 == 0 && !(lentR d.σ s.o args).contains p.2)) = true)
  (h7 : (d.τ.all fun p => p.1 % 2 == 0) = true) (h8 : ((lentR d.σ s.o args).all fun k => (Ren.back d.σ k).isNone && (isVar (s.o k) || isArr (s.o k))) = true) : Fits s args d :=
 ⟨h1, h2, h3, h4, h5, h6, like_tau (by simp only [Bool.and_eq_true] at h5; exact h5.1.1.1.1.1) h7, h8⟩
theorem zk {p : Prop} (t : p := by repeat' first | exact trivial | exact fun _ => rfl | exact fun _ => ⟨Eq.symm (by assumption), rfl, fun _ h => h⟩ | refine And.intro ?_ ?_) : p := t
theorem zf {s : St} {args : List AV} {d : CallD} (t : Fits s args d := by exact fitE zc zq rfl rfl rfl rfl rfl rfl) : Fits s args d := t
theorem zg {s : St} {args : List AV} {d : CallD} (h : AV.les (args.map (AV.map (AC.give (Ren.back d.σ) s.o))) d.args) (t : AV.les (args.map (AV.map (AC.give (Ren.back d.σ) s.o))) d.args -> Fits s args d := by exact fun h => fitE h zq rfl rfl rfl rfl rfl rfl) : Fits s args d := t h
theorem yf {s : St} {args : List AV} {d : CallD} (t : Fits s args d := by exact ⟨zc, zq, rfl, rfl, rfl, rfl, zk, rfl⟩) : Fits s args d := t
theorem stepJ {n : Nat} {F : Nat -> Prop} (h0 : F 0) (h : ∀ j, j < n -> F (j + 1)) : ∀ j, j < n + 1 -> F j
 | 0, _ => h0
 | j + 1, hj => h j (Nat.lt_of_succ_lt_succ hj)
theorem endJ {F : Nat -> Prop} : ∀ j, j < 0 -> F j := fun _ h => (Nat.not_lt_zero _ h).elim
theorem ow1 {n m sz : Nat} {g : Nat -> Nat -> AC} (h : n = m) : AC.ow n sz g = AC.ow m sz g := h ▸ rfl
theorem zr {p : Prop} (t : p := by (repeat refine stepJ (by first | rfl | exact ow1 (by assumption) | exact ow1 (Eq.symm (by assumption))) ?_); exact endJ) : p := t
theorem nd {p : Prop} [Decidable p] (h : decide p = false) : ¬ p := of_decide_eq_false h
theorem yd {p : Prop} [Decidable p] (h : decide p = true) : p := of_decide_eq_true h
theorem zw {p : Prop} (t : p := by (repeat refine stepJ (by first | exact fun _ => rfl | exact fun hh => absurd hh (nd rfl) | exact fun hh => absurd (yd rfl) hh) ?_); exact endJ) : p := t
theorem us {α : Type} [Inhabited α] {A : Prims} {U_ : {α : Type} -> List α -> Nat} {G_ : {α : Type} -> [Inhabited α] -> List α -> Nat -> α} {enc : α -> Nat -> AC} {l l2 : List α} {i : Int} {x : α} {n j0 N sz : Nat} {cs : List AC} (hA : std = A) (hL : @len = @U_) (hG : @gd = @G_) (hl : l2 = l.set (A.nadd 0 (A.toN i)) x) (hc : A.inR i n) (hn : n = U_ l)
  (h1 : ∀ b, b < sz -> j0 <= b /\ b < j0 + cs.length -> cs.getD (b - j0) .junk = enc x b := by exact zw) (h2 : ∀ b, b < sz -> ¬ (j0 <= b /\ b < j0 + cs.length) -> enc (G_ l (A.nadd 0 (A.toN i))) b = enc x b := by exact zw) :
  ∀ a, a < N -> ∀ b, b < sz -> (if a = A.nadd 0 (A.toN i) /\ j0 <= b /\ b < j0 + cs.length then cs.getD (b - j0) .junk else row G_ enc l a b) = row G_ enc l2 a b := by
 subst hA hL hG hn; exact upd_set hl (ix_ hc) h1 h2
theorem oW {rs rs' : List Nat} {n sz : Nat} {g g' : Nat -> Nat -> AC} (h : ∀ i, i < n -> ∀ j, j < sz -> g i j = g' i j) (hr : rs.all (rs'.contains ·) = true := by rfl) : Ole (.arr .rw rs n sz g) (.arr .rw rs' n sz g') := ⟨fun hw => hw, fun c hc => (by cases hc), .inl hr, rfl, rfl, h⟩
theorem oP {rs rs' : List Nat} {n sz : Nat} {g g' : Nat -> Nat -> AC} (hr : ∀ i j, (g' i j).ref = []) (h : ∀ i, i < n -> ∀ j, j < sz -> g i j = g' i j) : Ole (.arr .rw rs n sz g) (.arr .rw rs' n sz g') := ⟨fun hw => hw, fun c hc => (by cases hc), .inr fun i _ j _ z hz => (by rw [hr] at hz; cases hz), rfl, rfl, h⟩
theorem co {k n m : Nat} (h : n = m) : AV.c (.os k 0 n) = AV.c (.os k 0 m) := h ▸ rfl
theorem nl {A : Prims} {U_ : {α : Type} -> List α -> Nat} (hA : std = A) (hL : @len = @U_) {α : Type} {l x y : List α} (h : l = x ++ y) : A.nadd (U_ x) (U_ y) = U_ l := by subst hA hL h; simp [std, len]
theorem nz {A : Prims} {U_ : {α : Type} -> List α -> Nat} (hA : std = A) (hL : @len = @U_) {α : Type} {l y : List α} (h : l = ([] : List α) ++ y) : A.nadd 0 (U_ y) = U_ l := by subst hA hL h; simp [std, len]
theorem dn {p : Prop} (t : p := by injection h with h; subst h; subst hS; show St.le _ _; exact zb) : p := t
theorem dm {p : Prop} (t : p := by injection h with h; refine hK _ h.symm _ ?_; exact zb) : p := t
theorem dx {p : Prop} (t : p := by injection h with h; refine hY _ h.symm _ ?_; exact zb) : p := t
theorem dy {p : Prop} (t : p := by injection h with h; refine hY _ h.symm _ _ (And.intro rfl ?_) (by intro hh; cases hh); exact zb) : p := t
theorem df {p : Prop} (t : p := by injection h with h; subst h; exact ⟨_, St.le_refl _, AV.le_refl _, zo, rfl⟩) : p := t
theorem rg {p : Prop} (t : p := by cbv; first | (revert h; refine fk ?_ ?_ <;> intro h <;> exact rg) | (revert h; refine ra ?_; intro c h; exact rg) | (revert h; refine rd ?_; intro c d h; exact rg) | exact dn) : p := t
end
section
variable {P : Program} {s : St}
theorem rc {f : FuncId} {args args' : List AV} {o0 o1 : List (Nat × AO)} {r : AV} {fl : Bool} {K : CallD -> Prop} (σ τ : Ren) (hf : Fun P f args o0 r o1 fl) (ht : Fits s args' ⟨args, o0, r, o1, fl, σ, τ⟩) (hk : K ⟨args, o0, r, o1, fl, σ, τ⟩) : ∃ d : CallD, Fun P f d.args d.o0 d.r d.o1 d.fl /\ Fits s args' d /\ K d := ⟨_, hf, ht, hk⟩
theorem rk {α β : Type} {x : Option α} {k : α -> Option β} {r0 : β} {f : FuncId} {args args' : List AV} {o0 : List (Nat × AO)} {r : α -> AV} {o1 : α -> List (Nat × AO)} {fl : Bool} {K : CallD -> Prop} (σ τ : Ren) (hf : ∀ y, x = some y -> Fun P f args o0 (r y) (o1 y) fl) (ht : ∀ y, Fits s args' ⟨args, o0, r y, o1 y, fl, σ, τ⟩) (hk : ∀ y, k y = some r0 -> K ⟨args, o0, r y, o1 y, fl, σ, τ⟩) : x.bind k = some r0 -> ∃ d : CallD, Fun P f d.args d.o0 d.r d.o1 d.fl /\ Fits s args' d /\ K d := fun h => let ⟨y, e1, e2⟩ := ob_ h; ⟨_, hf y e1, ht y, hk y e2⟩
theorem rk0 {α β : Type} {x : Option α} {k : α -> Option β} {r0 : β} {f : FuncId} {args args' : List AV} {o0 : List (Nat × AO)} {r : α -> AV} {o1 : α -> List (Nat × AO)} {fl : Bool} {K : CallD -> Prop} (hf : ∀ y, x = some y -> Fun P f args o0 (r y) (o1 y) fl) (hk : ∀ y, k y = some r0 -> K ⟨args, o0, r y, o1 y, fl, [], []⟩) (ht : ∀ y, Fits s args' ⟨args, o0, r y, o1 y, fl, [], []⟩ := by exact fun _ => zf) : x.bind k = some r0 -> ∃ d : CallD, Fun P f d.args d.o0 d.r d.o1 d.fl /\ Fits s args' d /\ K d := rk [] [] hf ht hk
theorem lc {σ ρ β : Type} {r : β} {step : σ -> Option (σ ⊕ ρ)} {x0 : σ} {k : ρ -> Option β} {f : St -> (Exit -> St -> Prop) -> Prop} {K : Exit -> St -> Prop} (S : σ -> St) (R : ρ -> Exit -> St -> Prop) (hle : s.le (S x0))
  (h : ∀ x z, step x = some z -> ∀ K' : Exit -> St -> Prop, (∀ x', z = .inl x' -> ∀ s', s'.le (S x') -> K' .normal s') -> (∀ y', z = .inr y' -> ∀ e s', R y' e s' -> e ≠ .normal -> K' e s') -> f (S x) K')
  (hend : ∀ y, k y = some r -> ∀ e s', R y e s' -> e ≠ .normal -> K e s') : (whileP step x0).bind k = some r -> ∃ s' m, s.le s' /\ iter f m s' K := fun h0 =>
 let ⟨y, e1, e2⟩ := ob_ h0
 loop_cut e1 S hle R h (hend y e2)
theorem ln {σ ρ β : Type} {r : β} {step : σ -> Option (σ ⊕ ρ)} {x0 : σ} {k : ρ -> Option β} {f : St -> (Exit -> St -> Prop) -> Prop} {K : Exit -> St -> Prop} (e : Exit) (S : σ -> St) (R : ρ -> St) (hle : s.le (S x0))
  (h : ∀ x z, step x = some z -> ∀ K' : Exit -> St -> Prop, (∀ x', z = .inl x' -> ∀ s', s'.le (S x') -> K' .normal s') -> (∀ y', z = .inr y' -> ∀ s', s'.le (R y') -> K' e s') -> f (S x) K')
  (hend : ∀ y, k y = some r -> ∀ s', s'.le (R y) -> K e s') (he : e ≠ .normal := by intro hh; cases hh) : (whileP step x0).bind k = some r -> ∃ s' m, s.le s' /\ iter f m s' K := fun h0 =>
 let ⟨y, e1, e2⟩ := ob_ h0
 loop_cut e1 S hle (fun y e' s' => e' = e /\ s'.le (R y)) (fun x z hz K' h1 h2 => h x z hz K' h1 fun y' hy s' hs => h2 y' hy e s' ⟨rfl, hs⟩ he) (fun e' s' hR _ => hR.1 ▸ hend y e2 s' hR.2)
end
section
variable {P : Program} {T : TT} {w0 w w' : World} {I0 : Fr} {I I' : Nat -> Prop} {L L' : Lay} {s : St} {a : Act} {o : Oper} {ob o' : Obs}
theorem append_in_place {t tx e e' ty : TypeId} {i : TypeInfo} {b base n0 cap n : Nat} {yv : Value} {news : List Value} {C : Array Value} (hu : P.underlying t = some (.slice e)) (hi : P.info? e = some i) (hsrc2 : Src P i.size tx yv n news w) (hC : w.heap[b]? = some (.cells C e' (0, 0))) (hroom : n0 + n <= cap) (hfit : base + n0 * i.size + news.length <= C.size) :
  ∃ w', (Builtin.append_ #[t, tx] ty #[.slice (some ⟨b, base, none⟩) n0 cap, yv]).run P w = .ok (.slice (some ⟨b, base, none⟩) (n0 + n) cap) w' := by
 have hstc := run_storeCells_at P b (base + n0 * i.size) e' news 0 C w hC (by simpa using hfit) hsrc2.one
 simp only [Nat.add_zero] at hstc
 refine ⟨w.setRow b (C.toList.take (base + n0 * i.size) ++ news ++ C.toList.drop (base + n0 * i.size + news.length)).toArray, ?_⟩
 rcases hsrc2.kind with ⟨e3, hk3⟩ | hk3 <;> simp [Builtin.append_, run_underlying hu, run_underlying hk3, sizeOf, typeInfo, hi, hsrc2.len, hroom, addr_add, hstc] <;>
  (have hcs := hsrc2.cells; simp [hcs, hstc])
end
def keepRes (ks : List Nat) (k N sz : Nat) (g : Nat -> Nat -> AC) : Res := ⟨True, .c (.os k 0 N), ks, [(k, .arr .rw [] N sz g)]⟩
def keepA (s : St) (d t k N N2 sz : Nat) (g : Nat -> Nat -> AC) : St := ⟨((keepRes [k, k] k N2 sz g).st (some d) s).t.set t (.c (.os k 0 N)), ((keepRes [k, k] k N2 sz g).st (some d) s).o⟩
def keepB (s : St) (d N2 sz : Nat) (g : Nat -> Nat -> AC) : St := (keepRes [site (some d)] (site (some d)) N2 sz g).st (some d) s
section
variable {P : Program} {T : TT} {w0 w w' : World} {I0 : Fr} {I I' : Nat -> Prop} {L L' : Lay} {s : St} {a : Act} {o : Oper} {ob o' : Obs}
theorem put_self {a : Act} {t d : Nat} {u v : Value} (hu : a.tmps[t]? = some u) (h : t ≠ d) : (a.put (some d) v).put (some t) u = a.put (some d) v := by
 unfold Act.put
 simp only
 congr 1
 apply Array.ext_getElem?
 intro q
 rw [Array.getElem?_setIfInBounds]
 have hlt := (Array.getElem?_eq_some_iff.1 hu).1
 split
 ·rename_i hq; subst hq
  rw [Array.getElem?_setIfInBounds, if_neg (Ne.symm h), hu]
  simp [hlt]
 ·rfl
set_option maxHeartbeats 1000000 in
theorem append_keep (hT : TOk P T) (hR : RelL w0 I0 L I s a w) {c : Call} (ho : o.op = .call c) (hc : c.callee = .builtin .append) {t d2 k N N2 : Nat} {get g2 : Nat -> Nat -> AC} {ty tx e : TypeId} {d dx : TD}
  (hxy : c.args.toList.map (ev s) = [.c (.os k 0 N), .c (.os k 0 N)]) {u : Value} (hav : c.args.map a.eval = #[u, u]) (hu : a.tmps[t]? = some u) (ht : s.t[t]? = some (.c (.os k 0 N)))
  (hk : s.o k = .arr .rw [] N d.size get) (hev : k % 2 = 0) (hpl : ∀ i j, plainC (get i j) = true) (hd2 : o.dst = some d2) (htd : t ≠ d2) (hlt : d2 < s.t.length)
  (hat : c.argTypes[0]? = some ty) (hatx : c.argTypes[1]? = some tx) (hel : elemOf T ty = some d) (htx : T tx = some dx) (hdx : dx.und = .slice e)
  (h2 : 0 < d.size) (h3 : 0 < d.bytes) (h4 : (zeroC d).length = d.size) (h5 : (N + N) * d.bytes <= 35184372088832)
  (hN : N + N = N2) (hg : ∀ i, i < N2 -> ∀ j, j < d.size -> joinC N get get i j = g2 i j) :
  ∃ v w', (execOp a.eval o).run P w = .ok (.value v) w' /\ (Rel w0 I0 (keepA s d2 t k N N2 d.size g2) (a.put o.dst v) w' \/ Rel w0 I0 (keepB s d2 N2 d.size g2) (a.put o.dst v) w') := by
 subst hN
 have hdst := hd2
 have hrunv : ∀ v w', (Builtin.append_ #[ty, tx] o.type #[u, u]).run P w = .ok v w' -> (execOp a.eval o).run P w = .ok (.value v) w' := by
  intro v w' h
  have hats : (Builtin.append_ c.argTypes o.type #[u, u]) = (Builtin.append_ #[ty, tx] o.type #[u, u]) := by
   unfold Builtin.append_
   simp [hat, hatx]
  rw [builtin_run ho hc, hav]
  simp [builtin, hats, h]
 -- the element's type
 have hty : ∃ e i, P.underlying ty = some (.slice e) /\ P.info? e = some i /\ i.size = d.size /\ i.bytes = d.bytes /\ i.zero = some d.zero /\ (∀ x ∈ d.zero.cells.toList, x.oneCell' = true) := by
  unfold elemOf at hel
  split at hel
  ·rename_i td htd
   split at hel
   ·rename_i e hu
    obtain ⟨i, h1, h2, h3, h4⟩ := (hT e d hel).2.1
    exact ⟨e, i, by rw [(hT ty td htd).1, hu], h1, h2, h3, h4, (hT e d hel).2.2.1⟩
   ·cases hel
  ·cases hel
 obtain ⟨e, i, hund, hi, hi1, hi2, hi3, hi4⟩ := hty
 have hpl1 : ∀ i j, isOw (get i j) = false := fun i j => by have := hpl i j; cases hx : get i j <;> first | rfl | (rw [hx] at this; cases this)
 have hst : srcT T d c.argTypes (.c (.os k 0 N)) = true := by simp [srcT, hatx, htx, hdx]
 have hcp : ∀ i j, (get i j).cp = get i j := fun i j => plain_cp (hpl i j)
 have hsrc : srcOf std d.size s.o (.c (.os k 0 N)) = some ([], N, d.size, get) := by
  simp only [srcOf, hk]
  congr 4
  funext i j
  rw [Nat.zero_add, hcp]
 obtain ⟨u', hu', hH⟩ := hR.tmps.2 t _ ht
 rw [hu] at hu'; injection hu' with hu'; subst hu'
 have hy : RelV (RelC L I w (obj s.o)) (.c (.os k 0 N)) u := hH
 have hHd : Hdr L w (obj s.o) (.r k) 0 N u := hH
 obtain ⟨⟨tx', news, htx', hsrc', hnews⟩, _⟩ := src_rel hR.heap hT hy hst hsrc rfl h2
 rw [hatx] at htx'; injection htx' with htx'; subst htx'
 have hsrc2 : Src P i.size tx u N news w := by rw [hi1]; exact hsrc'
 have happ : appO std T c.argTypes o.dst (.c (.os k 0 N)) (.c (.os k 0 N)) s.o = { appTo std d [k, k] k [] N get N d.size get with ok := N = N /\ (appTo std d [] k [] N get N d.size get).ok } := by
  unfold appO
  simp only [hat, hel, hst, hsrc, hk, eId, hev]
  simp [Md.w]
 have hok : (appO std T c.argTypes o.dst (.c (.os k 0 N)) (.c (.os k 0 N)) s.o).ok := by
  rw [happ]
  exact ⟨rfl, rfl, h2, h3, h4, h5⟩
 -- where it lies where it was
 have inplace : ∀ v w1, (Builtin.append_ #[ty, tx] o.type #[u, u]).run P w = .ok v w1 -> ((N = 0 /\ v = u) \/ (0 < N /\ ∃ b base cap, u = .slice (some ⟨b, base, none⟩) N cap /\ v = .slice (some ⟨b, base, none⟩) (N + N) cap /\ N + N <= cap)) ->
   Rel w0 I0 (keepA s d2 t k N (N + N) d.size g2) (a.put o.dst v) w1 := by
  intro v w1 hrun hwhere
  obtain ⟨yv, k', rsx, n, sz, get0, get', size, rs', hy', hval, hupd, hsrc3, hpos, v', w', L', hrun', hrel, hk', hvr, _⟩ := op_appendD hT hR ho hc hxy hok
  rw [hrunv v w1 hrun] at hrun'
  injection hrun' with e1 e2; injection e1 with e1; subst e1; subst e2
  rw [happ] at hval hupd hrel
  simp only [appTo, lenOfV, std] at hval hupd
  injection hval with hval; injection hval with g1 g3 g4
  injection hupd with hupd; injection hupd with g5 g6; injection g6 with g6 g7 g8 g9 g10
  subst g1
  subst g7
  have hst1 : Rel w0 I0 ((keepRes [k, k] k (N + N) d.size (joinC N get get)).st (some d2) s) (a.put (some d2) v) w1 := by
   refine ⟨L', I, ?_⟩
   have hrel2 : RelL w0 I0 L' I ⟨(s.kill [k, k]).t, updL [(k, .arr .rw [] (N + n) sz (joinC N get0 get'))] (s.kill [k, k]).o⟩ a w1 := hrel
   have hv0 : RelV (RelC L' I w1 (obj (updL [(k, .arr .rw [] (N + n) sz (joinC N get0 get'))] (s.kill [k, k]).o))) (.c (.os k 0 (N + n))) v := hvr L' _ (joinC N get0 get') rfl (by simp [updL, updO, lenOfV])
   have hh := hrel2.put (some d2) hv0
   have g4' : N + N = N + n := g4
   rw [<- g4'] at hh
   simp only [Res.st, keepRes]
   rw [g10, g9]
   exact hh
  have hst2 : Rel w0 I0 ((keepRes [k, k] k (N + N) d.size g2).st (some d2) s) (a.put (some d2) v) w1 :=
   Rel.wk (r := keepRes [k, k] k (N + N) d.size (joinC N get get)) (u := [(k, .arr .rw [] (N + N) d.size g2)]) ⟨rfl, ⟨rfl, rfl, rfl, rfl, wO hg⟩, tv⟩ hst1
  rw [hdst]
  obtain ⟨L2, I2, hR2⟩ := hst2
  have hls : d2 < (s.kill [k, k]).t.length := by rw [kill_t]; simpa using hlt
  have hat2 : ((keepRes [k, k] k (N + N) d.size g2).st (some d2) s).t[d2]? = some (.c (.os k 0 (N + N))) := by
   simp only [Res.st, keepRes, AM.put]
   rw [List.getElem?_set_self (by simpa using hls)]
  obtain ⟨v2, hv2, hrv⟩ := hR2.tmps.2 d2 _ hat2
  have hlta : d2 < a.tmps.size := by rw [hR.tmps.1]; exact hlt
  have hv2' : v2 = v := by
   unfold Act.put at hv2
   simp only at hv2
   rw [Array.getElem?_setIfInBounds_self_of_lt hlta] at hv2
   injection hv2 with hv2; exact hv2.symm
  subst hv2'
  obtain ⟨m3, rs3, N3, sz3, g3', ho3, hh⟩ := hrv
  have ho3' : ((keepRes [k, k] k (N + N) d.size g2).st (some d2) s).o k = .arr m3 rs3 N3 sz3 g3' := ho3
  have hok2 : ((keepRes [k, k] k (N + N) d.size g2).st (some d2) s).o k = .arr .rw [] (N + N) d.size g2 := by simp [Res.st, keepRes, AM.put, updL, updO]
  rw [hok2] at ho3'; injection ho3' with q1 q2 q3 q4 q5; subst q1; subst q2; subst q3; subst q4; subst q5
  refine ⟨L2, I2, ?_⟩
  have hput := hR2.put (some t) (x := .c (.os k 0 N)) (y := u) (by
   refine ⟨.rw, [], N + N, d.size, g2, hok2, ?_⟩
   rcases hwhere with ⟨hN0, rfl⟩ | ⟨hN0, b, base, cap, rfl, hvv, hcap⟩
   ·rcases hh with ⟨h6, h7, h8, h9, h10, h11⟩ | ⟨b, base, cap, h6, h7, h8, h9, h10, h11⟩ | ⟨h6, _⟩
    ·exact .inl ⟨h6, h7, hN0, rfl, h10, h11⟩
    ·exact .inr (.inl ⟨b, base, cap, h6, by rw [h7]; congr 1; omega, by omega, h9, h10, h11⟩)
    ·omega
   ·rcases hh with ⟨_, h7, _⟩ | ⟨b', base', cap', h6, h7, h8, h9, h10, h11⟩ | ⟨_, h7, _⟩
    ·omega
    ·rw [hvv] at h7
     injection h7 with z1 z2 z3
     injection z1 with z1; injection z1 with z4 z5
     subst z3; subst z4
     exact .inr (.inl ⟨b, base', cap, h6, by rw [z5], by omega, h9, h10, h11⟩)
    ·omega)
  rw [put_self hu htd] at hput
  exact hput
 by_cases hN0 : N = 0
 ·subst hN0
  have hnil : news = [] := by have := hsrc'.newsLen; simpa using this
  subst hnil
  obtain ⟨ad, cap, rfl⟩ : ∃ ad cap, u = .slice ad 0 cap := by
   obtain ⟨_, _, _, _, _, _, hh⟩ := hHd
   rcases hh with ⟨_, _, _, _, ⟨ad, h⟩, _⟩ | ⟨b, base, cap, _, h, _⟩ | ⟨_, _, _, ad, cap, h⟩
   ·exact ⟨ad, 0, h⟩
   ·exact ⟨_, cap, h⟩
   ·exact ⟨ad, cap, h⟩
  have hrun : (Builtin.append_ #[ty, tx] o.type #[.slice ad 0 cap, .slice ad 0 cap]).run P w = .ok (.slice ad 0 cap) w := by
   rcases hsrc2.kind with ⟨e', hk'⟩ | hk' <;> cases ad <;> simp [Builtin.append_, run_underlying hund, run_underlying hk', sizeOf, typeInfo, hi, hsrc2.len, hsrc2.cells, storeCells]
  exact ⟨_, _, hrunv _ _ hrun, .inl (inplace _ _ hrun (.inl ⟨rfl, rfl⟩))⟩
 ·obtain ⟨m0, rs0, N0, sz0, g0, hk0, hh⟩ := hHd
  have hk0' : s.o k = .arr m0 rs0 N0 sz0 g0 := hk0
  rw [hk] at hk0'; injection hk0' with q1 q2 q3 q4 q5; subst q1; subst q2; subst q3; subst q4; subst q5
  rcases hh with ⟨_, h6, _⟩ | ⟨b, base, cap, hL, hxe, h6, h7, _, C, e', hC, h8⟩ | ⟨_, h6, _⟩
  ·exact (hN0 h6).elim
  rotate_left
  ·exact (hN0 h6).elim
  obtain ⟨hO, hrs⟩ := hR.heap.arr hk0
  rcases hO with ⟨h9, _⟩ | ⟨b', base', C', e'', h9, hnI, hC', ⟨hfit, hone⟩, hcell⟩
  ·rw [hL] at h9; cases h9
  rw [hL] at h9; injection h9 with h9; injection h9 with h9 h9'; subst h9; subst h9'
  rw [hC] at hC'; injection hC' with hC'; injection hC' with y1 y2; subst y1; subst y2
  rw [Nat.zero_mul, Nat.add_zero] at hxe
  rw [Nat.zero_add] at h8 h7
  subst hxe
  have hnl := hsrc'.newsLen
  by_cases hroom : N + N <= cap
  ·have hcapm : (N + N) * d.size <= cap * d.size := Nat.mul_le_mul_right _ hroom
   rw [Nat.add_mul] at hcapm
   obtain ⟨w1, hrun⟩ := append_in_place (t := ty) (ty := o.type) (base := base) (cap := cap) hund hi hsrc2 hC hroom (by rw [hi1, hnl]; omega)
   exact ⟨_, _, hrunv _ _ hrun, .inl (inplace _ _ hrun (.inr ⟨by omega, b, base, cap, rfl, rfl, hroom⟩))⟩
  ·have hcapm : N * d.size <= cap * d.size := Nat.mul_le_mul_right _ h7
   have hol : ((C.toList.drop base).take (N * d.size)).length = N * d.size := by simp; omega
   have hget0 : ∀ q, q < N * d.size -> ((C.toList.drop base).take (N * d.size))[q]? = C[base + q]? := by
    intro q hq
    rw [List.getElem?_take, if_pos hq, List.getElem?_drop, Array.getElem?_toList]
   have hfc : (Builtin.firstCells i.size N (.slice (some ⟨b, base, none⟩) N cap)).run P w.drew = .ok ((C.toList.drop base).take (N * d.size)).toArray w.drew := by
    refine run_firstCells_some w.drew i.size N ⟨b, base, none⟩ N cap _ (by rw [hol, hi1]) (fun j v hj => ?_)
    have hlt : j < N * d.size := by have := (List.getElem?_eq_some_iff.1 hj).1; rwa [hol] at this
    rw [hget0 j hlt] at hj
    rw [addr_add]
    have : w.drew.cell? ⟨b, base + j, none⟩ = w.cell? ⟨b, base + j, none⟩ := rfl
    rw [this, cell_of hC]
    exact hj
   have hon : ∀ v ∈ (C.toList.drop base).take (N * d.size), v.oneCell' = true := by
    intro v hv
    obtain ⟨q, hq⟩ := List.getElem?_of_mem hv
    have hlt : q < N * d.size := by have := (List.getElem?_eq_some_iff.1 hq).1; rwa [hol] at this
    rw [hget0 q hlt] at hq
    exact hone _ v hq
   have hoc : ∀ q, q < N -> ∀ j, j < d.size -> ∃ v, ((C.toList.drop base).take (N * d.size))[q * d.size + j]? = some v /\ RelC L I w (obj s.o) (get q j) v := by
    intro q hq j hj
    have hmul : (q + 1) * d.size <= N * d.size := Nat.mul_le_mul_right _ hq
    rw [Nat.add_mul, Nat.one_mul] at hmul
    obtain ⟨v, hv, hr⟩ := hcell q hq j hj
    exact ⟨v, by rw [hget0 _ (by omega)]; exact hv, hr.toC⟩
   revert hfc hon hoc hol
   generalize (C.toList.drop base).take (N * d.size) = olds
   intro hol hfc hon hoc
   have hN35 : N + N <= 35184372088832 := Nat.le_trans (Nat.le_mul_of_pos_right _ h3) h5
   have hz3 : d.zero.cells.size = d.size := by rw [<- h4]; simp [zeroC]
   have hrun := run_append_grow_src w ty tx o.type e i d.zero hund hi hi3 (some ⟨b, base, none⟩) N cap olds hfc (.slice (some ⟨b, base, none⟩) N cap) N news hsrc2 (Nat.lt_of_not_le hroom) (by omega) (by rw [hi2]; exact growslice_fits (Nat.lt_of_not_le hroom) (Nat.le_trans h5 (by decide)))
   have hcapge := grownCap_ge w (N + N) cap e
   revert hrun hcapge
   generalize grownCap w (N + N) cap e = CAP
   intro hrun hcapge
   obtain ⟨ROW, hROW⟩ : ∃ ROW, ROW = (olds ++ news).toArray ++ Builtin.zeroCells d.zero.cells (CAP - (N + N)) := ⟨_, rfl⟩
   have hsize : ROW.size = CAP * d.size := by
    rw [hROW]
    simp only [Array.size_append, List.size_toArray, List.length_append, hol, hnl, size_zeroCells, hz3, <- Nat.add_mul]
    congr 1; omega
   have hget : ∀ q, q < (N + N) * d.size -> ROW[q]? = (olds ++ news)[q]? := by
    intro q hq
    rw [hROW, Array.getElem?_append, if_pos (by simp [hol, hnl, <- Nat.add_mul]; exact hq), List.getElem?_toArray]
   have hone2 : ∀ (q : Nat) u, ROW[q]? = some u -> u.oneCell' = true := by
    intro q u hq
    rw [hROW, Array.getElem?_append] at hq
    split at hq
    ·rw [List.getElem?_toArray] at hq
     have := List.mem_of_getElem? hq
     rw [List.mem_append] at this
     rcases this with h | h
     ·exact hon u h
     ·exact hsrc'.one u h
    ·unfold Builtin.zeroCells at hq
     simp only [Array.getElem?_map, Option.map_eq_some_iff] at hq
     obtain ⟨z, hz, rfl⟩ := hq
     have hlt : z % d.zero.cells.size < d.zero.cells.size := Nat.mod_lt _ (by omega)
     rw [getElem!_pos d.zero.cells _ hlt]
     exact hi4 _ (by simp)
   rw [<- hROW] at hrun
   have hKd : Keeps [] L I w (obj s.o) L I w.drew (obj s.o) := ⟨fun b hb => ⟨hb, rfl⟩, fun k _ hg => ⟨rfl, AO.like_refl _ hg, fun b x C e hL hC => ⟨C, hC, rfl⟩⟩⟩
   have hst2 := hR.drew.app [site o.dst] (site o.dst) (site o.dst) (by simp) (by simp) (site2 _) (m := .rw) (rs := []) (rsx := []) (N := 0) (n := N + N) (sz := d.size) (get := fun _ _ => .junk) (get' := joinC N get get) (.inl rfl) (fun q hq => by cases hq) (fun i hi => absurd hi (by omega))
    (fun i hi j hj => ⟨fun q hq => by unfold joinC at hq; split at hq <;> exact (plain_ref (hpl _ _) hq).elim, by unfold joinC; split <;> exact hpl1 _ _⟩) (w.drew.alloc (.cells ROW e)) (some (w.heap.size, 0))
    (fun b hb => Below.heap_alloc w.drew _ b (hR.heap.imm b hb)) (fun id b y _ hg hL => Below.heap_alloc w.drew _ b (hR.heap.lt hg hL).1) (by simp) (hR.below.drew.alloc _)
    (.inr ⟨w.heap.size, 0, ROW, e, rfl, fun hI => by have := hR.heap.imm _ hI; omega, heap_alloc_new w.drew _, ⟨by rw [hsize, Nat.zero_add, Nat.zero_add]; exact Nat.mul_le_mul_right _ hcapge, hone2⟩, fun q hq => absurd hq (by omega), fun q hq j hj => by
     rw [Nat.zero_add, Nat.zero_add]
     have hmulT : (q + 1) * d.size <= (N + N) * d.size := Nat.mul_le_mul_right _ hq
     rw [Nat.add_mul, Nat.one_mul] at hmulT
     rw [hget _ (by omega)]
     unfold joinC
     by_cases hqN : q < N
     ·have hmul : (q + 1) * d.size <= N * d.size := Nat.mul_le_mul_right _ hqN
      rw [Nat.add_mul, Nat.one_mul] at hmul
      obtain ⟨v, hv, hr⟩ := hoc q hqN j hj
      refine ⟨v, by rw [List.getElem?_append, if_pos (by omega)]; exact hv, ?_⟩
      rw [if_pos hqN]
      have := hKd.moves _ _ hr
      rwa [AC.kill_nil] at this
     ·obtain ⟨v, hv, hr⟩ := hnews (q - N) (by omega) j hj
      have hq2 : N * d.size + (q - N) * d.size = q * d.size := by rw [<- Nat.add_mul]; congr 1; omega
      refine ⟨v, ?_, ?_⟩
      ·rw [List.getElem?_append, if_neg (by omega), <- hv]
       congr 1; omega
      ·rw [if_neg hqN]
       have := hKd.moves _ _ hr
       rwa [AC.kill_nil] at this, .inl (Nat.le_refl _)⟩)
   refine ⟨_, _, hrunv _ _ hrun, .inr ?_⟩
   have hfin := hst2.put o.dst (x := .c (.os (site o.dst) 0 (0 + (N + N)))) (y := .slice (some ⟨w.heap.size, 0, none⟩) (N + N) CAP) (by
    refine ⟨.rw, [], 0 + (N + N), d.size, joinC 0 (fun _ _ => .junk) (joinC N get get), by simp [obj, updL, updO], .inr (.inl ⟨w.heap.size, 0, CAP, layL_r, by simp, by omega, by omega, (fun c hc => by cases hc), ROW, e, heap_alloc_new w.drew _, ?_⟩)⟩
    rw [hsize]; simp)
   have hst1 : Rel w0 I0 ((keepRes [site o.dst] (site o.dst) (0 + (N + N)) d.size (joinC 0 (fun _ _ => .junk) (joinC N get get))).st o.dst s) (a.put o.dst (.slice (some ⟨w.heap.size, 0, none⟩) (N + N) CAP)) (w.drew.alloc (.cells ROW e)) := ⟨_, I, hfin⟩
   rw [Nat.zero_add] at hst1
   have := Rel.wk (r := keepRes [site o.dst] (site o.dst) (N + N) d.size (joinC 0 (fun _ _ => .junk) (joinC N get get))) (u := [(site o.dst, .arr .rw [] (N + N) d.size g2)]) ⟨rfl, ⟨rfl, rfl, rfl, rfl, wO fun i hi j hj => by
    rw [<- hg i hi j hj]
    show (if i < 0 then _ else joinC N get get (i - 0) j) = _
    rw [if_neg (by omega)]; rfl⟩, tv⟩ hst1
   unfold keepB
   rw [<- hdst]
   exact this
theorem keep_sem {P0 : Program} {T : TT} (hT : TOk P0 T) {A : Prims} (hA : std = A) (t d0 d1 d2 k : Nat) {id : Nat} {ops : Array Oper} {s S : St} {o0 o1 o2 : Oper} {rest : List Oper} {c : Call} {ty tx e : TypeId} {d dx : TD} {N N2 : Nat} {get g2 : Nat -> Nat -> AC}
  (h1 : ops.toList = o0 :: o1 :: o2 :: rest) (m0 : o0.dst = some d0 /\ o0.op = .move (.tmp t) /\ o0.guard = none) (m1 : o1.dst = some d1 /\ o1.op = .move (.tmp t) /\ o1.guard = none) (m2 : o2.dst = some d2 /\ o2.op = .call c /\ o2.guard = none)
  (hc : c.callee = .builtin .append /\ c.args.toList = [.tmp d0, .tmp d1] /\ c.argTypes[0]? = some ty /\ c.argTypes[1]? = some tx) (hel : elemOf T ty = some d /\ T tx = some dx /\ dx.und = .slice e)
  (ht : s.t[t]? = some (.c (.os k 0 N))) (hk : s.o k = .arr .rw [] N d.size get) (hn : (k % 2 == 0 && t != d0 && t != d1 && d0 != d1 && t != d2 && Nat.blt d0 s.t.length && Nat.blt d1 s.t.length && Nat.blt d2 s.t.length) = true) (hz : (Nat.blt 0 d.size && Nat.blt 0 d.bytes && (zeroC d).length == d.size) = true)
  (hpl : ∀ i j, plainC (get i j) = true) (hroom : A.room (A.nadd N N) d.bytes) (hN : A.nadd N N = N2) (hg : ∀ i, i < N2 -> ∀ j, j < d.size -> joinC N get get i j = g2 i j)
  (kA : wpOps A P T ops.toList rest (keepA (put (put s (some d0) (.c (.os k 0 N))) (some d1) (.c (.os k 0 N))) d2 t k N N2 d.size g2) fun s' => s'.le S)
  (kB : wpOps A P T ops.toList rest (keepB (put (put s (some d0) (.c (.os k 0 N))) (some d1) (.c (.os k 0 N))) d2 N2 d.size g2) fun s' => s'.le S) (hP : P0 = P := by assumption) : SemR P id ops s S := by
 subst hP
 subst hA
 simp only [Bool.and_eq_true, beq_iff_eq, bne_iff_ne, Nat.blt_eq] at hn hz
 obtain ⟨⟨⟨⟨⟨⟨⟨hev, n0⟩, n1⟩, n01⟩, n2⟩, l0⟩, l1⟩, l2⟩ := hn
 obtain ⟨⟨z1, z2⟩, z3⟩ := hz
 obtain ⟨m0a, m0b, m0c⟩ := m0
 obtain ⟨m1a, m1b, m1c⟩ := m1
 obtain ⟨m2a, m2b, m2c⟩ := m2
 obtain ⟨c1, c2, c3, c4⟩ := hc
 obtain ⟨e1, e2, e3⟩ := hel
 intro w0 I0 a w Q hR hQ
 obtain ⟨L, I, hR⟩ := hR
 obtain ⟨u, hu, hrel⟩ := hR.tmps.2 t _ ht
 have hQ' : ∀ s' a' w', Rel w0 I0 s' a' w' -> s'.le S -> Q .normal a' w' := fun s' a' w' hR' hle => hQ _ _ _ _ (hle _ _ _ _ hR') ⟨rfl, rfl⟩
 have hlt : t < a.tmps.size := (Array.getElem?_eq_some_iff.1 hu).1
 have hsz : a.tmps.size = s.t.length := hR.tmps.1
 refine wp_region ?_
 rw [List.range_eq_range', <- Array.length_toList, h1]
 have g0 : ops[0]? = some o0 := by rw [<- Array.getElem?_toList, h1]; rfl
 have g1 : ops[1]? = some o1 := by rw [<- Array.getElem?_toList, h1]; rfl
 have g2' : ops[2]? = some o2 := by rw [<- Array.getElem?_toList, h1]; rfl
 have wn : ∀ (o : Oper) v, o.guard = none -> Region.wanted o v = true := fun o v h => by simp [Region.wanted, h]
 -- the first copy
 have E0 : a.eval (.tmp t) = u := by unfold Act.eval; simp [Array.getD_eq_getD_getElem?, hu]
 have R1 := hR.put (some d0) hrel
 have u1 : (a.put (some d0) u).tmps[t]? = some u := by
  unfold Act.put; simp only; rw [Array.getElem?_setIfInBounds, if_neg (Ne.symm n0)]; exact hu
 have E1 : (a.put (some d0) u).eval (.tmp t) = u := by unfold Act.eval; simp [Array.getD_eq_getD_getElem?, u1]
 have R2 := R1.put (some d1) (x := .c (.os k 0 N)) (y := u) hrel
 have s1 : (a.put (some d0) u).tmps.size = a.tmps.size := by unfold Act.put; simp
 obtain ⟨a2, ha2⟩ : ∃ a2, a2 = (a.put (some d0) u).put (some d1) u := ⟨_, rfl⟩
 have u2 : a2.tmps[t]? = some u := by
  rw [ha2]; unfold Act.put; simp only; rw [Array.getElem?_setIfInBounds, if_neg (Ne.symm n1)]; exact u1
 have v0 : a2.tmps[d0]? = some u := by
  rw [ha2]
  show ((a.tmps.setIfInBounds d0 u).setIfInBounds d1 u)[d0]? = some u
  rw [Array.getElem?_setIfInBounds, if_neg (Ne.symm n01), Array.getElem?_setIfInBounds, if_pos rfl]
  simp; omega
 have v1 : a2.tmps[d1]? = some u := by
  rw [ha2]
  show ((a.tmps.setIfInBounds d0 u).setIfInBounds d1 u)[d1]? = some u
  rw [Array.getElem?_setIfInBounds, if_pos rfl]
  simp; omega
 have F0 : a2.eval (.tmp d0) = u := by unfold Act.eval; simp [Array.getD_eq_getD_getElem?, v0]
 have F1 : a2.eval (.tmp d1) = u := by unfold Act.eval; simp [Array.getD_eq_getD_getElem?, v1]
 rw [<- ha2] at R2
 obtain ⟨s2, hs2⟩ : ∃ s2, s2 = put (put s (some d0) (.c (.os k 0 N))) (some d1) (.c (.os k 0 N)) := ⟨_, rfl⟩
 rw [<- hs2] at kA kB R2
 have hav : c.args.map a2.eval = #[u, u] := by
  have : c.args = #[.tmp d0, .tmp d1] := by rw [<- Array.toList_inj, c2]
  rw [this]; simp [F0, F1]
 have hxy : c.args.toList.map (ev s2) = [.c (.os k 0 N), .c (.os k 0 N)] := by
  rw [c2, hs2]
  simp only [List.map_cons, List.map_nil, ev, AM.put]
  rw [List.getD_eq_getElem?_getD, List.getD_eq_getElem?_getD, List.getElem?_set_ne (Ne.symm n01), List.getElem?_set_self l0, List.getElem?_set_self (by rw [List.length_set]; exact l1)]
  rfl
 have ht2 : s2.t[t]? = some (.c (.os k 0 N)) := by
  rw [hs2]
  simp only [AM.put]
  rw [List.getElem?_set_ne (Ne.symm n1), List.getElem?_set_ne (Ne.symm n0)]; exact ht
 have hk2 : s2.o k = .arr .rw [] N d.size get := by rw [hs2]; exact hk
 have l2' : d2 < s2.t.length := by rw [hs2]; simp only [AM.put, List.length_set]; exact l2
 obtain ⟨v, w', hrun, hrr⟩ := append_keep hT R2 m2b c1 hxy hav u2 ht2 hk2 hev hpl m2a n2 l2' c3 c4 e1 e2 e3 z1 z2 z3 (by rw [<- hN] at hg; exact hroom) hN hg
 have hcont : Go.wpOps P0 ops Q (List.range' 3 rest.length) (a2.put o2.dst v) w' := by
  have hl : ∀ j, rest[j]? = ops[3 + j]? := fun j => by
   rw [<- Array.getElem?_toList, h1, Nat.add_comm 3 j]; rfl
  rcases hrr with hrr | hrr
  ·exact ops_sound hT hQ' rest 3 _ _ _ hl hrr kA
  ·exact ops_sound hT hQ' rest 3 _ _ _ hl hrr kB
 simp only [List.length_cons, List.range'_succ, Go.wpOps, g0, g1, g2', wn _ _ m0c, wn _ _ m1c, wn _ _ m2c, if_true]
 refine .inl ?_
 unfold Oper.wp
 rw [run_move (.inl m0b), E0, Oper.upon_value, m0a]
 refine .inl ?_
 rw [run_move (.inl m1b), E1, Oper.upon_value, m1a, <- ha2]
 refine .inl ?_
 rw [hrun, Oper.upon_value]
 exact hcont
end
section
variable {α : Type} [Inhabited α]
theorem join_self {A : Prims} {U_ : {α : Type} -> List α -> Nat} {G_ : {α : Type} -> [Inhabited α] -> List α -> Nat -> α} (hA : std = A) (hL : @len = @U_) (hG : @gd = @G_) {enc : α -> Nat -> AC} {sz : Nat} (hpl : ∀ x j, plainC (enc x j) = true) {l l2 : List α} (h : l2 = l ++ l) :
  A.nadd (U_ l) (U_ l) = U_ l2 /\ ∀ i, i < U_ l2 -> ∀ j, j < sz -> joinC (U_ l) (row G_ enc l) (row G_ enc l) i j = row G_ enc l2 i j := by
 subst hA hL hG
 refine ⟨by subst h; simp [std, len], fun i hi j hj => ?_⟩
 have := app_bs (enc := enc) (sz := sz) hpl h (Nat.le_refl _) i hi j hj
 rw [<- this]
 unfold joinC
 split
 ·rfl
 ·exact (plain_cp (hpl _ _)).symm
omit [Inhabited α] in
theorem keep_tail {U_ : {α : Type} -> List α -> Nat} (hL : @len = @U_) {l l2 : List α} (h : l2 = l ++ l) : l = List.take (U_ l) (List.drop 0 l2) := by
 subst hL h
 simp [len]
end
theorem lR (x : AV) : x.le x := AV.le_refl x

end
end Go.Proofs.YtfoefnkbiofejaaGreat.AM
