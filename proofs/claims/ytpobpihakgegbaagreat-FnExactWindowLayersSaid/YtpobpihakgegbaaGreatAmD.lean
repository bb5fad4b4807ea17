/-
  THE ABSTRACT MACHINE, FOURTH PART: regions that draw their order. No condition.
-/
import Derived.Test.YtpobpihakgegbaaGreatAmC
namespace Go.Proofs.YtpobpihakgegbaaGreat.AM
open Go Go.Proofs Go.RowKit
set_option linter.unusedVariables false
set_option linter.unusedSimpArgs false
set_option maxRecDepth 100000

section
variable {P : Program} {T : TT} {w0 w w' : World} {I0 : Fr} {I I' : Nat → Prop} {L L' : Lay} {s : St} {a : Act} {o : Oper} {ob o' : Obs}

theorem dead_sound (hR : Rel w0 I0 s a w) {ops : Array Oper} {j : Nat} (h : deadG ops.toList s j = true) : yielded ops a.tmps j = none := by
 unfold deadG at h
 split at h
 ·rename_i o ho
  split at h
  ·rename_i d hd
   split at h
   ·rename_i hq
    obtain ⟨L, I, hR⟩ := hR
    rw [List.getD_eq_getElem?_getD] at hq
    cases hx : s.t[d]? with
    | none =>
     rw [Array.getElem?_toList] at ho
     have : a.tmps[d]? = none := by rw [List.getElem?_eq_none_iff] at hx; rw [Array.getElem?_eq_none_iff, hR.tmps.1]; exact hx
     simp [yielded, ho, hd, this]
    | some u =>
     rw [hx] at hq
     simp at hq
     subst hq
     obtain ⟨v, hv, ys, rfl, _, _⟩ := hR.tmps.2 d _ hx
     rw [Array.getElem?_toList] at ho
     simp [yielded, ho, hd, hv]
   ·cases h
  ·cases h
 ·cases h
theorem yld_sound (hR : Rel w0 I0 s a w) {ops : Array Oper} {j d : Nat} {b : Bool} (h : yld ops.toList s j = some (d, b)) : yielded ops a.tmps j = some b ∧ Rel w0 I0 (setTB s d b) a w := by
 unfold yld at h
 split at h
 ·rename_i o ho
  split at h
  ·rename_i d' hd
   split at h
   ·rename_i b' hb
    injection h with h; injection h with h1 h2; subst h1; subst h2
    obtain ⟨L, I, hR⟩ := hR
    have hev := ev_rel hR.tmps (.tmp d')
    simp only [ev] at hev
    have hv : a.eval (.tmp d') = .bool b' := by
     unfold boolOf at hb
     split at hb
     ·rename_i q hq
      injection hb with hb; subst hb
      rw [hq] at hev
      exact hev.1
     ·cases hb
    simp only [Act.eval] at hv
    have hlt : a.tmps[d']? = some (.bool b') := by
     rw [Array.getD_eq_getD_getElem?] at hv
     cases hq : a.tmps[d']? with
     | none => rw [hq] at hv; cases hv
     | some u => rw [hq] at hv; simp at hv; rw [hv]
    refine ⟨?_, L, I, ⟨hR.heap, ?_, hR.defers, hR.below, hR.old, hR.only, hR.new, hR.kept⟩⟩
    ·rw [Array.getElem?_toList] at ho
     simp [yielded, ho, hd, hlt]
    ·have := hR.tmps.set d' (x := .c (.v (.bool b'))) (y := .bool b') ⟨rfl, rfl⟩
     have e : a.tmps.setIfInBounds d' (.bool b') = a.tmps := by
      apply Array.ext_getElem?
      intro i
      rw [Array.getElem?_setIfInBounds]
      split
      ·rename_i hi; subst hi; rw [hlt]; simp [(Array.getElem?_eq_some_iff.1 hlt).1]
      ·rfl
     rw [e] at this
     exact this
   ·cases h
  ·cases h
 ·cases h
theorem ops_sound (hT : TOk P T) {ops : Array Oper} {Q : Exit → Act → World → Prop} {K : St → Prop} (hQ : ∀ s' a' w', Rel w0 I0 s' a' w' → K s' → Q .normal a' w') :
  ∀ (l : List Oper) (k : Nat) (s : St) (a : Act) (w : World), (∀ j, l[j]? = ops[k + j]?) → Rel w0 I0 s a w → wpOps std P T ops.toList l s K → Go.wpOps P ops Q (List.range' k l.length) a w
 | [], k, s, a, w, hl, hR, h => hQ _ _ _ hR h
 | o :: r, k, s, a, w, hl, hR, h => by
  have ho : ops[k]? = some o := by have := hl 0; simpa using this.symm
  have hr : ∀ j, r[j]? = ops[k + 1 + j]? := fun j => by
   have := hl (j + 1)
   rw [List.getElem?_cons_succ] at this
   rw [this]; congr 1; omega
  simp only [List.length_cons, List.range'_succ, Go.wpOps, ho]
  unfold wpOps at h
  split at h
  ·rename_i hg
   have hw : Region.wanted o (yielded ops a.tmps) = true := by simp [Region.wanted, hg]
   rw [if_pos hw]
   exact .inl (wpOne_sound hT hR h fun s' a' w' hR' hK => ops_sound hT hQ r (k + 1) s' a' w' hr hR' hK)
  ·rename_i j want hg
   split at h
   ·rename_i hdead
    have hyl := dead_sound hR hdead
    have hwe : Region.wanted o (yielded ops a.tmps) = false := by simp [Region.wanted, hg, hyl]
    rw [if_neg (by rw [hwe]; simp)]
    obtain ⟨L, I, hR'⟩ := hR
    exact ops_sound hT hQ r (k + 1) _ _ w hr ⟨L, I, hR'.put o.dst (x := .tup []) (y := undef) ⟨#[], rfl, rfl, fun i x hx => by simp at hx⟩⟩ h
   split at h
   ·rename_i d b hy
    obtain ⟨hyl, hR'⟩ := yld_sound hR hy
    have hwe : Region.wanted o (yielded ops a.tmps) = (b == want) := by simp [Region.wanted, hg, hyl]
    by_cases hbw : b = want
    ·subst hbw
     rw [if_pos (by rw [hwe]; simp)]
     exact .inl (wpOne_sound hT hR' (brW_yes h rfl) fun s' a' w' hR' hK => ops_sound hT hQ r (k + 1) s' a' w' hr hR' hK)
    ·rw [if_neg (by rw [hwe]; simpa using hbw)]
     have hb : b = !want := by cases b <;> cases want <;> simp_all
     have h2 := brW_no h hb
     rw [← hb] at h2
     obtain ⟨L, I, hR'⟩ := hR'
     exact ops_sound hT hQ r (k + 1) _ _ w hr ⟨L, I, hR'.put o.dst (x := .tup []) (y := undef) ⟨#[], rfl, rfl, fun i x hx => by simp at hx⟩⟩ h2
   ·exact h.elim
theorem setB_rel (hR : Rel w0 I0 s a w) {c : Operand} {b : Bool} (hb : boolOf (ev s c) = some b) : a.eval c = .bool b ∧ Rel w0 I0 (setB s c b) a w := by
 obtain ⟨L, I, hR⟩ := hR
 have hev := ev_rel hR.tmps c
 have hv : a.eval c = .bool b := by
  unfold boolOf at hb
  split at hb
  ·rename_i q hq
   injection hb with hb; subst hb
   rw [hq] at hev
   exact hev.1
  ·cases hb
 refine ⟨hv, L, I, ?_⟩
 unfold setB
 split
 ·rename_i t ht
  cases c with
  | tmp t' =>
   simp only [tmpOf, Option.some.injEq] at ht
   subst ht
   simp only [Act.eval] at hv
   have hlt : a.tmps[t']? = some (.bool b) := by
    rw [Array.getD_eq_getD_getElem?] at hv
    cases hq : a.tmps[t']? with
    | none => rw [hq] at hv; cases hv
    | some u => rw [hq] at hv; simp at hv; rw [hv]
   refine ⟨hR.heap, ?_, hR.defers, hR.below, hR.old, hR.only, hR.new, hR.kept⟩
   have := hR.tmps.set t' (x := .c (.v (.bool b))) (y := .bool b) ⟨rfl, rfl⟩
   have e : a.tmps.setIfInBounds t' (.bool b) = a.tmps := by
    apply Array.ext_getElem?
    intro i
    rw [Array.getElem?_setIfInBounds]
    split
    ·rename_i hi; subst hi; rw [hlt]; simp [(Array.getElem?_eq_some_iff.1 hlt).1]
    ·rfl
   rw [e] at this
   exact this
  | _ => cases ht
 ·exact hR
end
structure Eff where
 val : AV
 kills : List Nat
 upds : List (Nat × AO)
 ex : List Nat
def Eff.app (e : Eff) (d : Option Nat) (s : St) : St := AM.put ⟨(s.kill e.kills).t, updL e.upds (s.kill e.kills).o⟩ d e.val
def Res.eff (r : Res) (ex : List Nat) : Eff := ⟨r.val, r.kills, r.upds, ex⟩
theorem Eff.app_eq (e : Eff) (d : Option Nat) (s : St) : e.app d s = AM.put ⟨s.t.map (AV.kill e.kills), updL e.upds (killO e.kills s.o)⟩ d e.val := by
 unfold Eff.app; rw [kill_t]
section
variable {A : Prims} {T : TT} {s s' : St}
theorem allParts_frame : ∀ (ps : List (Nat × Operand)), (∀ x ∈ ps.map (·.2), ev s' x = ev s x) → allParts s' ps = allParts s ps
 | [], _ => rfl
 | (i, x) :: r, h => by
  unfold allParts
  rw [h x (by simp), allParts_frame r (fun y hy => h y (by simp at hy ⊢; exact .inr hy))]
theorem capsOf_frame : ∀ (ps : List Operand), (∀ x ∈ ps, ev s' x = ev s x) → capsOf s' ps = capsOf s ps
 | [], _ => rfl
 | x :: r, h => by
  unfold capsOf
  rw [h x (by simp), capsOf_frame r (fun y hy => h y (by simp [hy]))]
theorem srcOf_frame {sz : Nat} {o o' : Nat → AO} {y : AV} (h : ∀ k ∈ y.refs, o' k = o k) : srcOf A sz o' y = srcOf A sz o y := by
 unfold srcOf
 split <;> try rfl
 rename_i k off n
 rw [h k (by simp [AV.refs, AV.refs1, AC.ref])]
theorem movOf_frame {y : AV} {o o' : Nat → AO} (hy : ∀ k ∈ y.refs, o' k = o k) : movOf o' y = movOf o y := by
 unfold movOf
 split
 ·rename_i k off n0
  rw [hy k (by simp [AV.refs, AV.refs1, AC.ref])]
 ·rfl
theorem appA_frame {ats : Array TypeId} {dst : Option Nat} {x y : AV} {o o' : Nat → AO} (hx : ∀ k ∈ x.refs, o' k = o k) (hy : ∀ k ∈ y.refs, o' k = o k) : appA A T ats dst x y o' = appA A T ats dst x y o := by
 unfold appA
 rw [movOf_frame hy]
 congr 1
 unfold appO
 split; · rfl
 split; · rfl
 split; · rfl
 rw [srcOf_frame hy]
 split; · rfl
 split
 ·rename_i k off n0
  rw [hx k (by simp [AV.refs, AV.refs1, AC.ref])]
 ·rfl
 ·rfl
theorem evalOp_frame (o : Oper) (h1 : ∀ x ∈ o.op.operands.toList, ev s' x = ev s x) (h2 : ∀ x ∈ o.op.operands.toList, ∀ k ∈ (ev s x).refs, s'.o k = s.o k) : evalOp A T o s' = evalOp A T o s := by
 unfold evalOp
 cases ho : o.op with
 | move x => rw [ho] at h1; simp only; rw [h1 x (by simp [Op.operands])]
 | assign x => rw [ho] at h1; simp only; rw [h1 x (by simp [Op.operands])]
 | pick c x y => rw [ho] at h1; simp only; rw [h1 c (by simp [Op.operands]), h1 x (by simp [Op.operands]), h1 y (by simp [Op.operands])]
 | alloc e => rfl
 | box e x => rw [ho] at h1; simp only; rw [h1 x (by simp [Op.operands])]
 | build t ps => rw [ho] at h1; simp only; rw [allParts_frame ps.toList (fun x hx => h1 x (by simpa [Op.operands] using hx))]
 | buildSlice t n ps => rw [ho] at h1; simp only; rw [allParts_frame ps.toList (fun x hx => h1 x (by simpa [Op.operands] using hx))]
 | load t x =>
  rw [ho] at h1 h2
  have hx := h1 x (by simp [Op.operands])
  have hk := h2 x (by simp [Op.operands])
  simp only; rw [hx]
  revert hk
  cases ev s x with
  | c q => cases q <;> intro hk <;> first | rfl | (simp only [AV.refs, AV.refs1, AC.ref, List.mem_singleton, forall_eq] at hk; simp only [hk])
  | agg l => intro _; rfl
  | tup l => intro _; rfl
  | any => intro _; rfl
 | store t x y =>
  rw [ho] at h1 h2
  have hx := h1 x (by simp [Op.operands])
  have hy := h1 y (by simp [Op.operands])
  have hk := h2 x (by simp [Op.operands])
  simp only; rw [hx, hy]
  revert hk
  cases ev s x with
  | c q => cases q <;> intro hk <;> first | rfl | (simp only [AV.refs, AV.refs1, AC.ref, List.mem_singleton, forall_eq] at hk; simp only [hk])
  | agg l => intro _; rfl
  | tup l => intro _; rfl
  | any => intro _; rfl
 | nilCheck x => rw [ho] at h1; simp only; rw [h1 x (by simp [Op.operands])]
 | binOp op t x y t' => rw [ho] at h1; simp only; rw [h1 x (by simp [Op.operands]), h1 y (by simp [Op.operands])]
 | unOp op t x => rw [ho] at h1; simp only; rw [h1 x (by simp [Op.operands])]
 | convert t t' x =>
  rw [ho] at h1 h2
  have hk := h2 x (by simp [Op.operands])
  simp only [convA]; rw [h1 x (by simp [Op.operands])]
  cases T t with
  | none => rfl
  | some d =>
   cases T t' with
   | none => rfl
   | some d' =>
    simp only
    split <;> try rfl
    rename_i k _ _ _ hex
    rw [hk k (by rw [hex]; simp [AV.refs, AV.refs1, AC.ref])]
 | makeFunc fn f cs =>
  cases fn with
  | func g => rw [ho] at h1; simp only; rw [capsOf_frame cs.toList (fun x hx => h1 x (by simp [Op.operands, hx]))]
  | _ => rfl
 | slice t x lo hi mx =>
  rw [ho] at h1 h2
  have hm : ∀ (p : Option Operand), (∀ y, p = some y → y ∈ (Op.slice t x lo hi mx).operands.toList) → p.map (ev s') = p.map (ev s) := by
   intro p hp
   cases p with
   | none => rfl
   | some y => simp only [Option.map_some]; rw [h1 y (hp y rfl)]
  have hk := h2 x (by simp [Op.operands])
  simp only
  rw [h1 x (by simp [Op.operands]), hm lo (fun y hy => by subst hy; simp [Op.operands]), hm hi (fun y hy => by subst hy; simp [Op.operands]), hm mx (fun y hy => by subst hy; simp [Op.operands])]
  cases T t with
  | none => rfl
  | some d =>
   simp only
   split <;> try rfl
   rename_i k _ _ _ hex _
   rw [hk k (by rw [hex]; simp [AV.refs, AV.refs1, AC.ref])]
 | makeSlice t x y => rw [ho] at h1; simp only; rw [h1 x (by simp [Op.operands]), h1 y (by simp [Op.operands])]
 | fieldAddr t x f => rw [ho] at h1; simp only; rw [h1 x (by simp [Op.operands])]
 | field t x f => rw [ho] at h1; simp only; rw [h1 x (by simp [Op.operands])]
 | indexAddr t x i =>
  rw [ho] at h1 h2
  have hx := h1 x (by simp [Op.operands])
  have hy := h1 i (by simp [Op.operands])
  have hk := h2 x (by simp [Op.operands])
  simp only; rw [hx, hy]
  revert hk
  cases ev s x with
  | c q => cases q <;> intro hk <;> first | rfl | (simp only [AV.refs, AV.refs1, AC.ref, List.mem_singleton, forall_eq] at hk; simp only [hk])
  | agg l => intro _; rfl
  | tup l => intro _; rfl
  | any => intro _; rfl
 | index t x i => rw [ho] at h1; simp only; rw [h1 x (by simp [Op.operands]), h1 i (by simp [Op.operands])]
 | extract x i => rw [ho] at h1; simp only; rw [h1 x (by simp [Op.operands])]
 | call c =>
  rw [ho] at h1 h2
  simp only
  have hks : ∀ v ∈ c.args.toList.map (ev s), ∀ k ∈ v.refs, s'.o k = s.o k := by
   intro v hv k hk
   obtain ⟨x, hx, rfl⟩ := List.mem_map.1 hv
   exact h2 x (by simp [Op.operands, Call.operands, hx]) k hk
  have : c.args.toList.map (ev s') = c.args.toList.map (ev s) := by
   apply List.map_congr_left
   intro x hx
   exact h1 x (by simp [Op.operands, Call.operands, hx])
  rw [this]
  revert hks
  generalize c.args.toList.map (ev s) = vs
  intro hks
  split <;> try rfl
  rename_i x y _
  exact appA_frame (hks x (by simp)) (hks y (by simp))
 | _ => rfl
end
structure Lg where
 refs : List Nat
 writes : List Nat
 whole : Bool
 looks : List Nat
 kills : List Nat
 keeps : Bool
def szO : AO → Option Nat
 | .arr _ _ _ sz _ => some sz
 | _ => none
def wholeO : AO → Bool
 | .var l => l.all AC.whole
 | .arr .. => true
 | .gone => true
def wholeV1 : AV → Bool
 | .c x => x.whole
 | .agg l => l.all AC.whole
 | .tup _ => true
 | .any => false
def wholeV : AV → Bool
 | .tup l => l.all wholeV1
 | x => wholeV1 x
def xRefs (xs : List Operand) (s : St) : List Nat := xs.flatMap fun x => (ev s x).refs
def opRefs (o : Oper) (s : St) : List Nat := xRefs o.op.operands.toList s
def lgX (xs ys : List Operand) (s : St) (e : Eff) : Lg where
 refs := (xRefs xs s ++ e.ex) ++ ((xRefs ys s ++ e.ex).flatMap fun k => deepO (s.o k)) ++ e.val.refs ++ e.upds.flatMap fun p => deepO p.2
 writes := e.kills ++ e.upds.map (·.1)
 whole := (xs.all fun x => wholeV (ev s x)) && (xRefs ys s ++ e.ex).all fun k => wholeO (s.o k)
 looks := xRefs ys s ++ e.ex
 kills := e.kills
 keeps := e.upds.all fun p => e.kills.contains p.1 || szO p.2 == szO (s.o p.1)
def guardOps (all : List Oper) (o : Oper) : List Operand := match o.guard with
 | some (g, _) => match all[g]? with
  | some p => match p.dst with | some d => [.tmp d] | none => []
  | none => []
 | none => []
def xsOf (all : List Oper) (o : Oper) (skip : Bool) : List Operand := guardOps all o ++ if skip then [] else o.op.operands.toList
def lookOps (o : Oper) : List Operand := match o.op with
 | .fieldAddr _ _ _ => []
 | .nilCheck _ => []
 | .move _ => []
 | .assign _ => []
 | .slice _ _ _ _ _ => []
 | _ => o.op.operands.toList
def opLook (o : Oper) (s : St) : List Nat := xRefs (lookOps o) s
def ysOf (all : List Oper) (o : Oper) (skip : Bool) : List Operand := guardOps all o ++ if skip then [] else lookOps o
def e0 : Eff := ⟨.tup [], [], [], []⟩
def lg0 : Lg := ⟨[], [], true, [], [], true⟩
def callEx (s : St) (args : List AV) (d : CallD) : List Nat := lentR d.σ s.o args ++ d.σ.map (·.2)
section
variable (A : Prims) (P : Program) (T : TT)
def Gives (o : Oper) (s : St) (e : Eff) : Prop :=
 match callOf o s with
 | some (f, args) => ∃ d : CallD, Fun P f d.args d.o0 d.r d.o1 d.fl ∧ Fits s args d ∧ ∃ u, Wk (callRes s args d).upds u ∧ e = ⟨(callRes s args d).val, (callRes s args d).kills, u, callEx s args d⟩
 | none => match nilOf T o s with
  | some _ => False
  | none => (evalOp A T o s).ok ∧ ∃ v u, (evalOp A T o s).val.le v ∧ Wk (evalOp A T o s).upds u ∧ e = ⟨v, (evalOp A T o s).kills, u, []⟩
def wpOneD (all : List Oper) (o : Oper) (s : St) (K : St → Lg → Prop) : Prop :=
 match callOf o s with
 | some (f, args) => ∃ d : CallD, Fun P f d.args d.o0 d.r d.o1 d.fl ∧ Fits s args d ∧ wkV (callRes s args d).val (callRes s args d).upds fun v u =>
   K (Eff.app ⟨v, (callRes s args d).kills, u, callEx s args d⟩ o.dst s) (lgX (xsOf all o false) (ysOf all o false) s ⟨v, (callRes s args d).kills, u, callEx s args d⟩)
 | none => match nilOf T o s with
  | some _ => False
  | none => (evalOp A T o s).ok ∧ wkE o (evalOp A T o s).val (evalOp A T o s).upds fun v u =>
   K (Eff.app ⟨v, (evalOp A T o s).kills, u, []⟩ o.dst s) (lgX (xsOf all o false) (ysOf all o false) s ⟨v, (evalOp A T o s).kills, u, []⟩)
def wpD (all : List Oper) : List Oper → St → List Lg → (List Lg → St → Prop) → Prop
 | [], s, ls, K => K ls s
 | o :: r, s, ls, K => match o.guard with
  | none => wpOneD A P T all o s fun s' lg => wpD all r s' (ls ++ [lg]) K
  | some (j, want) => match deadG all s j with
   | true => wpD all r (e0.app o.dst s) (ls ++ [lgX (xsOf all o true) (ysOf all o true) s e0]) K
   | false => match yld all s j with
    | some (d, b) => brW want b (fun _ => wpOneD A P T all o (setTB s d want) fun s' lg => wpD all r s' (ls ++ [lg]) K)
      (fun _ => wpD all r (e0.app o.dst (setTB s d (!want))) (ls ++ [lgX (xsOf all o true) (ysOf all o true) (setTB s d (!want)) e0]) K)
    | none => False
end
def disj (a b : List Nat) : Bool := a.all fun x => !b.contains x
def indep (a b : Lg) : Bool := ((disj a.writes (b.looks ++ b.writes) && disj b.writes a.looks) && (disj a.kills b.refs && disj b.kills a.refs)) && (a.keeps && b.keeps)
def maskOf (acc : List Nat) (o : Oper) : Nat := o.after.toList.foldl (fun m e => if Region.binds .any e then m ||| (1 <<< e.on) ||| acc.getD e.on 0 else m) 0
def masksL : List Oper → List Nat → List Nat
 | [], acc => acc
 | o :: r, acc => masksL r (acc ++ [maskOf acc o])
def pairOk (all : List Oper) (ms : List Nat) (ls : List Lg) (j i : Nat) : Bool :=
 (ms.getD i 0).testBit j || ((indep (ls.getD j lg0) (ls.getD i lg0) && (ls.getD i lg0).whole) && match all[j]?, all[i]? with | some a, some b => a.apart all.toArray b | _, _ => false)
def chk (all : List Oper) (ls : List Lg) : Bool :=
 (all.zipIdx.all fun p => p.1.after.toList.all fun e => !Region.binds .any e || decide (e.on < p.2)) &&
 (all.all fun o => match o.op with | .select _ _ => false | _ => true) &&
 (List.range all.length).all fun i => (List.range i).all fun j => pairOk all (masksL all []) ls j i

section
variable {A : Prims} {P : Program} {T : TT} {s s' s1 s2 : St}
theorem gives_of_oneD {all : List Oper} {o : Oper} {K : St → Lg → Prop} (h : wpOneD A P T all o s K) : ∃ e, Gives A P T o s e ∧ K (e.app o.dst s) (lgX (xsOf all o false) (ysOf all o false) s e) := by
 unfold wpOneD at h
 unfold Gives
 split at h
 ·rename_i f args hc
  obtain ⟨d, h1, h2, h3⟩ := h
  obtain ⟨u, h4, h5⟩ := wkV_iff h3
  exact ⟨_, ⟨d, h1, h2, u, h4, rfl⟩, h5⟩
 ·rename_i hc
  split at h
  ·exact h.elim
  ·obtain ⟨v, u, h3, h4, h5⟩ := wkE_iff h.2
   exact ⟨_, ⟨h.1, v, u, h3, h4, rfl⟩, h5⟩
theorem gives_sound (hT : TOk P T) {w0 w : World} {I0 : Fr} {a : Act} (hR : Rel w0 I0 s a w) {o : Oper} {e : Eff} (h : Gives std P T o s e) {next : Act → World → Prop} {Q : Exit → Act → World → Prop} (hn : ∀ a' w', Rel w0 I0 (e.app o.dst s) a' w' → next a' w') : o.wp P a w next Q := by
 unfold Gives at h
 split at h
 ·rename_i f args hc
  obtain ⟨d, h1, h2, u, h3, rfl⟩ := h
  exact call_sound hR hc h1 h2 fun a' w' hr => hn _ _ (Rel.wk h3 hr)
 ·split at h
  ·exact h.elim
  ·obtain ⟨h1, v, u, h3, h2, rfl⟩ := h
   obtain ⟨L, I, hR⟩ := hR
   exact done_wp (op_any hT hR h1) fun a' w' hr => hn _ _ (Rel.wk (r := { evalOp std T o s with val := v }) h2 (Rel.leV h3 hr))
theorem callOf_frame {o : Oper} (h1 : ∀ x ∈ o.op.operands.toList, ev s' x = ev s x) : callOf o s' = callOf o s := by
 unfold callOf
 split
 ·rename_i c ho
  rw [ho] at h1
  split
  ·rename_i x hx
   rw [h1 x (by simp [Op.operands, Call.operands, hx])]
   have : c.args.toList.map (ev s') = c.args.toList.map (ev s) := by
    apply List.map_congr_left
    intro y hy
    exact h1 y (by simp [Op.operands, Call.operands, hy])
   rw [this]
  ·rfl
 ·rfl
theorem nilOf_frame {o : Oper} (h1 : ∀ x ∈ o.op.operands.toList, ev s' x = ev s x) : nilOf T o s' = nilOf T o s := by
 unfold nilOf
 cases ho : o.op with
 | binOp op t x y t' =>
  rw [ho] at h1
  have hx := h1 x (by simp [Op.operands])
  have hy := h1 y (by simp [Op.operands])
  cases op <;> simp only [hx, hy]
 | _ => rfl
theorem give_frame {b : Nat → Option Nat} {o o' : Nat → AO} : ∀ (x : AC), (∀ k ∈ x.ref, b k = none → o' k = o k ∧ ∀ q ∈ deepO (o k), o' q = o q) → x.give b o' = x.give b o := by
 intro x
 induction x with
 | fn f n caps ih =>
  intro h
  simp only [AC.give]
  congr 1
  funext j
  by_cases hj : j < n
  ·rw [if_pos hj, if_pos hj]
   exact ih j fun k hk => h k (by simp only [AC.ref, List.mem_flatMap]; exact ⟨j, by simpa using hj, hk⟩)
  ·rw [if_neg hj, if_neg hj]
 | os k off n =>
  intro h
  simp only [AC.give]
  cases hb : b k with
  | some q => rfl
  | none =>
   obtain ⟨h1, h2⟩ := h k (by simp [AC.ref]) hb
   simp only [h1]
   cases hk : o k with
   | gone => rfl
   | var l => rfl
   | arr m rs N sz get =>
    rw [hk] at h2
    simp only
    congr 1
    funext i j
    cases get (off + i) j with
    | os k' off' n' =>
     simp only
     split
     ·rename_i hc
      rw [h2 k' (List.contains_iff_mem.1 hc)]
     ·rfl
    | _ => rfl
 | ptr k off =>
  intro h
  simp only [AC.give]
  cases hb : b k with
  | some q => rfl
  | none =>
   obtain ⟨h1, h2⟩ := h k (by simp [AC.ref]) hb
   simp only [h1]
   cases hk : o k with
   | gone => rfl
   | arr => rfl
   | var l =>
    rw [hk] at h2
    simp only
    congr 1
    funext j
    cases l.getD (off + j) .junk with
    | os k' off' n' =>
     simp only
     split
     ·rename_i hc
      rw [h2 k' (List.contains_iff_mem.1 hc)]
     ·rfl
    | _ => rfl
 | ep k i j => intro h; rfl
 | _ => intro h; rfl
theorem lentR_frame {σ : Ren} {o o' : Nat → AO} {args : List AV} (h : ∀ k ∈ lentR σ o args, o' k = o k) : lentR σ o' args = lentR σ o args := by
 unfold lentR at h ⊢
 simp only at h ⊢
 generalize hR : ((args.flatMap AV.refs).filter fun k => (Ren.back σ k).isNone) = R at h ⊢
 clear hR
 congr 1
 have hR : ∀ k ∈ R, o' k = o k := fun k hk => h k (by simp [hk])
 clear h
 induction R with
 | nil => rfl
 | cons k r ih => rw [List.flatMap_cons, List.flatMap_cons, hR k (by simp), ih (fun q hq => hR q (by simp [hq]))]
theorem gives0_frame {σ : Ren} : ∀ (l : List (Nat × AO)), (∀ k ∈ σ.map (·.2), s'.o k = s.o k) → gives0 s σ l → gives0 s' σ l
 | [], _, _ => trivial
 | (k, x) :: r, h, hh => by
  refine ⟨?_, gives0_frame r h hh.2⟩
  have h1 := hh.1
  cases ht : Ren.to σ k with
  | none => rw [ht] at h1; exact h1.elim
  | some a =>
   rw [ht] at h1
   simp only at h1 ⊢
   rw [h a (List.mem_map.2 ⟨_, to_mem _ _ _ ht, rfl⟩)]
   exact h1
theorem fits_frame {args : List AV} {d : CallD} (F : Fits s args d) (h : ∀ k ∈ callEx s args d, s'.o k = s.o k) : Fits s' args d := by
 have hl : ∀ k ∈ lentR d.σ s.o args, s'.o k = s.o k := fun k hk => h k (List.mem_append_left _ hk)
 have hR := lentR_frame (o' := s'.o) hl
 have hv : args.map (AV.map (AC.give (Ren.back d.σ) s'.o)) = args.map (AV.map (AC.give (Ren.back d.σ) s.o)) := by
  apply List.map_congr_left
  intro x hx
  have h1 : ∀ z ∈ x.refs, Ren.back d.σ z = none → s'.o z = s.o z ∧ ∀ q ∈ deepO (s.o z), s'.o q = s.o q := by
   intro z hz hb
   have hm : z ∈ (args.flatMap AV.refs).filter fun k => (Ren.back d.σ k).isNone := List.mem_filter.2 ⟨List.mem_flatMap.2 ⟨x, hx, hz⟩, by rw [hb]; rfl⟩
   exact ⟨hl z (List.mem_append_left _ hm), fun q hq => hl q (List.mem_append_right _ (List.mem_flatMap.2 ⟨z, hm, hq⟩))⟩
  have h2 : ∀ x' : AV, (∀ z ∈ x'.refs1, z ∈ x.refs) → x'.map1 (AC.give (Ren.back d.σ) s'.o) = x'.map1 (AC.give (Ren.back d.σ) s.o) := by
   intro x' hz
   cases x' with
   | c c => simp only [AV.map1]; rw [give_frame c fun k hk hb => h1 k (hz k hk) hb]
   | agg l =>
    simp only [AV.map1]
    congr 1
    apply List.map_congr_left
    intro c hc
    exact give_frame c fun k hk hb => h1 k (hz k (List.mem_flatMap.2 ⟨c, hc, hk⟩)) hb
   | tup l => rfl
   | any => rfl
  cases x with
  | c c => exact h2 (.c c) fun z hz => hz
  | agg l => exact h2 (.agg l) fun z hz => hz
  | tup l =>
   simp only [AV.map]
   congr 1
   apply List.map_congr_left
   intro q hq
   exact h2 q fun z hz => by simp only [AV.refs, List.mem_flatMap]; exact ⟨q, hq, hz⟩
  | any => rfl
 refine ⟨by rw [hv]; exact F.vals, gives0_frame _ (fun k hk => h k (List.mem_append_right _ hk)) F.objs, F.rw, F.keys, F.keys1, by rw [hR]; exact F.new, F.like, ?_⟩
 rw [hR]
 have := F.apart
 rw [List.all_eq_true] at this ⊢
 intro k hk
 rw [hl k hk]
 exact this k hk
theorem frzL_frame {o o' : Nat → AO} : ∀ (l : List Nat), (∀ k ∈ l, o' k = o k) → frzL o' l = frzL o l
 | [], _ => rfl
 | k :: r, h => by rw [frzL, frzL, h k (by simp), frzL_frame r (fun j hj => h j (by simp [hj]))]
theorem filter_same {p q : Nat → Bool} : ∀ (l : List Nat), (∀ k ∈ l, p k = q k) → l.filter p = l.filter q
 | [], _ => rfl
 | k :: r, h => by rw [List.filter_cons, List.filter_cons, h k (by simp), filter_same r (fun j hj => h j (by simp [hj]))]
theorem callRes_frame {args : List AV} {d : CallD} (h : ∀ k ∈ callEx s args d, s'.o k = s.o k) : callRes s' args d = callRes s args d ∧ callEx s' args d = callEx s args d := by
 have hl : ∀ k ∈ lentR d.σ s.o args, s'.o k = s.o k := fun k hk => h k (List.mem_append_left _ hk)
 have hR := lentR_frame (o' := s'.o) hl
 have hk : callKills s'.o args d = callKills s.o args d := by
  unfold callKills
  rw [hR, filter_same (p := fun k => isVar (s'.o k)) (q := fun k => isVar (s.o k)) _ (fun k hk => by rw [hl k hk])]
 refine ⟨?_, by unfold callEx; rw [hR]⟩
 unfold callRes callUpds
 rw [hk, hR, filter_same (p := fun k => isArr (s'.o k)) (q := fun k => isArr (s.o k)) _ (fun k hk => by rw [hl k hk])]
 rw [frzL_frame (o := (s.kill (callKills s.o args d)).o) (o' := (s'.kill (callKills s.o args d)).o)]
 intro k hk'
 rw [List.mem_filter] at hk'
 rw [kill_t, kill_t]
 simp only [killO]
 rw [hl k hk'.1]
theorem evalOp_frameL (o : Oper) (h1 : ∀ x ∈ o.op.operands.toList, ev s' x = ev s x) (h2 : ∀ k ∈ opLook o s, s'.o k = s.o k) (h3 : ∀ k ∈ opRefs o s, szO (s'.o k) = szO (s.o k)) : evalOp A T o s' = evalOp A T o s := by
 have key : lookOps o = o.op.operands.toList → evalOp A T o s' = evalOp A T o s := fun hl => evalOp_frame o h1 (fun x hx k hk => h2 k (by unfold opLook xRefs; rw [hl]; exact List.mem_flatMap.2 ⟨x, hx, hk⟩))
 cases ho : o.op with
 | fieldAddr t x f =>
  rw [ho] at h1
  unfold evalOp
  simp only [ho]
  rw [h1 x (by simp [Op.operands])]
 | nilCheck x =>
  rw [ho] at h1
  unfold evalOp
  simp only [ho]
  rw [h1 x (by simp [Op.operands])]
 | move x =>
  rw [ho] at h1
  unfold evalOp
  simp only [ho]
  rw [h1 x (by simp [Op.operands])]
 | assign x =>
  rw [ho] at h1
  unfold evalOp
  simp only [ho]
  rw [h1 x (by simp [Op.operands])]
 | slice t x lo hi mx =>
  unfold opRefs xRefs at h3
  rw [ho] at h1 h3
  unfold evalOp
  simp only [ho]
  have hx := h1 x (by simp [Op.operands])
  have hl : lo.map (ev s') = lo.map (ev s) := by
   cases lo with
   | none => rfl
   | some y => simp only [Option.map_some]; rw [h1 y (by simp [Op.operands])]
  have hh : hi.map (ev s') = hi.map (ev s) := by
   cases hi with
   | none => rfl
   | some y => simp only [Option.map_some]; rw [h1 y (by simp [Op.operands])]
  have hm : mx.map (ev s') = mx.map (ev s) := by
   cases mx with
   | none => rfl
   | some y => simp only [Option.map_some]; rw [h1 y (by simp [Op.operands])]
  have h4 : ∀ k ∈ (ev s x).refs, szO (s'.o k) = szO (s.o k) := fun k hk => h3 k (List.mem_flatMap.2 ⟨x, by simp [Op.operands], hk⟩)
  rw [hx, hl, hh, hm]
  revert h4
  generalize ev s x = X
  cases X with
  | c q =>
   cases q with
   | os k off n =>
    intro h4
    have h5 := h4 k (by simp [AV.refs, AV.refs1, AC.ref])
    have h6 : ∀ F : Nat → Res, (match s'.o k with | .arr _ _ _ sz _ => F sz | _ => .bad) = (match s.o k with | .arr _ _ _ sz _ => F sz | _ => .bad) := by
     intro F
     revert h5
     generalize s'.o k = o1
     generalize s.o k = o2
     cases o1 <;> cases o2 <;> intro h5 <;> first | rfl | (simp only [szO] at h5; cases h5; rfl) | (simp [szO] at h5)
    cases T t with
    | none => rfl
    | some d =>
     simp only
     generalize Option.map (ev s) mx = M
     generalize Option.map (ev s) lo = L'
     generalize Option.map (ev s) hi = H'
     cases d.und with
     | slice e =>
      cases M with
      | none => exact h6 fun sz => subO A (elemOf T t) k off n sz L'.isNone (bnd 0 L') (bnd (A.ofN n) H')
      | some v => cases L' <;> cases H' <;> rfl
     | _ => rfl
   | _ =>
    intro _
    cases T t with
    | none => rfl
    | some d =>
     simp only
     generalize Option.map (ev s) mx = M
     generalize Option.map (ev s) lo = L'
     generalize Option.map (ev s) hi = H'
     generalize d.und = U
     cases U with
     | string => split <;> first | rfl | (split <;> first | rfl | (simp_all; done))
     | slice e => cases M with
      | none => rfl
      | some v => split <;> first | rfl | (split <;> first | rfl | (simp_all; done))
     | _ => rfl
  | _ =>
   intro _
   cases T t with
   | none => rfl
   | some d =>
    simp only
    generalize Option.map (ev s) mx = M
    generalize Option.map (ev s) lo = L'
    generalize Option.map (ev s) hi = H'
    generalize d.und = U
    cases U with
    | string => split <;> first | rfl | (split <;> first | rfl | (simp_all; done))
    | slice e => cases M with
     | none => rfl
     | some v => split <;> first | rfl | (split <;> first | rfl | (simp_all; done))
    | _ => rfl
 | _ => exact key (by unfold lookOps; rw [ho])
theorem lookOps_sub {o : Oper} {x : Operand} (h : x ∈ lookOps o) : x ∈ o.op.operands.toList := by
 unfold lookOps at h
 split at h
 ·cases h
 ·cases h
 ·cases h
 ·cases h
 ·cases h
 ·exact h
theorem ysOf_sub {all : List Oper} {o : Oper} {sk : Bool} {x : Operand} (h : x ∈ ysOf all o sk) : x ∈ xsOf all o sk := by
 unfold ysOf at h
 unfold xsOf
 rw [List.mem_append] at h ⊢
 rcases h with h | h
 ·exact .inl h
 ·cases sk with
  | true => cases h
  | false => exact .inr (lookOps_sub h)
theorem gives_frame {o : Oper} {e : Eff} (h : Gives A P T o s e) (h1 : ∀ x ∈ o.op.operands.toList, ev s' x = ev s x) (h2 : ∀ k ∈ opLook o s ++ e.ex, s'.o k = s.o k) (h3 : ∀ k ∈ opRefs o s, szO (s'.o k) = szO (s.o k)) : Gives A P T o s' e := by
 unfold Gives at h ⊢
 rw [callOf_frame h1]
 split at h
 ·rename_i f args hc
  obtain ⟨d, g1, g2, u, g3, rfl⟩ := h
  have hx : ∀ k ∈ callEx s args d, s'.o k = s.o k := fun k hk => h2 k (List.mem_append_right _ hk)
  obtain ⟨e1, e2⟩ := callRes_frame hx
  exact ⟨d, g1, fits_frame g2 hx, u, by rw [e1]; exact g3, by rw [e1, e2]⟩
 ·rename_i hc
  rw [nilOf_frame h1]
  split at h
  ·exact h.elim
  ·rename_i hn
   rw [evalOp_frameL o h1 (fun k hk => h2 k (List.mem_append_left _ hk)) h3]
   exact h
end
section
variable {A : Prims} {P : Program} {T : TT} {s s' s1 s2 : St} {all : Array Oper}
theorem disj_spec {a b : List Nat} (h : disj a b = true) : ∀ k ∈ a, k ∉ b := by
 intro k hk hb
 have := List.all_eq_true.1 h k hk
 simp at this
 exact this hb
theorem map_same {α : Type} {f : α → α} {l : List α} (h : ∀ x ∈ l, f x = x) : l.map f = l := by
 induction l with
 | nil => rfl
 | cons x r ih => rw [List.map_cons, h x (by simp), ih (fun y hy => h y (by simp [hy]))]
theorem mapC_kill_id {l : List AC} {ks : List Nat} (h : ∀ k ∈ l.flatMap AC.ref, k ∉ ks) : l.map (AC.kill ks) = l := by
 exact map_same (fun x hx => AC.kill_id (fun k hk => h k (List.mem_flatMap.2 ⟨x, hx, hk⟩)))
theorem AV.kill1_id {x : AV} {ks : List Nat} (h : ∀ k ∈ x.refs1, k ∉ ks) : x.map1 (AC.kill ks) = x := by
 cases x with
 | c x => simp only [AV.map1]; rw [AC.kill_id h]
 | agg l => simp only [AV.map1]; rw [mapC_kill_id h]
 | tup l => rfl
 | any => rfl
theorem AV.kill_id {x : AV} {ks : List Nat} (h : ∀ k ∈ x.refs, k ∉ ks) : x.kill ks = x := by
 cases x with
 | c x => exact AV.kill1_id (x := .c x) h
 | agg l => exact AV.kill1_id (x := .agg l) h
 | tup l =>
  simp only [AV.kill, AV.map]
  rw [map_same (fun x hx => AV.kill1_id (fun k hk => h k (by simp only [AV.refs, List.mem_flatMap]; exact ⟨x, hx, hk⟩)))]
 | any => rfl
theorem without_of {ks rs : List Nat} (h : ∀ k ∈ rs, k ∉ ks) : without ks rs = true := by
 simp only [without, List.all_eq_true]
 intro k hk
 simpa using h k hk
theorem AO.kill_id {x : AO} {ks : List Nat} (h : ∀ k ∈ deepO x, k ∉ ks) : x.kill ks = x := by
 cases x with
 | gone => rfl
 | var l => simp only [AO.kill, AO.map]; rw [mapC_kill_id h]
 | arr m rs n sz g => simp only [AO.kill, AO.map]; rw [without_of (ks := ks) (rs := rs) h]
theorem AC.kill_comm (a b : List Nat) : ∀ (x : AC), (x.kill a).kill b = (x.kill b).kill a := by
 intro x
 induction x with
 | os k p q => by_cases h1 : k ∈ a <;> by_cases h2 : k ∈ b <;> simp [AC.kill, h1, h2]
 | ptr k p => by_cases h1 : k ∈ a <;> by_cases h2 : k ∈ b <;> simp [AC.kill, h1, h2]
 | ep k p q => by_cases h1 : k ∈ a <;> by_cases h2 : k ∈ b <;> simp [AC.kill, h1, h2]
 | fn f n caps ih =>
  simp only [AC.kill]
  congr 1
  funext j
  by_cases hj : j < n
  ·simp only [if_pos hj]; exact ih j
  ·simp only [if_neg hj]
 | _ => rfl
theorem AV.kill1_comm (a b : List Nat) (x : AV) : (x.map1 (AC.kill a)).map1 (AC.kill b) = (x.map1 (AC.kill b)).map1 (AC.kill a) := by
 cases x with
 | c x => simp only [AV.map1, AC.kill_comm a b]
 | agg l =>
  simp only [AV.map1, List.map_map]
  congr 1
  apply List.map_congr_left
  intro x _
  exact AC.kill_comm a b x
 | tup l => rfl
 | any => rfl
theorem AV.kill_comm (a b : List Nat) (x : AV) : (x.kill a).kill b = (x.kill b).kill a := by
 cases x with
 | c x => exact AV.kill1_comm a b (.c x)
 | agg l => exact AV.kill1_comm a b (.agg l)
 | tup l =>
  simp only [AV.kill, AV.map, List.map_map]
  congr 1
  apply List.map_congr_left
  intro x _
  exact AV.kill1_comm a b x
 | any => rfl
theorem AO.kill_comm (a b : List Nat) (x : AO) : (x.kill a).kill b = (x.kill b).kill a := by
 cases x with
 | gone => rfl
 | var l =>
  simp only [AO.kill, AO.map, List.map_map]
  congr 1
  apply List.map_congr_left
  intro x _
  exact AC.kill_comm a b x
 | arr m rs n sz g =>
  simp only [AO.kill, AO.map]
  cases ha : without a rs <;> cases hb : without b rs <;> simp only [ha, hb, AO.map, id]
  congr 1
  funext i j
  exact AC.kill_comm a b _
theorem AC.whole_kill {ks : List Nat} : ∀ {x : AC}, (x.kill ks).whole = true → x.kill ks = x := by
 intro x
 induction x with
 | os k p q => intro h; by_cases h1 : k ∈ ks <;> simp_all [AC.kill, AC.whole]
 | ptr k p => intro h; by_cases h1 : k ∈ ks <;> simp_all [AC.kill, AC.whole]
 | ep k p q => intro h; by_cases h1 : k ∈ ks <;> simp_all [AC.kill, AC.whole]
 | fn f n caps ih =>
  intro h
  simp only [AC.kill, AC.whole, List.all_eq_true] at h ⊢
  congr 1
  funext j
  by_cases hj : j < n
  ·have := h j (by simpa using hj)
   simp only [if_pos hj] at this ⊢
   exact ih j this
  ·simp only [if_neg hj]
 | _ => intro h; rfl
theorem mapC_whole {l : List AC} {ks : List Nat} (h : (l.map (AC.kill ks)).all AC.whole = true) : l.map (AC.kill ks) = l := by
 exact map_same (fun x hx => AC.whole_kill (List.all_eq_true.1 h _ (List.mem_map.2 ⟨x, hx, rfl⟩)))
theorem wholeV1_kill {x : AV} {ks : List Nat} (h : wholeV1 (x.map1 (AC.kill ks)) = true) : x.map1 (AC.kill ks) = x := by
 cases x with
 | c x => simp only [AV.map1]; rw [AC.whole_kill h]
 | agg l => simp only [AV.map1]; rw [mapC_whole h]
 | tup l => rfl
 | any => rfl
theorem wholeV_kill {x : AV} {ks : List Nat} (h : wholeV (x.kill ks) = true) : x.kill ks = x := by
 cases x with
 | c x => exact wholeV1_kill (x := .c x) h
 | agg l => exact wholeV1_kill (x := .agg l) h
 | tup l =>
  simp only [AV.kill, AV.map]
  rw [map_same (fun x hx => wholeV1_kill (List.all_eq_true.1 h _ (List.mem_map.2 ⟨x, hx, rfl⟩)))]
 | any => rfl
theorem wholeO_kill {x : AO} {ks : List Nat} (h : wholeO (x.kill ks) = true) (hd : ∀ k ∈ deepO (x.kill ks), k ∉ ks) : x.kill ks = x := by
 cases x with
 | gone => rfl
 | var l => simp only [AO.kill, AO.map]; rw [mapC_whole h]
 | arr m rs n sz g =>
  have hrs : ∀ k ∈ rs, k ∉ ks := by
   intro k hk
   refine hd k ?_
   rw [AO.kill, AO.map_arr]
   cases without ks rs <;> exact hk
  exact AO.kill_id hrs
theorem app_o (e : Eff) (d : Option Nat) (s : St) (k : Nat) : (e.app d s).o k = updL e.upds (killO e.kills s.o) k := by
 simp only [Eff.app_eq]; unfold AM.put
 cases d <;> rfl
theorem app_o_other {e : Eff} {d : Option Nat} {s : St} {k : Nat} (h1 : k ∉ e.kills) (h2 : k ∉ e.upds.map (·.1)) : (e.app d s).o k = (s.o k).kill e.kills := by
 rw [app_o, updL_other _ _ _ h2]
 simp [killO, h1]
theorem app_t (e : Eff) (d : Option Nat) (s : St) : (e.app d s).t = match d with | some d => (s.t.map (AV.kill e.kills)).set d e.val | none => s.t.map (AV.kill e.kills) := by
 simp only [Eff.app_eq]; unfold AM.put
 cases d <;> rfl
theorem ev_app {e : Eff} {d : Option Nat} {s : St} {x : Operand} (h : ∀ t, d = some t → x ≠ .tmp t) : ev (e.app d s) x = (ev s x).kill e.kills := by
 cases x with
 | tmp t =>
  simp only [ev]
  rw [app_t]
  have : ∀ l : List AV, (l.map (AV.kill e.kills)).getD t (.tup []) = (l.getD t (.tup [])).kill e.kills := by
   intro l
   simp only [List.getD_eq_getElem?_getD, List.getElem?_map]
   cases l[t]? <;> simp [AV.kill, AV.map]
  cases d with
  | none => exact this s.t
  | some d =>
   have hne : d ≠ t := by rintro rfl; exact h d rfl rfl
   simp only
   rw [List.getD_eq_getElem?_getD, List.getElem?_set_ne hne, ← List.getD_eq_getElem?_getD]
   exact this s.t
 | const v =>
  simp only [ev]
  have : (constAV v).refs = [] := by
   unfold constAV
   split
   ·split
    ·simp [AV.refs, AV.refs1, List.flatMap_map, AC.ref]
    ·rfl
   ·split <;> rfl
   ·rfl
  exact (AV.kill_id (by rw [this]; simp)).symm
 | func f => rfl
 | global g => rfl
theorem xRefs_same {xs : List Operand} (h : ∀ x ∈ xs, ev s' x = ev s x) : xRefs xs s' = xRefs xs s := by
 unfold xRefs
 induction xs with
 | nil => rfl
 | cons x r ih => rw [List.flatMap_cons, List.flatMap_cons, h x (by simp), ih (fun y hy => h y (by simp [hy]))]
theorem flatMap_same {α β : Type} {f g : α → List β} : ∀ (l : List α), (∀ x ∈ l, f x = g x) → l.flatMap f = l.flatMap g
 | [], _ => rfl
 | x :: r, h => by rw [List.flatMap_cons, List.flatMap_cons, h x (by simp), flatMap_same r (fun y hy => h y (by simp [hy]))]
theorem all_same {α : Type} {f g : α → Bool} : ∀ (l : List α), (∀ x ∈ l, f x = g x) → l.all f = l.all g
 | [], _ => rfl
 | x :: r, h => by rw [List.all_cons, List.all_cons, h x (by simp), all_same r (fun y hy => h y (by simp [hy]))]
theorem lgX_same {xs ys : List Operand} {e : Eff} (hsub : ∀ x ∈ ys, x ∈ xs) (h1 : ∀ x ∈ xs, ev s' x = ev s x) (h2 : ∀ k ∈ xRefs ys s ++ e.ex, s'.o k = s.o k) (h3 : ∀ p ∈ e.upds, szO (s'.o p.1) = szO (s.o p.1)) : lgX xs ys s' e = lgX xs ys s e := by
 unfold lgX
 rw [xRefs_same h1, xRefs_same (xs := ys) (fun x hx => h1 x (hsub x hx)), flatMap_same (f := fun k => deepO (s'.o k)) (g := fun k => deepO (s.o k)) _ (fun k hk => by rw [h2 k hk]),
  all_same (f := fun x => wholeV (ev s' x)) (g := fun x => wholeV (ev s x)) _ (fun x hx => by rw [h1 x hx]),
  all_same (f := fun k => wholeO (s'.o k)) (g := fun k => wholeO (s.o k)) _ (fun k hk => by rw [h2 k hk]),
  all_same (f := fun p : Nat × AO => e.kills.contains p.1 || szO p.2 == szO (s'.o p.1)) (g := fun p : Nat × AO => e.kills.contains p.1 || szO p.2 == szO (s.o p.1)) _ (fun p hp => by rw [h3 p hp])]
theorem szO_kill (x : AO) (ks : List Nat) : szO (x.kill ks) = szO x := by
 cases x with
 | arr m rs n sz get =>
  unfold AO.kill AO.map
  simp only
  generalize without ks rs = q
  cases q <;> rfl
 | _ => rfl
theorem app_sz {xs ys : List Operand} {e : Eff} {d : Option Nat} {k : Nat} (hk : k ∉ e.kills) (h : (lgX xs ys s e).keeps = true) : szO ((e.app d s).o k) = szO (s.o k) := by
 by_cases hu : k ∈ e.upds.map (·.1)
 ·obtain ⟨p, hp, h1, h2⟩ := updL_mem e.upds (killO e.kills s.o) k hu
  rw [app_o, h2]
  have := List.all_eq_true.1 h p hp
  rw [Bool.or_eq_true] at this
  rcases this with h3 | h3
  ·exact absurd (List.contains_iff_mem.1 h3) (by rw [← h1]; exact hk)
  ·rw [h1]; exact eq_of_beq h3
 ·rw [app_o_other hk hu, szO_kill]
theorem commute {xi xj yi yj : List Operand} {di dj : Option Nat} {ei ej : Eff} {Gi Gj : St → Prop} (fi : ∀ s s' : St, (∀ x ∈ xi, ev s' x = ev s x) → (∀ k ∈ xRefs yi s ++ ei.ex, s'.o k = s.o k) → (∀ k ∈ xRefs xi s, szO (s'.o k) = szO (s.o k)) → Gi s → Gi s')
  (fj : ∀ s s' : St, (∀ x ∈ xj, ev s' x = ev s x) → (∀ k ∈ xRefs yj s ++ ej.ex, s'.o k = s.o k) → (∀ k ∈ xRefs xj s, szO (s'.o k) = szO (s.o k)) → Gj s → Gj s') (si : ∀ x ∈ yi, x ∈ xi) (sj : ∀ x ∈ yj, x ∈ xj) (hj : Gj s) (hi : Gi (ej.app dj s))
  (hind : indep (lgX xj yj s ej) (lgX xi yi (ej.app dj s) ei) = true) (a1 : ∀ d, dj = some d → .tmp d ∉ xi) (a2 : ∀ d, dj = some d → di ≠ some d) (a3 : ∀ d, di = some d → .tmp d ∉ xj) (hwi : (lgX xi yi (ej.app dj s) ei).whole = true) :
  Gi s ∧ lgX xi yi s ei = lgX xi yi (ej.app dj s) ei ∧ Gj (ei.app di s) ∧ lgX xj yj (ei.app di s) ej = lgX xj yj s ej ∧ ej.app dj (ei.app di s) = ei.app di (ej.app dj s) := by
 simp only [indep, Bool.and_eq_true] at hind
 have q1 := hind.2.1
 have q2 := hind.2.2
 replace hind := hind.1
 have d1 := disj_spec hind.1.1
 have d2 := disj_spec hind.1.2
 have k1 := disj_spec hind.2.1
 have k2 := disj_spec hind.2.2
 simp only [lgX, Bool.and_eq_true] at hwi
 -- (a) the operands of oi
 have ha : ∀ x ∈ xi, ev (ej.app dj s) x = ev s x := by
  intro x hx
  have h1 : ev (ej.app dj s) x = (ev s x).kill ej.kills := ev_app (fun t ht hxt => by subst hxt; exact a1 t ht hx)
  have h2 := List.all_eq_true.1 hwi.1 x hx
  rw [h1] at h2 ⊢
  exact wholeV_kill h2
 have hrefs : xRefs yi (ej.app dj s) = xRefs yi s := xRefs_same (fun x hx => ha x (si x hx))
 have hb : ∀ k ∈ xRefs yi s ++ ei.ex, (ej.app dj s).o k = s.o k := by
  intro k hk
  have hk' : k ∉ ej.kills ++ ej.upds.map (·.1) := fun hw => d1 k hw (by
   simp only [lgX]
   rw [hrefs]
   rw [List.mem_append]; left
   exact hk)
  simp only [List.mem_append, not_or] at hk'
  have h1 := app_o_other (e := ej) (d := dj) (s := s) hk'.1 hk'.2
  have h2 := List.all_eq_true.1 hwi.2 k (by rw [hrefs]; exact hk)
  have hdk : ∀ q ∈ deepO ((ej.app dj s).o k), q ∉ ej.kills := fun q hq hqk => k1 q hqk (by
   simp only [lgX]
   rw [hrefs]
   rw [List.mem_append]; left
   rw [List.mem_append]; left
   rw [List.mem_append]; right
   exact List.mem_flatMap.2 ⟨k, hk, hq⟩)
  rw [h1] at h2 hdk ⊢
  exact wholeO_kill h2 hdk
 have hrefx : xRefs xi (ej.app dj s) = xRefs xi s := xRefs_same ha
 have hzi : ∀ k ∈ xRefs xi (ej.app dj s), szO ((ej.app dj s).o k) = szO (s.o k) := by
  intro k hk
  have hnk : k ∉ ej.kills := fun hqk => k1 k hqk (by simp only [lgX, List.mem_append]; exact .inl (.inl (.inl (.inl hk))))
  exact app_sz hnk q1
 have hgi : Gi s := fi _ _ (fun x hx => (ha x hx).symm) (fun k hk => (hb k (by rwa [hrefs] at hk)).symm) (fun k hk => (hzi k hk).symm) hi
 have hui : ∀ p ∈ ei.upds, szO ((ej.app dj s).o p.1) = szO (s.o p.1) := by
  intro p hp
  have hk' : p.1 ∉ ej.kills ++ ej.upds.map (·.1) := fun hw => d1 p.1 hw (by
   simp only [lgX, List.mem_append]
   exact .inr (.inr (List.mem_map.2 ⟨p, hp, rfl⟩)))
  simp only [List.mem_append, not_or] at hk'
  rw [app_o_other hk'.1 hk'.2, szO_kill]
 have hli : lgX xi yi s ei = lgX xi yi (ej.app dj s) ei := (lgX_same si ha hb hui).symm
 rw [← hli] at d1 d2 k1 k2 q2
 -- (c) the operands of oj
 have hKi : ∀ k ∈ (lgX xj yj s ej).refs, k ∉ ei.kills := fun k hk hw => k2 k hw hk
 have hUi : ∀ k ∈ (lgX xj yj s ej).looks, k ∉ ei.upds.map (·.1) := fun k hk hw => d2 k (by simp only [lgX, List.mem_append]; exact .inr hw) hk
 have hc : ∀ x ∈ xj, ev (ei.app di s) x = ev s x := by
  intro x hx
  rw [ev_app (fun t ht hxt => by subst hxt; exact a3 t ht hx)]
  exact AV.kill_id (fun k hk => hKi k (by simp only [lgX, List.mem_append]; exact .inl (.inl (.inl (.inl (List.mem_flatMap.2 ⟨x, hx, hk⟩))))))
 have hd : ∀ k ∈ xRefs yj s ++ ej.ex, (ei.app di s).o k = s.o k := by
  intro k hk
  have hk1 : k ∈ (lgX xj yj s ej).refs := by
   simp only [lgX, List.mem_append] at hk ⊢
   rcases hk with hk | hk
   ·obtain ⟨x, hx, hk⟩ := List.mem_flatMap.1 hk
    exact .inl (.inl (.inl (.inl (List.mem_flatMap.2 ⟨x, sj x hx, hk⟩))))
   ·exact .inl (.inl (.inl (.inr hk)))
  rw [app_o_other (hKi k hk1) (hUi k (by simp only [lgX]; exact hk))]
  exact AO.kill_id (fun q hq => hKi q (by simp only [lgX, List.mem_append]; exact .inl (.inl (.inr (List.mem_flatMap.2 ⟨k, hk, hq⟩)))))
 have hzj : ∀ k ∈ xRefs xj s, szO ((ei.app di s).o k) = szO (s.o k) := by
  intro k hk
  have hnk : k ∉ ei.kills := hKi k (by simp only [lgX, List.mem_append]; exact .inl (.inl (.inl (.inl hk))))
  exact app_sz hnk q2
 have huj : ∀ p ∈ ej.upds, szO ((ei.app di s).o p.1) = szO (s.o p.1) := by
  intro p hp
  have := d1 p.1 (by simp only [lgX, List.mem_append]; exact .inr (List.mem_map.2 ⟨p, hp, rfl⟩))
  simp only [lgX, List.mem_append, not_or] at this
  rw [app_o_other this.2.1 this.2.2, szO_kill]
 refine ⟨hgi, hli, fj _ _ hc hd hzj hj, lgX_same sj hc hd huj, ?_⟩
 -- (d) the two orders
 have hKj : ∀ k ∈ (lgX xi yi s ei).refs, k ∉ ej.kills := fun k hk hw => k1 k hw hk
 have hvj : ej.val.kill ei.kills = ej.val := AV.kill_id (fun k hk => hKi k (by simp only [lgX, List.mem_append]; exact .inl (.inr hk)))
 have hvi : ei.val.kill ej.kills = ei.val := AV.kill_id (fun k hk => hKj k (by simp only [lgX, List.mem_append]; exact .inl (.inr hk)))
 have hmap : (s.t.map (AV.kill ei.kills)).map (AV.kill ej.kills) = (s.t.map (AV.kill ej.kills)).map (AV.kill ei.kills) := by
  rw [List.map_map, List.map_map]
  apply List.map_congr_left
  intro x _
  exact AV.kill_comm _ _ x
 have ht : (ej.app dj (ei.app di s)).t = (ei.app di (ej.app dj s)).t := by
  rw [app_t, app_t, app_t, app_t]
  cases hdj : dj with
  | none =>
   cases hdi : di with
   | none => exact hmap
   | some di => simp only; rw [List.map_set, hvi, hmap]
  | some dj =>
   cases hdi : di with
   | none => simp only; rw [List.map_set, hvj, hmap]
   | some di =>
    simp only
    rw [List.map_set, List.map_set, hvi, hvj, hmap]
    exact List.set_comm _ _ (fun h => a2 dj hdj (by rw [hdi, h]))
 have hw : ∀ k, k ∈ ej.upds.map (·.1) → k ∉ ei.upds.map (·.1) ∧ k ∉ ei.kills := by
  intro k hk
  have := d1 k (by simp only [lgX, List.mem_append]; exact .inr hk)
  simp only [lgX, List.mem_append, not_or] at this
  exact ⟨this.2.2, this.2.1⟩
 have hw' : ∀ k, k ∈ ei.upds.map (·.1) → k ∉ ej.kills := by
  intro k hk hkj
  have := d1 k (by simp only [lgX, List.mem_append]; exact .inl hkj)
  simp only [lgX, List.mem_append, not_or] at this
  exact this.2.2 hk
 have ho : (ej.app dj (ei.app di s)).o = (ei.app di (ej.app dj s)).o := by
  funext k
  rw [app_o, app_o]
  by_cases hkj : k ∈ ej.upds.map (·.1)
  ·obtain ⟨h1, h2⟩ := hw k hkj
   obtain ⟨p, hp, _, e1⟩ := updL_mem ej.upds (killO ej.kills (ei.app di s).o) k hkj
   rw [updL_other ei.upds _ k h1]
   have : killO ei.kills (ej.app dj s).o k = ((ej.app dj s).o k).kill ei.kills := by simp [killO, h2]
   rw [this, app_o, updL_in ej.upds (killO ej.kills s.o) (killO ej.kills (ei.app di s).o) k hkj, e1]
   exact (AO.kill_id (fun q hq => hKi q (by simp only [lgX, List.mem_append]; exact .inr (List.mem_flatMap.2 ⟨p, hp, hq⟩)))).symm
  ·rw [updL_other ej.upds _ k hkj]
   by_cases hki : k ∈ ei.upds.map (·.1)
   ·have h2 := hw' k hki
    obtain ⟨p, hp, _, e1⟩ := updL_mem ei.upds (killO ei.kills (ej.app dj s).o) k hki
    have : killO ej.kills (ei.app di s).o k = ((ei.app di s).o k).kill ej.kills := by simp [killO, h2]
    rw [this, app_o, updL_in ei.upds (killO ei.kills s.o) (killO ei.kills (ej.app dj s).o) k hki, e1]
    exact AO.kill_id (fun q hq => hKj q (by simp only [lgX, List.mem_append]; exact .inr (List.mem_flatMap.2 ⟨p, hp, hq⟩)))
   ·rw [updL_other ei.upds _ k hki]
    by_cases h1 : k ∈ ej.kills <;> by_cases h2 : k ∈ ei.kills
    ·simp [killO, h1, h2]
    ·have e1 : killO ej.kills (ei.app di s).o k = .gone := by simp [killO, h1]
     have e2 : killO ei.kills (ej.app dj s).o k = ((ej.app dj s).o k).kill ei.kills := by simp [killO, h2]
     rw [e1, e2, app_o, updL_other ej.upds _ k hkj]
     simp [killO, h1, AO.kill, AO.map]
    ·have e1 : killO ei.kills (ej.app dj s).o k = .gone := by simp [killO, h2]
     have e2 : killO ej.kills (ei.app di s).o k = ((ei.app di s).o k).kill ej.kills := by simp [killO, h1]
     rw [e1, e2, app_o, updL_other ei.upds _ k hki]
     simp [killO, h2, AO.kill, AO.map]
    ·have e1 : killO ei.kills (ej.app dj s).o k = ((ej.app dj s).o k).kill ei.kills := by simp [killO, h2]
     have e2 : killO ej.kills (ei.app di s).o k = ((ei.app di s).o k).kill ej.kills := by simp [killO, h1]
     rw [e1, e2, app_o_other h1 hkj, app_o_other h2 hki]
     exact AO.kill_comm _ _ _
 cases hx : ej.app dj (ei.app di s)
 cases hy : ei.app di (ej.app dj s)
 rw [hx, hy] at ht ho
 simp only at ht ho
 rw [ht, ho]
end
section
variable {A : Prims} {P : Program} {T : TT} {s s' s1 s2 : St} {all : List Oper}
def wantedA (all : List Oper) (o : Oper) (s : St) : Option Bool := match o.guard with
 | none => some true
 | some (j, want) => match deadG all s j with
  | true => some false
  | false => match yld all s j with
   | some (_, b) => some (b == want)
   | none => none
def GI (A : Prims) (P : Program) (T : TT) (all : List Oper) (o : Oper) (sk : Bool) (e : Eff) (s : St) : Prop :=
 wantedA all o s = some (!sk) ∧ if sk then e = e0 else Gives A P T o s e
theorem yld_frame {j : Nat} {o : Oper} {want : Bool} (hg : o.guard = some (j, want)) (h : ∀ x ∈ guardOps all o, ev s' x = ev s x) : yld all s' j = yld all s j := by
 unfold yld
 unfold guardOps at h
 rw [hg] at h
 simp only at h
 cases ho : all[j]? with
 | none => rfl
 | some p =>
  rw [ho] at h
  simp only at h ⊢
  cases hd : p.dst with
  | none => rfl
  | some d =>
   rw [hd] at h
   have := h (.tmp d) (by simp)
   simp only [ev] at this
   simp only [this]
theorem dead_frame {j : Nat} {o : Oper} {want : Bool} (hg : o.guard = some (j, want)) (h : ∀ x ∈ guardOps all o, ev s' x = ev s x) : deadG all s' j = deadG all s j := by
 unfold deadG
 unfold guardOps at h
 rw [hg] at h
 simp only at h
 cases ho : all[j]? with
 | none => rfl
 | some p =>
  rw [ho] at h
  simp only at h ⊢
  cases hd : p.dst with
  | none => rfl
  | some d =>
   rw [hd] at h
   have := h (.tmp d) (by simp)
   simp only [ev] at this
   simp only [this]
theorem wantedA_frame {o : Oper} (h : ∀ x ∈ guardOps all o, ev s' x = ev s x) : wantedA all o s' = wantedA all o s := by
 unfold wantedA
 cases hg : o.guard with
 | none => rfl
 | some p =>
  obtain ⟨j, want⟩ := p
  simp only [yld_frame hg h, dead_frame hg h]
theorem GI_frame {o : Oper} {sk : Bool} {e : Eff} (h1 : ∀ x ∈ xsOf all o sk, ev s' x = ev s x) (h2 : ∀ k ∈ xRefs (ysOf all o sk) s ++ e.ex, s'.o k = s.o k) (h3 : ∀ k ∈ xRefs (xsOf all o sk) s, szO (s'.o k) = szO (s.o k)) (h : GI A P T all o sk e s) : GI A P T all o sk e s' := by
 refine ⟨by rw [wantedA_frame (fun x hx => h1 x (by unfold xsOf; simp [hx]))]; exact h.1, ?_⟩
 cases sk with
 | true => exact h.2
 | false =>
  refine gives_frame h.2 (fun x hx => h1 x (by unfold xsOf; simp only [List.mem_append]; exact .inr hx)) (fun k hk => h2 k ?_) (fun k hk => h3 k (by unfold xsOf xRefs; rw [List.flatMap_append, List.mem_append]; exact .inr hk))
  unfold opLook at hk
  unfold xRefs ysOf at *
  rw [List.flatMap_append, List.append_assoc, List.mem_append]
  exact .inr hk
theorem looks_mem {o : Oper} {sk : Bool} {t : Nat} (h : Operand.tmp t ∈ xsOf all o sk) : t ∈ o.looksAt all.toArray := by
 unfold Oper.looksAt
 unfold xsOf guardOps at h
 rw [List.mem_append] at h ⊢
 rcases h with h | h
 ·right
  cases hg : o.guard with
  | none => rw [hg] at h; cases h
  | some p =>
   obtain ⟨g, want⟩ := p
   rw [hg] at h
   simp only at h ⊢
   cases hp : all[g]? with
   | none => rw [hp] at h; cases h
   | some q =>
    rw [hp] at h
    simp only at h
    cases hd : q.dst with
    | none => rw [hd] at h; cases h
    | some d => rw [hd] at h; simp at h; subst h; simp [hp, hd]
 ·left
  cases sk with
  | true => cases h
  | false => rw [List.mem_filterMap]; exact ⟨_, h, rfl⟩
def Run (A : Prims) (P : Program) (T : TT) (all : List Oper) : List (Nat × Lg) → St → St → Prop
 | [], s, s' => s' = s
 | (i, lg) :: r, s, s' => ∃ o sk e, all[i]? = some o ∧ GI A P T all o sk e s ∧ lg = lgX (xsOf all o sk) (ysOf all o sk) s e ∧ Run A P T all r (e.app o.dst s) s'
def Ind (all : List Oper) (p q : Nat × Lg) : Prop := (indep p.2 q.2 = true ∧ q.2.whole = true) ∧ ∃ oj oi, all[p.1]? = some oj ∧ all[q.1]? = some oi ∧ oj.apart all.toArray oi = true
theorem run_front : ∀ (L1 : List (Nat × Lg)) (q : Nat × Lg) (L2 : List (Nat × Lg)) (s s' : St), Run A P T all (L1 ++ q :: L2) s s' → (∀ p ∈ L1, Ind all p q) → Run A P T all (q :: (L1 ++ L2)) s s'
 | [], q, L2, s, s', h, _ => h
 | (j, lj) :: L1, (i, li), L2, s, s', h, hind => by
  obtain ⟨oj, skj, ej, hoj, hgj, hlj, hrun⟩ := h
  obtain ⟨oi, ski, ei, hoi, hgi, hli, hrest⟩ := run_front L1 (i, li) L2 _ s' hrun (fun p hp => hind p (by simp [hp]))
  obtain ⟨⟨hin, hw⟩, oj', oi', hoj', hoi', hap⟩ := hind (j, lj) (by simp)
  simp only at hoj' hoi' hin hw
  rw [hoj] at hoj'; injection hoj' with hoj'; subst hoj'
  rw [hoi] at hoi'; injection hoi' with hoi'; subst hoi'
  obtain ⟨a1, a2, a3⟩ := Oper.apart_spec hap
  rw [hlj, hli] at hin
  rw [hli] at hw
  obtain ⟨c1, c2, c3, c4, c5⟩ := commute (Gi := GI A P T all oi ski ei) (Gj := GI A P T all oj skj ej) (fun s s' h1 h2 h3 h => GI_frame h1 h2 h3 h) (fun s s' h1 h2 h3 h => GI_frame h1 h2 h3 h) (fun x hx => ysOf_sub hx) (fun x hx => ysOf_sub hx) hgj hgi hin
   (fun d hd hm => a1 d hd (looks_mem hm)) a2 (fun d hd hm => a3 d hd (looks_mem hm)) hw
  exact ⟨oi, ski, ei, hoi, c1, by rw [hli, c2], oj, skj, ej, hoj, c3, by rw [hlj, c4], by rw [c5]; exact hrest⟩
theorem setTB_self {j d : Nat} {b : Bool} (h : yld all s j = some (d, b)) : setTB s d b = s := by
 unfold yld at h
 split at h
 ·rename_i o ho
  split at h
  ·rename_i d' hd
   split at h
   ·rename_i b' hb
    injection h with h; injection h with h1 h2; subst h1; subst h2
    unfold boolOf at hb
    split at hb
    ·rename_i q hq
     injection hb with hb; subst hb
     unfold setTB
     have : s.t.set d' (.c (.v (.bool q))) = s.t := by
      apply List.ext_getElem?
      intro i
      rw [List.getElem?_set]
      split
      ·rename_i hi
       subst hi
       rw [List.getD_eq_getElem?_getD] at hq
       cases hx : s.t[d']? with
       | none => rw [hx] at hq; cases hq
       | some u => rw [hx] at hq; simp at hq; subst hq; simp [(List.getElem?_eq_some_iff.1 hx).1]
      ·rfl
     rw [this]
    ·cases hb
   ·cases h
  ·cases h
 ·cases h
theorem run_of_wpD {K : List Lg → St → Prop} : ∀ (l : List Oper) (k : Nat) (s : St) (ls : List Lg), (∀ j, l[j]? = all[k + j]?) → wpD A P T all l s ls K →
  ∃ L s', Run A P T all L s s' ∧ L.map (·.1) = List.range' k l.length ∧ K (ls ++ L.map (·.2)) s'
 | [], k, s, ls, _, h => ⟨[], s, rfl, rfl, by unfold wpD at h; simpa using h⟩
 | o :: r, k, s, ls, hl, h => by
  have ho : all[k]? = some o := by have := hl 0; simpa using this.symm
  have hr : ∀ j, r[j]? = all[k + 1 + j]? := fun j => by
   have := hl (j + 1)
   rw [List.getElem?_cons_succ] at this
   rw [this]; congr 1; omega
  have key : ∀ (sk : Bool) (e : Eff), GI A P T all o sk e s → wpD A P T all r (e.app o.dst s) (ls ++ [lgX (xsOf all o sk) (ysOf all o sk) s e]) K → ∃ L s', Run A P T all L s s' ∧ L.map (·.1) = List.range' k (o :: r).length ∧ K (ls ++ L.map (·.2)) s' := by
   intro sk e hg hw
   obtain ⟨L, s', h1, h2, h3⟩ := run_of_wpD r (k + 1) _ _ hr hw
   refine ⟨(k, lgX (xsOf all o sk) (ysOf all o sk) s e) :: L, s', ⟨o, sk, e, ho, hg, rfl, h1⟩, by simp [h2, List.range'_succ], by simpa using h3⟩
  unfold wpD at h
  split at h
  ·rename_i hg
   obtain ⟨e, h1, h2⟩ := gives_of_oneD h
   exact key false e ⟨by unfold wantedA; rw [hg]; rfl, h1⟩ h2
  ·rename_i j want hg
   split at h
   ·rename_i hd
    exact key true e0 ⟨by unfold wantedA; rw [hg]; simp only [hd]; rfl, rfl⟩ h
   rename_i hd
   split at h
   ·rename_i d b hy
    have hwa : wantedA all o s = some (b == want) := by unfold wantedA; rw [hg]; simp only [hy, hd]
    by_cases hb : b = want
    ·subst hb
     have h1 := brW_yes h rfl
     rw [setTB_self hy] at h1
     obtain ⟨e, h1, h2⟩ := gives_of_oneD h1
     exact key false e ⟨by rw [hwa]; simp, h1⟩ h2
    ·have hb' : b = !want := by cases b <;> cases want <;> simp_all
     have h1 := brW_no h hb'
     rw [← hb', setTB_self hy] at h1
     exact key true e0 ⟨by rw [hwa]; simp [hb], rfl⟩ h1
   ·exact h.elim

theorem maskOf_bit {acc : List Nat} {j : Nat} : ∀ (l : List Edge) (m : Nat), (l.foldl (fun m e => if Region.binds .any e then m ||| (1 <<< e.on) ||| acc.getD e.on 0 else m) m).testBit j = true →
  m.testBit j = true ∨ ∃ e ∈ l, Region.binds .any e = true ∧ (e.on = j ∨ (acc.getD e.on 0).testBit j = true)
 | [], m, h => .inl h
 | e :: r, m, h => by
  rw [List.foldl_cons] at h
  rcases maskOf_bit r _ h with h1 | ⟨e', he', hb, hh⟩
  ·by_cases hb : Region.binds .any e = true
   ·rw [if_pos hb] at h1
    rw [Nat.testBit_or, Nat.testBit_or, Bool.or_eq_true, Bool.or_eq_true] at h1
    rcases h1 with (h1 | h1) | h1
    ·exact .inl h1
    ·refine .inr ⟨e, by simp, hb, .inl ?_⟩
     rw [Nat.testBit_shiftLeft, Bool.and_eq_true] at h1
     obtain ⟨g1, g2⟩ := h1
     have g1 : e.on ≤ j := by simpa using g1
     by_cases hz : j - e.on = 0
     ·omega
     ·exfalso
      obtain ⟨q, hq⟩ : ∃ q, j - e.on = q + 1 := ⟨j - e.on - 1, by omega⟩
      rw [hq] at g2
      simp [Nat.testBit_succ] at g2
    ·exact .inr ⟨e, by simp, hb, .inr h1⟩
   ·rw [if_neg hb] at h1
    exact .inl h1
  ·exact .inr ⟨e', by simp [he'], hb, hh⟩
theorem masksL_acc : ∀ (l : List Oper) (acc : List Nat) (i : Nat), i < acc.length → (masksL l acc).getD i 0 = acc.getD i 0
 | [], acc, i, _ => rfl
 | o :: r, acc, i, h => by
  rw [masksL, masksL_acc r _ i (by simp; omega)]
  simp [List.getD_eq_getElem?_getD, List.getElem?_append_left h]
theorem masksL_get : ∀ (l : List Oper) (acc : List Nat) (k : Nat) (o : Oper), l[k]? = some o → (∀ e ∈ o.after.toList, Region.binds .any e = true → e.on < acc.length + k) → ∀ j, ((masksL l acc).getD (acc.length + k) 0).testBit j = true →
  ∃ e ∈ o.after.toList, Region.binds .any e = true ∧ (e.on = j ∨ ((masksL l acc).getD e.on 0).testBit j = true)
 | [], acc, k, o, h, _, _, _ => by simp at h
 | o' :: r, acc, k, o, h, hlt, j, hj => by
  rw [masksL] at hj ⊢
  cases k with
  | zero =>
   simp at h
   subst h
   rw [Nat.add_zero, masksL_acc r _ _ (by simp)] at hj
   have : (acc ++ [maskOf acc o']).getD acc.length 0 = maskOf acc o' := by simp [List.getD_eq_getElem?_getD]
   rw [this] at hj
   rcases maskOf_bit _ _ hj with h1 | ⟨e, he, hb, hh⟩
   ·simp at h1
   ·refine ⟨e, he, hb, ?_⟩
    have hl := hlt e he hb
    rw [masksL_acc r _ _ (by simp; omega)]
    have : (acc ++ [maskOf acc o']).getD e.on 0 = acc.getD e.on 0 := by
     simp [List.getD_eq_getElem?_getD, List.getElem?_append_left (show e.on < acc.length by omega)]
    rw [this]
    exact hh
  | succ k =>
   have hlen : acc.length + (k + 1) = (acc ++ [maskOf acc o']).length + k := by simp; omega
   rw [hlen] at hj hlt
   exact masksL_get r _ k o (by simpa using h) hlt j hj
end
section
variable {P : Program} {T : TT} {w0 : World} {I0 : Fr} {all : List Oper}
structure Good (all : List Oper) (L : List (Nat × Lg)) (listed : Array Bool) : Prop where
 size : listed.size = all.length
 mem : ∀ i, i ∈ L.map (·.1) ↔ i < all.length ∧ listed.getD i true = false
 ind : L.Pairwise fun p q => ((masksL all []).getD q.1 0).testBit p.1 = true ∨ Ind all p q
 asc : L.Pairwise fun p q => p.1 < q.1
 closed : ∀ k o, all[k]? = some o → listed.getD k true = true → ∀ e ∈ o.after.toList, Region.binds .any e = true → listed.getD e.on true = true
def EdgesOk (all : List Oper) : Prop := ∀ (k : Nat) o, all[k]? = some o → ∀ e ∈ o.after.toList, Region.binds .any e = true → e.on < k
theorem killO_nil (o : Nat → AO) : killO [] o = o := by
 funext k; simp [killO, AO.kill_nil]
theorem ready_iff {listed : Array Bool} {i : Nat} : i ∈ Region.ready .any all.toArray listed ↔ i < all.length ∧ listed.getD i true = false ∧ ∃ o, all[i]? = some o ∧ ∀ e ∈ o.after.toList, Region.binds .any e = true → listed.getD e.on false = true := by
 unfold Region.ready
 rw [List.mem_filter, List.mem_range]
 simp only [List.size_toArray, Bool.and_eq_true, Bool.not_eq_true', List.getElem?_toArray]
 constructor
 ·rintro ⟨h1, h2, h3⟩
  refine ⟨h1, h2, ?_⟩
  cases ho : all[i]? with
  | none => rw [List.getElem?_eq_none_iff] at ho; omega
  | some o =>
   rw [ho] at h3
   simp only [Option.map_some, Option.getD_some] at h3
   refine ⟨o, rfl, fun e he hb => ?_⟩
   rw [Array.all_eq_true'] at h3
   have := h3 e (by simpa using he)
   simpa [hb] using this
 ·rintro ⟨h1, h2, o, ho, h3⟩
  refine ⟨h1, h2, ?_⟩
  rw [ho]
  simp only [Option.map_some, Option.getD_some]
  rw [Array.all_eq_true']
  intro e he
  have := h3 e (by simpa using he)
  cases hb : Region.binds .any e <;> simp_all
theorem getD_tf {listed : Array Bool} {i : Nat} (h : i < listed.size) : listed.getD i true = listed.getD i false := by
 simp [Array.getD_eq_getD_getElem?, h]
theorem mask_listed {L : List (Nat × Lg)} {listed : Array Bool} (hE : EdgesOk all) (hG : Good all L listed) : ∀ (n i : Nat) (o : Oper), i < n → all[i]? = some o → (∀ e ∈ o.after.toList, Region.binds .any e = true → listed.getD e.on true = true) → ∀ j, ((masksL all []).getD i 0).testBit j = true → listed.getD j true = true
 | 0, i, _, h, _, _, _, _ => absurd h (by omega)
 | n + 1, i, o, h, ho, hl, j, hj => by
  obtain ⟨e, he, hb, hh⟩ := masksL_get all [] i o ho (by simpa using hE i o ho) j (by simpa using hj)
  have h1 := hl e he hb
  rcases hh with rfl | hh
  ·exact h1
  ·have hlt := hE i o ho e he hb
   have hi : i < all.length := (List.getElem?_eq_some_iff.1 ho).1
   have ho' : all[e.on]? = some all[e.on] := List.getElem?_eq_getElem (by omega)
   exact mask_listed hE hG n e.on _ (by omega) ho' (hG.closed e.on _ ho' h1) j hh
theorem any_sound (hT : TOk P T) (hE : EdgesOk all) {Q : Exit → Act → World → Prop} {send : St} (hQ : ∀ a w, Rel w0 I0 send a w → Q .normal a w) :
  ∀ (n : Nat) (L : List (Nat × Lg)) (listed : Array Bool) (s : St) (a : Act) (w : World), L.length = n → Run std P T all L s send → Rel w0 I0 s a w → Good all L listed → wpAny P .any all.toArray Q n listed a w := by
 intro n
 induction n with
 | zero =>
  intro L listed s a w hn hrun hR hG
  have : L = [] := List.length_eq_zero_iff.1 hn
  subst this
  simp only [Run] at hrun
  subst hrun
  refine ⟨?_, hQ a w hR⟩
  rw [List.eq_nil_iff_forall_not_mem]
  intro i hi
  obtain ⟨h1, h2, _⟩ := ready_iff.1 hi
  have := (hG.mem i).2 ⟨h1, h2⟩
  simp at this
 | succ n ih =>
  intro L listed s a w hn hrun hR hG
  refine ⟨fun hnil => ?_, fun i hi => ?_⟩
  ·exfalso
   cases L with
   | nil => simp at hn
   | cons p r =>
    obtain ⟨h1, h2⟩ := (hG.mem p.1).1 (by simp)
    have ho : all[p.1]? = some all[p.1] := List.getElem?_eq_getElem h1
    have : p.1 ∈ Region.ready .any all.toArray listed := ready_iff.2 ⟨h1, h2, _, ho, fun e he hb => by
     have hlt := hE p.1 _ ho e he hb
     have hl : listed.getD e.on true = true := by
      by_cases hx : listed.getD e.on true = true
      ·exact hx
      ·exfalso
       have hx' : listed.getD e.on true = false := by simpa using hx
       have hm := (hG.mem e.on).2 ⟨by omega, hx'⟩
       rw [List.map_cons, List.mem_cons] at hm
       rcases hm with hm | hm
       ·omega
       ·obtain ⟨q, hq, hq1⟩ := List.mem_map.1 hm
        have := (List.pairwise_cons.1 hG.asc).1 q hq
        omega
     rwa [getD_tf (by rw [hG.size]; omega)] at hl⟩
    rw [hnil] at this
    cases this
  ·obtain ⟨h1, h2, o, ho, h3⟩ := ready_iff.1 hi
   have hm := (hG.mem i).2 ⟨h1, h2⟩
   obtain ⟨q, hq, hqi⟩ := List.mem_map.1 hm
   obtain ⟨L1, L2, rfl⟩ := List.append_of_mem hq
   subst hqi
   have hlist : ∀ e ∈ o.after.toList, Region.binds .any e = true → listed.getD e.on true = true := fun e he hb => by
    have := h3 e he hb
    have hlt := hE q.1 o ho e he hb
    rwa [getD_tf (by rw [hG.size]; omega)]
   have hind : ∀ p ∈ L1, Ind all p q := by
    intro p hp
    have := (List.pairwise_append.1 hG.ind).2.2 p hp q (by simp)
    rcases this with hb | hb
    ·exfalso
     have hl := mask_listed hE hG (q.1 + 1) q.1 o (by omega) ho hlist p.1 hb
     have := ((hG.mem p.1).1 (List.mem_map.2 ⟨p, by simp [hp], rfl⟩)).2
     rw [this] at hl
     cases hl
    ·exact hb
   have hrun' := run_front L1 q L2 s send hrun hind
   obtain ⟨oi, sk, e, hoi, hgi, hlg, hrest⟩ := hrun'
   rw [ho] at hoi; injection hoi with hoi; subst hoi
   have hG' : Good all (L1 ++ L2) (listed.setIfInBounds q.1 true) := by
    have hsub : (L1 ++ L2).Sublist (L1 ++ q :: L2) := List.Sublist.append (List.Sublist.refl _) (List.sublist_cons_self _ _)
    have hasc := hG.asc
    rw [List.pairwise_append] at hasc
    obtain ⟨p1, p2, p3⟩ := hasc
    have hne : ∀ p ∈ L1 ++ L2, p.1 ≠ q.1 := by
     intro p hp
     rw [List.mem_append] at hp
     rcases hp with hp | hp
     ·have := p3 p hp q (by simp); omega
     ·have := (List.pairwise_cons.1 p2).1 p hp; omega
    have hget : ∀ k, (listed.setIfInBounds q.1 true).getD k true = if k = q.1 then true else listed.getD k true := by
     intro k
     rw [Array.getD_eq_getD_getElem?, Array.getD_eq_getD_getElem?, Array.getElem?_setIfInBounds]
     by_cases hk : k = q.1
     ·subst hk; simp [hG.size, h1]
     ·rw [if_neg (fun h => hk h.symm), if_neg hk]
    refine ⟨by simp [hG.size], fun i => ?_, hG.ind.sublist hsub, hG.asc.sublist hsub, fun k o' hk hl e' he' hb => ?_⟩
    ·rw [hget]
     constructor
     ·intro hm
      obtain ⟨p, hp, rfl⟩ := List.mem_map.1 hm
      have hh := (hG.mem p.1).1 (List.mem_map.2 ⟨p, by simp only [List.mem_append, List.mem_cons] at hp ⊢; rcases hp with h | h <;> simp [h], rfl⟩)
      rw [if_neg (hne p hp)]
      exact hh
     ·rintro ⟨g1, g2⟩
      split at g2
      ·cases g2
      ·rename_i hiq
       obtain ⟨p, hp, hpi⟩ := List.mem_map.1 ((hG.mem i).2 ⟨g1, g2⟩)
       refine List.mem_map.2 ⟨p, ?_, hpi⟩
       simp only [List.mem_append, List.mem_cons] at hp ⊢
       rcases hp with h | h | h
       ·exact .inl h
       ·subst h; exact absurd hpi.symm hiq
       ·exact .inr h
    ·rw [hget] at hl ⊢
     split
     ·rfl
     ·split at hl
      ·rename_i hkq
       subst hkq
       rw [ho] at hk; injection hk with hk; subst hk
       exact hlist e' he' hb
      ·exact hG.closed k o' hk hl e' he' hb
   have hlen : (L1 ++ L2).length = n := by simp at hn ⊢; omega
   unfold wpOp
   rw [List.getElem?_toArray, ho]
   simp only
   have hwa : Region.wanted o (yielded all.toArray a.tmps) = !sk := by
    have hw := hgi.1
    unfold wantedA at hw
    cases hg : o.guard with
    | none => rw [hg] at hw; simp at hw; subst hw; simp [Region.wanted, hg]
    | some p =>
     obtain ⟨j, want⟩ := p
     rw [hg] at hw
     simp only at hw
     split at hw
     ·rename_i hd
      have hyl := dead_sound (ops := all.toArray) hR (by simpa using hd)
      injection hw with hw
      simp [Region.wanted, hg, hyl, ← hw]
     split at hw
     ·rename_i d b hy
      obtain ⟨hyl, _⟩ := yld_sound (ops := all.toArray) hR (by simpa using hy)
      injection hw with hw
      simp [Region.wanted, hg, hyl, ← hw]
     ·cases hw
   rw [hwa]
   cases sk with
   | true =>
    simp only [Bool.not_true, Bool.false_eq_true, if_false]
    have he := hgi.2
    simp only [if_true] at he
    subst he
    refine ih (L1 ++ L2) _ _ _ _ hlen hrest ?_ hG'
    obtain ⟨L, I, hR⟩ := hR
    have : (e0.app o.dst s) = AM.put s o.dst (.tup []) := by
     rw [Eff.app_eq]; unfold e0
     simp only [AV.kill_nil', List.map_id, killO_nil, updL]
    rw [this]
    exact ⟨L, I, hR.put o.dst (y := undef) ⟨#[], rfl, rfl, fun i x hx => by simp at hx⟩⟩
   | false =>
    simp only [Bool.not_false, if_true]
    left
    have he := hgi.2
    simp only [Bool.false_eq_true, if_false] at he
    exact gives_sound hT hR he fun a' w' hR' => ih (L1 ++ L2) _ _ _ _ hlen hrest hR' hG'
theorem draw_sound (hT : TOk P T) (hm : P.follows .mixedOrders = true) {id : Nat} {ops : Array Oper} {Q : Exit → Act → World → Prop} {K : St → Prop} {s : St} {a : Act} {w : World} (hR : Rel w0 I0 s a w) (hQ : ∀ s' a w, Rel w0 I0 s' a w → K s' → Q .normal a w)
  (h : wpD std P T ops.toList ops.toList s [] fun ls s' => chk ops.toList ls = true ∧ K s') : (Code.region id ops true).wp P Q a w := by
 obtain ⟨L, send, hrun, hidx, hchk, hK⟩ := run_of_wpD ops.toList 0 s [] (fun j => by simp) h
 simp only [List.nil_append] at hchk
 unfold chk at hchk
 simp only [Bool.and_eq_true] at hchk
 obtain ⟨⟨c1, _⟩, c4⟩ := hchk
 have hlen : L.length = ops.toList.length := by have := congrArg List.length hidx; simpa using this
 have hE : EdgesOk ops.toList := by
  intro k o ho e he hb
  have h1 := List.all_eq_true.1 c1 (o, k) (by
   rw [List.mem_iff_getElem?]
   exact ⟨k, by rw [List.getElem?_zipIdx, ho]; simp⟩)
  have h2 := List.all_eq_true.1 h1 e he
  simp only [hb, Bool.not_true, Bool.false_or, decide_eq_true_eq] at h2
  exact h2
 have hfst : ∀ (i : Nat) (p : Nat × Lg), L[i]? = some p → p.1 = i := by
  intro i p hp
  have h1 : (L.map (·.1))[i]? = some p.1 := by simp [hp]
  rw [hidx] at h1
  have hi : i < ops.toList.length := by rw [← hlen]; exact (List.getElem?_eq_some_iff.1 hp).1
  rw [List.getElem?_range' (by exact hi)] at h1
  injection h1 with h1
  omega
 have hRd : Rel w0 I0 s a { w with drawn := w.drawn + 1 } := by
  obtain ⟨L, I, hR⟩ := hR
  exact ⟨L, I, hR.drew⟩
 refine wp_region_any hm ?_
 have hpair : ∀ (i j : Nat) (p q : Nat × Lg), i < j → L[i]? = some p → L[j]? = some q → ((masksL ops.toList []).getD q.1 0).testBit p.1 = true ∨ Ind ops.toList p q := by
  intro i j p q hij hp hq
  have hpi := hfst i p hp
  have hqj := hfst j q hq
  have hj : j < ops.toList.length := by rw [← hlen]; exact (List.getElem?_eq_some_iff.1 hq).1
  have h1 := List.all_eq_true.1 c4 j (by simpa using hj)
  have h2 := List.all_eq_true.1 h1 i (by simpa using hij)
  unfold pairOk at h2
  rw [Bool.or_eq_true] at h2
  rw [hpi, hqj]
  rcases h2 with h2 | h2
  ·exact .inl h2
  ·rw [Bool.and_eq_true, Bool.and_eq_true] at h2
   obtain ⟨⟨g1, g0⟩, g2⟩ := h2
   have e1 : (L.map (·.2)).getD i lg0 = p.2 := by simp [List.getD_eq_getElem?_getD, hp]
   have e2 : (L.map (·.2)).getD j lg0 = q.2 := by simp [List.getD_eq_getElem?_getD, hq]
   rw [e1, e2] at g1
   rw [e2] at g0
   split at g2
   ·rename_i oa ob ha hb
    exact .inr ⟨⟨g1, g0⟩, oa, ob, by rw [hpi]; exact ha, by rw [hqj]; exact hb, g2⟩
   ·cases g2
 have hsz : ops.size = L.length := by rw [hlen, Array.length_toList]
 have := any_sound (all := ops.toList) hT hE (Q := Q) (send := send) (fun a w hR' => hQ send a w hR' hK) ops.size L (Array.replicate ops.size false) s a _ hsz.symm hrun hRd ⟨by simp, fun i => by
  rw [hidx, List.mem_range']
  simp only [Nat.zero_add, Nat.one_mul, Array.length_toList]
  constructor
  ·rintro ⟨k, hk, rfl⟩; exact ⟨hk, by simp [Array.getD_eq_getD_getElem?, hk]⟩
  ·rintro ⟨hi, _⟩; exact ⟨i, hi, rfl⟩,
  List.pairwise_iff_getElem.2 (fun i j hi hj hij => hpair i j _ _ hij (List.getElem?_eq_getElem hi) (List.getElem?_eq_getElem hj)),
  List.pairwise_iff_getElem.2 (fun i j hi hj hij => by rw [hfst i _ (List.getElem?_eq_getElem hi), hfst j _ (List.getElem?_eq_getElem hj)]; exact hij),
  fun k o hk hl => by
   have : k < ops.size := by have := (List.getElem?_eq_some_iff.1 hk).1; simpa using this
   simp [Array.getD_eq_getD_getElem?, this] at hl⟩
 simpa using this
end
def lookT (l : List (Nat × AV)) (i : Nat) : AV := match l with | [] => .any | (j, x) :: r => if i = j then x else lookT r i
def sparse (n : Nat) (l : List (Nat × AV)) (os : List (Nat × AO)) : St := ⟨(List.range n).map (lookT l), lookO os⟩
def leT (s : St) (i : Nat) (x : AV) : Prop := match s.t[i]? with | some y => y.le x | none => False
def allLe (s : St) : List (Nat × AV) → Prop
 | [] => True
 | (i, x) :: r => leT s i x ∧ allLe s r
def allOle (s : St) : List (Nat × AO) → Prop
 | [] => True
 | (k, x) :: r => Ole (s.o k) x ∧ allOle s r
def refsIn (l : List (Nat × AV)) (os : List (Nat × AO)) : Bool :=
 (l.all fun p => p.2.refs.all fun k => (keysOf os).contains k) && os.all fun p => (deepO p.2).all fun k => (keysOf os).contains k
section
variable {P : Program} {T : TT} {w0 w w' : World} {I0 : Fr} {I I' : Nat → Prop} {L L' : Lay} {s : St} {a : Act} {n : Nat} {l : List (Nat × AV)} {os : List (Nat × AO)}
theorem allLe_get : ∀ (l : List (Nat × AV)), allLe s l → ∀ i x, lookT l i = x → x = .any ∨ (leT s i x ∧ (i, x) ∈ l)
 | [], _, i, x, h => .inl h.symm
 | (j, y) :: r, hl, i, x, h => by
  unfold lookT at h
  split at h
  ·rename_i hij; subst hij; subst h; exact .inr ⟨hl.1, by simp⟩
  ·rcases allLe_get r hl.2 i x h with h1 | ⟨h1, h2⟩
   ·exact .inl h1
   ·exact .inr ⟨h1, by simp [h2]⟩
theorem allOle_get : ∀ (os : List (Nat × AO)), allOle s os → ∀ k, lookO os k = .gone ∨ (Ole (s.o k) (lookO os k) ∧ (k, lookO os k) ∈ os)
 | [], _, k => .inl rfl
 | (j, y) :: r, hl, k => by
  unfold lookO
  split
  ·rename_i hij; subst hij; exact .inr ⟨hl.1, by simp⟩
  ·rcases allOle_get r hl.2 k with h1 | ⟨h1, h2⟩
   ·exact .inl h1
   ·exact .inr ⟨h1, by simp [h2]⟩
theorem lookO_key : ∀ (os : List (Nat × AO)), allOle s os → ∀ k, k ∈ keysOf os → lookO os k ≠ .gone
 | [], _, k, h => by cases h
 | (j, y) :: r, hl, k, h => by
  unfold lookO
  split
  ·rename_i hij
   subst hij
   rintro rfl
   have := hl.1
   cases hs : s.o k <;> rw [hs] at this <;> exact this.elim
  ·rename_i hij
   refine lookO_key r hl.2 k ?_
   rw [keysOf, List.map_cons, List.mem_cons] at h
   exact h.resolve_left hij
theorem le_sparse (hn : s.t.length = n) (ht : allLe s l) (ho : allOle s os) (hr : refsIn l os = true) : s.le (sparse n l os) := by
 intro w0 I0 a w ⟨L, I, h⟩
 unfold refsIn at hr
 rw [Bool.and_eq_true] at hr
 obtain ⟨hr1, hr2⟩ := hr
 have hole : ∀ k, lookO os k ≠ .gone → Ole (s.o k) (lookO os k) := fun k hk => by
  rcases allOle_get os ho k with h1 | h1
  ·exact (hk h1).elim
  ·exact h1.1
 have hlive : ∀ k, lookO os k ≠ .gone → s.o k ≠ .gone := fun k hk hg => by
  have := hole k hk
  rw [hg] at this; exact this.elim
 have hsame : ∀ k, k ∈ keysOf os → Same L (obj s.o) (.r k) L (obj (lookO os)) (.r k) := fun k hk => ⟨rfl, (hole k (lookO_key os ho k hk)).like⟩
 have hC : ∀ (x : AC) (y : Value), (∀ k ∈ x.ref, k ∈ keysOf os) → RelC L I w (obj s.o) x y → RelC L I w (obj (lookO os)) x y := by
  intro x y hx hrel
  have := RelC.ren_fwd (L := L) (I := I) (w := w) (ob := obj s.o) (L' := L) (o' := obj (lookO os)) (f := fun k => if k ∈ keysOf os then some k else none) (fun k q hq => by
   split at hq
   ·rename_i hk; injection hq with hq; subst hq; exact hsame _ hk
   ·cases hq) x y (fun k hk => by simp [hx k hk]) hrel
  rwa [ren_same _ x (fun k hk => by simp [hx k hk])] at this
 have h1 : ∀ (x : AV) (y : Value), (∀ k ∈ x.refs1, k ∈ keysOf os) → Rel1 (RelC L I w (obj s.o)) x y → Rel1 (RelC L I w (obj (lookO os))) x y := by
  intro x y hx hrel
  cases x with
  | c x => exact hC x y hx hrel
  | agg l =>
   obtain ⟨ys, rfl, hs, hc⟩ := hrel
   refine ⟨ys, rfl, hs, fun i x hi => ?_⟩
   obtain ⟨u, hu, hr⟩ := hc i x hi
   exact ⟨u, hu, hC x u (fun k hk => hx k (List.mem_flatMap.2 ⟨x, List.mem_of_getElem? hi, hk⟩)) hr⟩
  | tup l => exact hrel.elim
  | any => exact hrel.elim
 have hV : ∀ (x : AV) (y : Value), (∀ k ∈ x.refs, k ∈ keysOf os) → RelV (RelC L I w (obj s.o)) x y → RelV (RelC L I w (obj (lookO os))) x y := by
  intro x y hx hrel
  cases x with
  | c x => exact h1 (.c x) y hx hrel
  | agg l => exact h1 (.agg l) y hx hrel
  | tup l =>
   obtain ⟨ys, rfl, hs, hc⟩ := hrel
   refine ⟨ys, rfl, hs, fun i x hi => ?_⟩
   obtain ⟨u, hu, hr⟩ := hc i x hi
   exact ⟨u, hu, h1 x u (fun k hk => hx k (by simp only [AV.refs, List.mem_flatMap]; exact ⟨x, List.mem_of_getElem? hi, hk⟩)) hr⟩
  | any => trivial
 have hdeep : ∀ k, lookO os k ≠ .gone → ∀ q ∈ deepO (lookO os k), q ∈ keysOf os := by
  intro k hk q hq
  have h5 := List.all_eq_true.1 hr2 _ (lookO_mem os k hk)
  have h6 := List.all_eq_true.1 h5 q hq
  simpa using h6
 have hsub : ∀ k i j, lookO os k ≠ .gone → obj (lookO os) (.s k i j) = obj s.o (.s k i j) := by
  intro k i j hk
  have ho := hole k hk
  simp only [obj]
  cases hs : s.o k with
  | gone => rw [hs] at ho; exact ho.elim
  | var l => rw [hs] at ho; cases hx : lookO os k <;> rw [hx] at ho <;> first | exact ho.elim | rfl
  | arr m rs N sz g =>
   rw [hs] at ho
   cases hx : lookO os k with
   | gone => rw [hx] at ho; exact ho.elim
   | var l => rw [hx] at ho; exact ho.elim
   | arr m' rs' N' sz' g' =>
    rw [hx] at ho
    obtain ⟨_, _, _, rfl, rfl, hg⟩ := ho
    simp only
    split
    ·rename_i hlt; rw [hg i hlt.1 j hlt.2]
    ·rfl
 have hobs : ∀ id : Id, obj (lookO os) id ≠ .gone → lookO os id.root ≠ .gone ∧ obj s.o id ≠ .gone := by
  intro id hid
  cases id with
  | r k => exact ⟨hid, hlive k hid⟩
  | s k i j =>
   have hk : lookO os k ≠ .gone := by intro hk; apply hid; simp only [obj]; rw [hk]
   exact ⟨hk, by rw [hsub k i j hk] at hid; exact hid⟩
 refine ⟨L, I, ⟨⟨fun id => ?_, fun id id' b x x' g1 g2 => h.heap.inj id id' b x x' (hobs id g1).2 (hobs id' g2).2, h.heap.imm, h.heap.glo⟩, ⟨by simp [sparse, h.tmps.1, hn], fun i x hx => ?_⟩, h.defers, h.below, h.old, h.only, fun id b x hg => h.new id b x (hobs id hg).2, fun k hk hg => h.kept k hk (hlive k hg)⟩⟩
 ·show ObjOk L I w (obj (lookO os)) id
  by_cases hg : obj (lookO os) id = .gone
  ·unfold ObjOk; rw [hg]; trivial
  ·obtain ⟨hk, hsg⟩ := hobs id hg
   cases id with
   | s k i j =>
    obtain ⟨m2, rs2, n2, sz2, get2, p2, q2, g2, _, _, _, _, h3⟩ := obj_s hsg
    obtain ⟨h4, h5⟩ := h.heap.arr h3
    unfold ObjOk
    rw [hsub k i j hk, h3]
    refine ⟨?_, h5⟩
    rcases h4 with h6 | ⟨b, base, C, e, h6, h7, h8, h9, h10⟩
    ·exact .inl h6
    ·refine .inr ⟨b, base, C, e, h6, h7, h8, h9, fun i' hi' j' hj' => ?_⟩
     obtain ⟨u, hu, hr⟩ := h10 i' hi' j' hj'
     refine ⟨u, hu, RelX.of (hC _ _ (fun z hz => by have := h5 i' hi' j' hj' z hz; cases this) hr.toC) (isOw_cp _)⟩
   | r k =>
    have ho := hole k hk
    have hk' : lookO os k ≠ .gone := hk
    have hd := hdeep k hk'
    unfold ObjOk
    show match lookO os k with | .gone => _ | .var l => _ | .arr m rs N sz get => _
    cases hs : s.o k with
    | gone => rw [hs] at ho; exact ho.elim
    | var l =>
     rw [hs] at ho
     cases hx : lookO os k with
     | gone => exact (hk' hx).elim
     | arr => rw [hx] at ho; exact ho.elim
     | var l' =>
      rw [hx] at ho hd
      have e : l = l' := ho
      subst e
      obtain ⟨b, C, e, g1, g2, g3, g4, g5⟩ := h.heap.var (id := .r k) hs
      exact ⟨b, C, e, g1, g2, g3, g4, fun i x hx => by obtain ⟨u, hu, hr⟩ := g5 i x hx; exact ⟨u, hu, hC _ _ (fun z hz => hd z (List.mem_flatMap.2 ⟨x, List.mem_of_getElem? hx, hz⟩)) hr⟩⟩
    | arr m rs N sz g =>
     rw [hs] at ho
     cases hx : lookO os k with
     | gone => exact (hk' hx).elim
     | var l => rw [hx] at ho; exact ho.elim
     | arr m' rs' N' sz' g' =>
      rw [hx] at ho hd
      obtain ⟨hm, hmc, hrs, rfl, rfl, hg'⟩ := ho
      obtain ⟨g1, g2⟩ := h.heap.arr (id := .r k) hs
      have hwf : ∀ i, i < N → ∀ j, j < sz → ∀ z ∈ (g' i j).ref, z ∈ rs' := by
       intro i hi j hj z hz
       rcases hrs with h1 | h1
       ·have := List.all_eq_true.1 h1 z (g2 i hi j hj z (by rw [hg' i hi j hj]; exact hz))
        simpa using this
       ·exact h1 i hi j hj z hz
      refine ⟨?_, hwf⟩
      rcases g1 with ⟨g3, g4, g5⟩ | ⟨b, base, C, e, g3, g4, g5, g6, g7⟩
      ·exact .inl ⟨g3, g4, fun c hc => g5 c (hmc c hc)⟩
      ·refine .inr ⟨b, base, C, e, g3, fun hw => g4 (hm hw), g5, g6, fun i hi j hj => ?_⟩
       obtain ⟨u, hu, hr⟩ := g7 i hi j hj
       refine ⟨u, hu, ?_⟩
       rw [hg' i hi j hj] at hr
       cases hxo : isOw (g' i j) with
       | false => exact RelX.of (hC _ _ (fun z hz => hd z (hwf i hi j hj z hz)) hr.toC) hxo
       | true =>
        cases hgx : g' i j with
        | ow p q r =>
         rw [hgx] at hr
         refine Hdr.same (id := .s k i j) (id' := .s k i j) ⟨rfl, ?_⟩ hr
         rw [hsub k i j hk']
         refine AO.like_refl _ ?_
         obtain ⟨_, _, _, _, _, ho, _⟩ := hr
         rw [ho]; simp
        | _ => rw [hgx] at hxo; cases hxo
 ·simp only [sparse, List.getElem?_map, Option.map_eq_some_iff] at hx
  obtain ⟨j, hj, hx⟩ := hx
  have hi : i < n := by
   have := (List.getElem?_eq_some_iff.1 hj).1
   simpa using this
  rw [List.getElem?_range hi] at hj
  injection hj with hj; subst hj
  rcases allLe_get l ht i x hx with rfl | ⟨g1, g2⟩
  ·have : i < a.tmps.size := by rw [h.tmps.1, hn]; exact hi
   exact ⟨a.tmps[i], by simp [this], trivial⟩
  ·unfold leT at g1
   split at g1
   ·rename_i y hy
    obtain ⟨u, hu, hr'⟩ := h.tmps.2 i y hy
    refine ⟨u, hu, hV x u (fun k hk => ?_) (g1 _ _ _ _ _ hr')⟩
    have h5 := List.all_eq_true.1 hr1 (i, x) g2
    have h6 := List.all_eq_true.1 h5 k hk
    simpa using h6
   ·exact g1.elim
end
end Go.Proofs.YtpobpihakgegbaaGreat.AM
