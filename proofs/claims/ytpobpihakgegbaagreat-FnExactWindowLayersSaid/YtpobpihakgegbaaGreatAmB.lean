/-
  THE ABSTRACT MACHINE, SECOND PART: each operation does in the model what is said of it. No condition.
-/
import Derived.Test.YtpobpihakgegbaaGreatAmA
import Derived.Laws.IdiomStrings
namespace Go.Proofs.YtpobpihakgegbaaGreat.AM
open Go Go.Proofs Go.RowKit
set_option linter.unusedVariables false
set_option linter.unusedSimpArgs false
set_option maxRecDepth 100000

section
variable {P : Program} {T : TT} {w0 w : World} {I0 : Fr} {I : Nat → Prop} {L : Lay} {s : St} {a : Act} {o : Oper} {ob : Obs}

theorem run_len (hT : TOk P T) {d : Option TD} {ats : Array TypeId} (hd : d = firstT T ats) {x : AV} {y : Value} (ty : TypeId) (hx : RelV (RelC L I w ob) x y) (hok : (lenA std d x).ok) :
  ∃ z, lenA std d x = ⟨True, .c (.v z), [], []⟩ ∧ z.oneCell' = true ∧ (Builtin.len_ ats ty #[y]).run P w = .ok z w := by
 unfold lenA at hok ⊢
 split at hok
 ·exact hok.elim
 ·rename_i d'
  have hat : ∃ t, ats[0]? = some t ∧ (T t) = some d' := by
   unfold firstT at hd
   split at hd
   ·rename_i t ht; exact ⟨t, ht, hd.symm⟩
   ·cases hd
  obtain ⟨t, ht, hd'⟩ := hat
  have h1 := run_underlying (w := w) (hT t d' hd').1
  split at hok
  ·rename_i e n sz get hu
   rw [hu] at h1
   obtain ⟨q, cap, rfl, _⟩ := hx
   exact ⟨_, rfl, rfl, by simp [Builtin.len_, ht, h1, std, goInt]⟩
  ·rename_i e k off n hu
   rw [hu] at h1
   obtain ⟨m, rs, N, sz, get, _, hh⟩ := hx
   rcases hh with ⟨_, _, rfl, _, ⟨_, rfl⟩, _⟩ | ⟨b, base, cap, _, rfl, _⟩ | ⟨_, rfl, _, _, _, rfl⟩
   ·exact ⟨_, rfl, rfl, by simp [Builtin.len_, ht, h1, std, goInt]⟩
   ·exact ⟨_, rfl, rfl, by simp [Builtin.len_, ht, h1, std, goInt]⟩
   ·exact ⟨_, rfl, rfl, by simp [Builtin.len_, ht, h1, std, goInt]⟩
  ·rename_i b hu
   rw [hu] at h1
   obtain ⟨rfl, _⟩ := hx
   exact ⟨_, rfl, rfl, by simp [Builtin.len_, ht, h1, std, goInt]⟩
  ·rename_i e n c hu
   rw [hu] at h1
   obtain ⟨rfl, _⟩ := hx
   exact ⟨_, rfl, rfl, by simp [Builtin.len_, ht, h1, std, goInt]⟩
  ·exact hok.elim
theorem run_fold (f : Value → Value → Sem Value) (g : Int → Int → Int) (k : IntKind) (hf : ∀ x k' y, (f (.int k x) (.int k' y)).run P w = .ok (.int k (g x y)) w) :
  ∀ (l : List AV) (vs : List Value) (x r : Int), foldInt g k x l = some r → vs.length = l.length → (∀ (i : Nat) q, l[i]? = some q → ∃ u, vs[i]? = some u ∧ RelV (RelC L I w ob) q u) → (vs.foldlM f (.int k x)).run P w = .ok (.int k r) w
 | [], vs, x, r, h, hl, _ => by
  simp [foldInt] at h
  subst h
  have : vs = [] := by simpa using hl
  subst this
  rfl
 | q :: l, vs, x, r, h, hl, hc => by
  cases vs with
  | nil => simp at hl
  | cons v vs =>
   obtain ⟨u, hu, hr⟩ := hc 0 q rfl
   simp at hu
   subst hu
   unfold foldInt at h
   split at h
   ·rename_i heq; cases heq
   ·rename_i a k' b r' hq
    simp only [List.cons.injEq] at hq
    obtain ⟨hq, rfl⟩ := hq
    subst hq
    obtain ⟨rfl, _⟩ := hr
    simp only [List.foldlM_cons, Sem.run_bind, hf, Result.andThen_ok]
    exact run_fold f g k hf _ vs _ r h (by simpa using hl) (fun i q hq => hc (i + 1) q hq)
   ·cases h
theorem args_rel (h : RelT (RelC L I w ob) s.t a.tmps) (l : List Operand) : ∀ (i : Nat) q, (l.map (ev s))[i]? = some q → ∃ u, (l.map a.eval)[i]? = some u ∧ RelV (RelC L I w ob) q u := by
 intro i q hq
 simp only [List.getElem?_map, Option.map_eq_some_iff] at hq ⊢
 obtain ⟨x, hx, rfl⟩ := hq
 exact ⟨_, ⟨x, hx, rfl⟩, ev_rel h x⟩
theorem builtin_run {c : Call} {b : Builtin} (ho : o.op = .call c) (hc : c.callee = .builtin b) : (execOp a.eval o).run P w = (builtin b c.argTypes o.type (c.args.map fun | .const _ => true | _ => false) (c.args.map a.eval)).run P w := by
 simp [execOp, ho, resolve, hc, invoke]
 rfl
theorem op_builtin (hT : TOk P T) (hR : RelL w0 I0 L I s a w) {c : Call} (ho : o.op = .call c) (happ : ∀ x y, c.callee = .builtin .append → c.args.toList.map (ev s) = [x, y] → (appA std T c.argTypes o.dst x y s.o).ok → OpDone P w0 I0 o a w ((appA std T c.argTypes o.dst x y s.o).st o.dst s)) (hok : (evalOp std T o s).ok) : OpDone P w0 I0 o a w ((evalOp std T o s).st o.dst s) := by
 simp only [evalOp, ho] at hok ⊢
 have hargs := args_rel hR.tmps c.args.toList
 split at hok
 ·rename_i x hc hx
  have hl : ∃ y, (c.args.map a.eval) = #[y] ∧ RelV (RelC L I w (obj s.o)) x y := by
   have hlen : c.args.toList.length = 1 := by have := congrArg List.length hx; simpa using this
   have h0 := hargs 0 x (by rw [hx]; rfl)
   obtain ⟨u, hu, hr⟩ := h0
   refine ⟨u, ?_, hr⟩
   apply Array.ext'
   simp only [Array.toList_map]
   cases hq : c.args.toList with
   | nil => rw [hq] at hlen; cases hlen
   | cons p r =>
    rw [hq] at hlen hu
    have : r = [] := by simpa using hlen
    subst this
    simpa using hu
  obtain ⟨y, hy, hr⟩ := hl
  obtain ⟨z, h1, h2, h3⟩ := run_len hT rfl o.type hr hok
  rw [h1]
  refine done_give hR (y := z) ?_ ⟨rfl, h2⟩
  rw [builtin_run ho hc, hy]
  simp [builtin, h3]
 ·rename_i x y hc hx
  exact happ x y hc hx hok
 ·rename_i k x r hc hx
  split at hok
  ·rename_i v hv
   refine done_give hR (y := .int k v) ?_ ⟨rfl, rfl⟩
   rw [builtin_run ho hc]
   have hne : ∃ y ys, (c.args.toList.map a.eval) = y :: ys ∧ y = .int k x := by
    cases hq : c.args.toList with
    | nil => rw [hq] at hx; cases hx
    | cons p q =>
     refine ⟨_, _, rfl, ?_⟩
     rw [hq] at hx
     simp only [List.map_cons, List.cons.injEq] at hx
     exact val_of (ev_rel hR.tmps p) hx.1
   obtain ⟨y, ys, hy, rfl⟩ := hne
   rw [hx, hy] at hargs
   have hlen : ys.length = r.length := by
    have e1 := congrArg List.length hx
    have e2 := congrArg List.length hy
    simp at e1 e2
    omega
   have := run_fold (P := P) (w := w) Builtin.min2 std.imin k (fun x k' y => by simp [Builtin.min2, std]) r ys x v hv hlen (fun i q hq => hargs (i + 1) q hq)
   simp [builtin, Builtin.min_, hy, this]
  ·exact hok.elim
 ·rename_i k x r hc hx
  split at hok
  ·rename_i v hv
   refine done_give hR (y := .int k v) ?_ ⟨rfl, rfl⟩
   rw [builtin_run ho hc]
   have hne : ∃ y ys, (c.args.toList.map a.eval) = y :: ys ∧ y = .int k x := by
    cases hq : c.args.toList with
    | nil => rw [hq] at hx; cases hx
    | cons p q =>
     refine ⟨_, _, rfl, ?_⟩
     rw [hq] at hx
     simp only [List.map_cons, List.cons.injEq] at hx
     exact val_of (ev_rel hR.tmps p) hx.1
   obtain ⟨y, ys, hy, rfl⟩ := hne
   rw [hx, hy] at hargs
   have hlen : ys.length = r.length := by
    have e1 := congrArg List.length hx
    have e2 := congrArg List.length hy
    simp at e1 e2
    omega
   have := run_fold (P := P) (w := w) Builtin.max2 std.imax k (fun x k' y => by simp [Builtin.max2, std]) r ys x v hv hlen (fun i q hq => hargs (i + 1) q hq)
   simp [builtin, Builtin.max_, hy, this]
  ·exact hok.elim
 ·exact hok.elim
theorem op_indexAddr (hT : TOk P T) (hR : RelL w0 I0 L I s a w) {t : TypeId} {x i : Operand} (ho : o.op = .indexAddr t x i) (hok : (evalOp std T o s).ok) : OpDone P w0 I0 o a w ((evalOp std T o s).st o.dst s) := by
 have hx := ev_rel hR.tmps x
 have hi := ev_rel hR.tmps i
 simp only [evalOp, ho] at hok ⊢
 have hel : ∀ d, elemOf T t = some d → ∃ e, (Go.underlying t).run P w = .ok (.slice e) w ∧ (Go.sizeOf e).run P w = .ok d.size w := by
  intro d hd
  unfold elemOf at hd
  split at hd
  ·rename_i td htd
   split at hd
   ·rename_i e hu
    have h1 := run_underlying (w := w) (hT t td htd).1
    rw [hu] at h1
    exact ⟨e, h1, run_sizeOf hT hd⟩
   ·cases hd
  ·cases hd
 split at hok
 ·rename_i n sz get ex
  unfold idxB at hok ⊢
  split at hok
  ·rename_i d k q hd ei
   obtain ⟨e, h1, h2⟩ := hel d hd
   rw [ex] at hx
   obtain ⟨ad, cap, hy, hnc, hc⟩ := hx
   have hin : 0 ≤ q ∧ q < (n : Int) := hok.1
   have hsz : sz = d.size := hok.2
   subst hsz
   obtain ⟨b, off, rfl, hb, hcell⟩ := hc (by omega)
   refine done_give hR (y := .pointer (some ⟨b, off + q.toNat * d.size, none⟩)) ?_ ⟨b, _, rfl, hb, fun j hj => ?_⟩
   ·simp only [execOp, ho, hy, val_of hi ei]
    simp [Instr.indexAt, asIntOf, h1, hin.1, hin.2, h2, addr_add]
   ·obtain ⟨u, hu, hr⟩ := hcell q.toNat (by omega) j hj
    exact ⟨u, by rw [Nat.add_assoc]; exact hu, hr⟩
  ·exact hok.elim
 ·rename_i k off n ex
  rw [ex] at hx
  obtain ⟨m, rs, N, sz, get, h3, hh⟩ := hx
  have h3' : s.o k = .arr m rs N sz get := h3
  rw [h3'] at hok ⊢
  unfold idxO at hok ⊢
  simp only at hok ⊢
  split at hok
  ·rename_i d k' q hd ei
   obtain ⟨e, h1, h2⟩ := hel d hd
   have hin : 0 ≤ q ∧ q < (n : Int) := hok.1
   have hsz : sz = d.size := hok.2
   subst hsz
   rcases hh with ⟨_, _, h4, _⟩ | ⟨b, base, cap, h4, hy, _⟩ | ⟨_, h4, _⟩
   ·omega
   rotate_left
   ·omega
   ·refine done_give hR (y := .pointer (some ⟨b, base + off * d.size + q.toNat * d.size, none⟩)) ?_ ⟨m, rs, N, d.size, get, b, base, h3, h4, ?_⟩
    ·simp only [execOp, ho, hy, val_of hi ei]
     simp [Instr.indexAt, asIntOf, h1, hin.1, hin.2, h2, addr_add]
    ·simp only [std, Nat.add_mul, Nat.add_zero, Nat.add_assoc]
  ·exact hok.elim
 ·rename_i k a' b' ex
  rw [ex] at hx
  obtain ⟨m, rs, N, sz, get, b, base, h3, h4, hy⟩ := hx
  have h3' : s.o k = .arr m rs N sz get := h3
  rw [h3'] at hok ⊢
  unfold idxA at hok ⊢
  simp only at hok ⊢
  split at hok
  ·rename_i d k' q hd ei
   split at hok
   ·rename_i len e hu
    split at hok
    ·rename_i ed hed
     have h1 := run_underlying (w := w) (hT t d hd).1
     rw [hu] at h1
     have h2 := run_sizeOf (w := w) hT hed
     by_cases hsz : ed.size = sz
     ·rw [if_pos hsz] at hok ⊢
      have hin : 0 ≤ q ∧ q < (len : Int) := hok
      refine done_give hR (y := .pointer (some ⟨b, base + (a' * sz + b') + q.toNat * ed.size, none⟩)) ?_ ⟨m, rs, N, sz, get, b, base, h3, h4, ?_⟩
      ·simp only [execOp, ho, hy, val_of hi ei]
       simp [Instr.indexAt, Instr.sureAddr, asIntOf, h1, hin.1, hin.2, h2, addr_add]
      ·rw [hsz]
       have : (a' + q.toNat) * sz = a' * sz + q.toNat * sz := Nat.add_mul _ _ _
       have e2 : base + (a' * sz + b') + q.toNat * sz = base + ((a' + q.toNat) * sz + b') := by rw [this]; omega
       simp only [std, e2]
     ·rw [if_neg hsz] at hok ⊢
      have hin : 0 ≤ q ∧ q < (len : Int) := hok.1
      have hs1 : ed.size = 1 := hok.2
      refine done_give hR (y := .pointer (some ⟨b, base + (a' * sz + b') + q.toNat * ed.size, none⟩)) ?_ ⟨m, rs, N, sz, get, b, base, h3, h4, ?_⟩
      ·simp only [execOp, ho, hy, val_of hi ei]
       simp [Instr.indexAt, Instr.sureAddr, asIntOf, h1, hin.1, hin.2, h2, addr_add]
      ·rw [hs1, Nat.mul_one]
       simp only [std, Nat.add_assoc]
    ·exact hok.elim
   ·exact hok.elim
  ·exact hok.elim
 ·exact hok.elim
theorem run_bounds (n cap : Nat) (lv hv : Option Value) (l h : Int) (hl : (lv = none ∧ l = 0) ∨ ∃ k, lv = some (.int k l)) (hh : (hv = none ∧ h = n) ∨ ∃ k, hv = some (.int k h))
  (h1 : 0 ≤ h ∧ h ≤ (cap : Int)) (h2 : 0 ≤ l ∧ l ≤ (h.toNat : Int)) : (Instr.sliceBounds true n cap lv hv none).run P w = .ok (l.toNat, h.toNat, cap) w := by
 rcases hl with ⟨rfl, rfl⟩ | ⟨k, rfl⟩ <;> rcases hh with ⟨rfl, rfl⟩ | ⟨k', rfl⟩
 ·simp [Instr.sliceBounds]
 ·simp [Instr.sliceBounds, Instr.sliceBound, asIntOf, h1.1, h1.2]
 ·have hln : l ≤ (n : Int) := by have := h2.2; simpa using this
  simp [Instr.sliceBounds, Instr.sliceBound, asIntOf, h2.1, hln]
 ·have hlh : l ≤ h := by have := h2.2; omega
  have e : ((h.toNat : Nat) : Int) = h := by omega
  simp [Instr.sliceBounds, Instr.sliceBound, asIntOf, h1.1, h1.2, h2.1]
  intro hlt; omega
theorem op_sliceS (hT : TOk P T) (hR : RelL w0 I0 L I s a w) {t : TypeId} {x : Operand} {lo hi mx : Option Operand} (ho : o.op = .slice t x lo hi mx) (h3 : ∀ (d ed : TD) (e : TypeId) (n sz : Nat) (get : Nat → Nat → AC) (k k' : IntKind), T t = some d → d.und = .slice e → ev s x = .c (.bs n sz get) → elemOf T t = some ed → lo.map (ev s) = none → hi.map (ev s) = some (.c (.v (.int k 0))) → mx.map (ev s) = some (.c (.v (.int k' 0))) → OpDone P w0 I0 o a w (Res.st ⟨True, .c (.os (site o.dst) 0 0), [site o.dst], [(site o.dst, .arr .rw [] 0 ed.size fun _ _ => .junk)]⟩ o.dst s)) (hok : (evalOp std T o s).ok) : OpDone P w0 I0 o a w ((evalOp std T o s).st o.dst s) := by
 have hx := ev_rel hR.tmps x
 simp only [evalOp, ho] at hok ⊢
 split at hok
 ·rename_i d hd
  have h1 := run_underlying (w := w) (hT t d hd).1
  have hop : ∀ (p : Option Operand) k q, p.map (ev s) = some (.c (.v (.int k q))) → p.map a.eval = some (.int k q) := by
   intro p k q hp
   cases p with
   | none => cases hp
   | some p => simp only [Option.map_some, Option.some.injEq] at hp ⊢; exact val_of (ev_rel hR.tmps p) hp
  have hno : ∀ (p : Option Operand), p.map (ev s) = none → p.map a.eval = none := by
   intro p hp; cases p with
   | none => rfl
   | some p => cases hp
  have hbl : ∀ {p : Option Operand} {q l : Int}, bnd q (p.map (ev s)) = some l → (p.map a.eval = none ∧ l = q) ∨ ∃ k, p.map a.eval = some (.int k l) := by
   intro p q l hp
   cases p with
   | none => simp [bnd] at hp; exact .inl ⟨rfl, hp.symm⟩
   | some p =>
    unfold bnd at hp
    split at hp
    ·rename_i hq; cases hq
    ·rename_i k l' hq; injection hp with hp; subst hp; exact .inr ⟨k, hop _ _ _ hq⟩
    ·cases hp
  have hbh := @hbl
  split at hok
  ·rename_i b hu ex e1 e2 e3
   rw [hu] at h1
   refine done_give hR (y := .string (b.extract 0 b.size)) ?_ ⟨rfl, rfl⟩
   simp only [execOp, ho, val_of hx ex, hno _ e1, hno _ e2, hno _ e3]
   simp [Instr.sliceAt, Instr.slice, h1, Instr.sliceBounds]
  ·rename_i b k l hu ex e1 e2 e3
   rw [hu] at h1
   have hin : 0 ≤ l ∧ l ≤ (b.size : Int) := hok
   refine done_give hR (y := .string (b.extract l.toNat b.size)) ?_ ⟨rfl, rfl⟩
   simp only [execOp, ho, val_of hx ex, hop _ _ _ e1, hno _ e2, hno _ e3]
   simp [Instr.sliceAt, Instr.slice, h1, Instr.sliceBounds, Instr.sliceBound, asIntOf, hin.1, hin.2]
  ·rename_i b k h hu ex e1 e2 e3
   rw [hu] at h1
   have hin : 0 ≤ h ∧ h ≤ (b.size : Int) := hok
   refine done_give hR (y := .string (b.extract 0 h.toNat)) ?_ ⟨rfl, rfl⟩
   simp only [execOp, ho, val_of hx ex, hno _ e1, hop _ _ _ e2, hno _ e3]
   simp [Instr.sliceAt, Instr.slice, h1, Instr.sliceBounds, Instr.sliceBound, asIntOf, hin.1, hin.2]
  ·rename_i b k l k' h hu ex e1 e2 e3
   rw [hu] at h1
   have hin : 0 ≤ h ∧ h ≤ (b.size : Int) := hok.1
   have hin2 : 0 ≤ l ∧ l ≤ (h.toNat : Int) := hok.2
   refine done_give hR (y := .string (b.extract l.toNat h.toNat)) ?_ ⟨rfl, rfl⟩
   simp only [execOp, ho, val_of hx ex, hop _ _ _ e1, hop _ _ _ e2, hno _ e3]
   have hh : ((h.toNat : Nat) : Int) = h := by omega
   simp [Instr.sliceAt, Instr.slice, h1, Instr.sliceBounds, Instr.sliceBound, asIntOf, hin.1, hin.2, hin2.1]
   rw [hh] at hin2
   intro hlt; omega
  ·rename_i e n sz get hu ex e3
   rw [hu] at h1
   rw [ex] at hx
   obtain ⟨ad, cap, hy, hnc, hc⟩ := hx
   unfold subB at hok ⊢
   split at hok
   ·rename_i d' l h hd' hl hh
    obtain ⟨hin, hin2, hsz⟩ : (0 ≤ h ∧ h ≤ (n : Int)) ∧ (0 ≤ l ∧ l ≤ (h.toNat : Int)) ∧ sz = d'.size := hok
    have hel : (Go.sizeOf e).run P w = .ok d'.size w := by
     unfold elemOf at hd'
     rw [hd, ] at hd'
     simp only [hu] at hd'
     exact run_sizeOf hT hd'
    have hrb := run_bounds (P := P) (w := w) n cap (lo.map a.eval) (hi.map a.eval) l h (hbl hl) (hbh hh) ⟨hin.1, by omega⟩ hin2
    have e1 : std.toN h = h.toNat := rfl
    have e2 : std.toN l = l.toNat := rfl
    refine done_give hR (y := .slice (if cap = l.toNat then ad else ad.map (·.add (l.toNat * d'.size))) (h.toNat - l.toNat) (cap - l.toNat)) ?_ ⟨_, _, rfl, ?_, fun hn => ?_⟩
    ·simp only [execOp, ho, hy, hno _ e3]
     simp [Instr.sliceAt, Instr.slice, h1, hrb, hel]
    ·show h.toNat - l.toNat ≤ _; omega
    ·have hn' : 0 < h.toNat - l.toNat := hn
     obtain ⟨b, off, rfl, hb, hcell⟩ := hc (by omega)
     rw [if_neg (by omega)]
     refine ⟨b, off + l.toNat * d'.size, by simp [addr_add], hb, fun i hi j hj => ?_⟩
     have hi' : i < h.toNat - l.toNat := hi
     obtain ⟨u, hu', hr⟩ := hcell (l.toNat + i) (by omega) j hj
     refine ⟨u, ?_, hr⟩
     subst hsz
     rw [← hu', Nat.add_mul, Nat.add_assoc, Nat.add_assoc]
   ·exact hok.elim
  ·rename_i e k off n hu ex e3
   rw [hu] at h1
   rw [ex] at hx
   split at hok
   ·rename_i m rs N sz get hk
    unfold subO at hok ⊢
    split at hok
    ·rename_i d' l h hd' hl hh
     obtain ⟨hin, hin2, hlow, hsz⟩ : (0 ≤ h ∧ h ≤ (n : Int)) ∧ (0 ≤ l ∧ l ≤ (h.toNat : Int)) ∧ ((lo.map (ev s)).isNone = false → 0 ≤ l ∧ l ≤ (n : Int)) ∧ sz = d'.size := hok
     have hel : (Go.sizeOf e).run P w = .ok d'.size w := by
      unfold elemOf at hd'
      rw [hd] at hd'
      simp only [hu] at hd'
      exact run_sizeOf hT hd'
     obtain ⟨m', rs', N', sz', get', hk', hh'⟩ := hx
     have hk2 : s.o k = .arr m' rs' N' sz' get' := hk'
     rw [hk] at hk2; injection hk2 with g1 g0 g2 g3 g4; subst g1; subst g0; subst g2; subst g3; subst g4
     rcases hh' with ⟨hL, rfl, rfl, rfl, ⟨ad, hy⟩, hmc⟩ | ⟨b, base, cap, hL, hy, h6, h7, h77, C, e', hC, h8⟩ | ⟨hN0, rfl, hNo, ad, cap, hy⟩
     ·have hrb := run_bounds (P := P) (w := w) 0 0 (lo.map a.eval) (hi.map a.eval) l h (hbl hl) (hbh hh) hin hin2
      have hh0 : h.toNat = 0 := by omega
      have hll0 : l.toNat = 0 := by omega
      rw [hh0, hll0] at hrb
      refine done_give hR (y := .slice ad 0 0) ?_ ⟨m, rs, 0, sz, get, hk', .inl ⟨hL, rfl, ?_, ?_, ⟨_, rfl⟩, hmc⟩⟩
      ·simp only [execOp, ho, hy, hno _ e3]
       simp [Instr.sliceAt, Instr.slice, h1, hrb, hel]
      ·show h.toNat - l.toNat = 0; omega
      ·show 0 + l.toNat = 0; omega
     ·have hrb := run_bounds (P := P) (w := w) n cap (lo.map a.eval) (hi.map a.eval) l h (hbl hl) (hbh hh) ⟨hin.1, by omega⟩ hin2
      by_cases hl0 : l = 0 ∨ l < (n : Int)
      rotate_left
      ·refine done_give hR (y := .slice (if cap = l.toNat then some ⟨b, base + off * sz, none⟩ else (some (⟨b, base + off * sz, none⟩ : Addr)).map (·.add (l.toNat * d'.size))) (h.toNat - l.toNat) (cap - l.toNat)) ?_ ⟨m, rs, N, sz, get, hk', .inr (.inr ⟨by omega, ?_, (show off + l.toNat ≤ N by omega), ?_⟩)⟩
       ·simp only [execOp, ho, hy, hno _ e3]
        simp [Instr.sliceAt, Instr.slice, h1, hrb, hel]
       ·show h.toNat - l.toNat = 0; omega
       ·rw [show h.toNat - l.toNat = 0 by omega]; exact ⟨_, _, rfl⟩
      refine done_give hR (y := .slice (some ⟨b, base + (off + l.toNat) * sz, none⟩) (h.toNat - l.toNat) (cap - l.toNat)) ?_ ⟨m, rs, N, sz, get, hk', .inr (.inl ⟨b, base, cap - l.toNat, hL, rfl, ?_, ?_, ?_, C, e', hC, ?_⟩)⟩
      ·simp only [execOp, ho, hy, hno _ e3]
       simp [Instr.sliceAt, Instr.slice, h1, hrb, hel]
       subst hsz
       by_cases hc : cap = l.toNat
       ·have : l.toNat = 0 := by omega
        rw [if_pos hc, this]; simp
       ·rw [if_neg hc]; simp [addr_add, Nat.add_mul, Nat.add_assoc]
      ·show off + l.toNat + (h.toNat - l.toNat) ≤ N; omega
      ·show N ≤ off + l.toNat + (cap - l.toNat); omega
      ·intro c hc; have := h77 c hc; show off + l.toNat + (cap - l.toNat) = c; omega
      ·show base + (off + l.toNat + (cap - l.toNat)) * sz ≤ C.size
       rw [show off + l.toNat + (cap - l.toNat) = off + cap by omega]; exact h8
     ·have hrb := run_bounds (P := P) (w := w) 0 cap (lo.map a.eval) (hi.map a.eval) l h (hbl hl) (hbh hh) ⟨hin.1, by omega⟩ hin2
      refine done_give hR (y := .slice (if cap = l.toNat then ad else ad.map (·.add (l.toNat * d'.size))) (h.toNat - l.toNat) (cap - l.toNat)) ?_ ⟨m, rs, N, sz, get, hk', .inr (.inr ⟨hN0, ?_, (show off + l.toNat ≤ N by omega), ?_⟩)⟩
      ·simp only [execOp, ho, hy, hno _ e3]
       simp [Instr.sliceAt, Instr.slice, h1, hrb, hel]
      ·show h.toNat - l.toNat = 0; omega
      ·rw [show h.toNat - l.toNat = 0 by omega]; exact ⟨_, _, rfl⟩
    ·exact hok.elim
   ·exact hok.elim
  ·rename_i e n sz get k h k' q hu ex e1 e2 e3
   split at hok
   ·rename_i ed hed
    obtain ⟨rfl, rfl⟩ : h = 0 ∧ q = 0 := hok
    simp only [hed]
    exact h3 d ed e n sz get k k' hd hu ex hed e1 e2 e3
   ·exact hok.elim
  ·exact hok.elim
 ·exact hok.elim
end
section
variable {P : Program} {T : TT} {w0 w w' : World} {I0 : Fr} {I I' : Nat → Prop} {L L' : Lay} {s : St} {a : Act} {o : Oper} {ob o' : Obs}

def layL (L : Lay) (k : Nat) (bl : Option (Nat × Nat)) (Ls : Nat → Nat → Option (Nat × Nat)) : Lay := fun id => match id with
 | .r q => if q = k then bl else L (.r q)
 | .s q i j => if q = k then Ls i j else L (.s q i j)
theorem layL_other {k : Nat} {bl : Option (Nat × Nat)} {Ls : Nat → Nat → Option (Nat × Nat)} {id : Id} (h : id.root ≠ k) : layL L k bl Ls id = L id := by
 cases id with
 | r q => simp only [layL]; exact if_neg h
 | s q i j => simp only [layL]; exact if_neg h
theorem layL_r {k : Nat} {bl : Option (Nat × Nat)} {Ls : Nat → Nat → Option (Nat × Nat)} : layL L k bl Ls (.r k) = bl := by simp [layL]
theorem layL_s {k i j : Nat} {bl : Option (Nat × Nat)} {Ls : Nat → Nat → Option (Nat × Nat)} : layL L k bl Ls (.s k i j) = Ls i j := by simp [layL]
theorem RelL.lay (h : RelL w0 I0 L I s a w) (ks : List Nat) (k : Nat) (hk : k ∈ ks) (h2 : k % 2 = 0) (x : AO) (bl : Option (Nat × Nat)) (Ls : Nat → Nat → Option (Nat × Nat)) (w' : World)
  (hI : ∀ b, I b → w'.heap[b]? = w.heap[b]?) (hb : ∀ id b y, id.root ∉ ks → obj s.o id ≠ .gone → L id = some (b, y) → w'.heap[b]? = w.heap[b]?) (hsz : w.heap.size ≤ w'.heap.size) (hbel : BelowE I0.E w0 w')
  (hok : ∀ o' : Nat → AO, o' = updO (killO ks s.o) k x → Moves (AC.kill ks) L I w (obj s.o) (layL L k bl Ls) I w' (obj o') → ∀ id : Id, id.root = k → ObjOk (layL L k bl Ls) I w' (obj o') id)
  (hfrom : ∀ o' : Nat → AO, o' = updO (killO ks s.o) k x → ∀ id b y, id.root = k → obj o' id ≠ .gone → layL L k bl Ls id = some (b, y) → w.heap.size ≤ b ∨ ∃ id0 z, id0.root ∈ ks ∧ obj s.o id0 ≠ .gone ∧ L id0 = some (b, z))
  (hinj : ∀ o' : Nat → AO, o' = updO (killO ks s.o) k x → ∀ id id' b y y', id.root = k → id'.root = k → obj o' id ≠ .gone → obj o' id' ≠ .gone → layL L k bl Ls id = some (b, y) → layL L k bl Ls id' = some (b, y') → id = id') :
  RelL w0 I0 (layL L k bl Ls) I ⟨(s.kill ks).t, updL [(k, x)] (s.kill ks).o⟩ a w' := by
 rw [kill_t]
 simp only [updL]
 obtain ⟨o', ho'⟩ : ∃ o', o' = updO (killO ks s.o) k x := ⟨_, rfl⟩
 rw [← ho']
 have hother : ∀ q, q ≠ k → q ∉ ks → o' q = (s.o q).kill ks := fun q h1 h3 => by rw [ho']; simp [updO, h1, killO, h3]
 have hgone : ∀ q, q ≠ k → q ∈ ks → o' q = .gone := fun q h1 h3 => by rw [ho']; simp [updO, h1, killO, h3]
 have hK : Keeps ks L I w (obj s.o) (layL L k bl Ls) I w' (obj o') := by
  refine ⟨fun b hb => ⟨hb, hI b hb⟩, fun q hq hg => ?_⟩
  have hq' : q ∉ ks := by simpa using hq
  have hqk : q ≠ k := by rintro rfl; exact hq' hk
  refine ⟨layL_other hqk, ?_, fun b y C e hL hC => ⟨C, by rw [hb (.r q) b y hq' hg hL]; exact hC, rfl⟩⟩
  show (s.o q).like (o' q)
  rw [hother q hqk hq']; exact AO.like_map _ _ _ _ hg
 have M := hK.moves
 have hlive : ∀ id : Id, id.root ≠ k → obj o' id ≠ .gone → id.root ∉ ks ∧ obj s.o id ≠ .gone := by
  intro id hr hg
  by_cases hq : id.root ∈ ks
  ·exfalso; apply hg
   cases id with
   | r q => exact hgone q hr hq
   | s q i j => simp only [obj]; rw [show o' q = .gone from hgone q hr hq]
  ·refine ⟨hq, ?_⟩
   cases id with
   | r q =>
    have : o' q ≠ .gone := hg
    rw [hother q hr hq] at this; exact AO.map_gone this
   | s q i j => rw [obj_map (Turn.kill ks) (hother q hr hq) i j] at hg; exact hg
 refine h.step (Turn.kill ks) M (fun q => q = k) (fun q hq => ?_) (fun q hq id hr => hok o' ho' M id (by rw [hr, hq])) ?_ (fun b hb => Nat.lt_of_lt_of_le (h.heap.imm b hb) hsz) (h.heap.glo.mono fun b hb => ⟨hb, hI b hb⟩) (fun b hb => hb) h.only hbel ?_ ?_
 ·by_cases h3 : q ∈ ks
  ·exact .inl (hgone q hq h3)
  ·refine .inr ⟨hother q hq h3, fun id hr hg => ⟨layL_other (by rw [hr]; exact hq), fun b y hL => ⟨hb id b y (by rw [hr]; exact h3) hg hL, fun h => h⟩⟩⟩
 ·intro id id' b y y' hg hg' hL hL'
  by_cases h3 : id.root = k
  ·by_cases h4 : id'.root = k
   ·exact hinj o' ho' id id' b y y' h3 h4 hg hg' hL hL'
   ·obtain ⟨h5, h6⟩ := hlive id' h4 hg'
    rw [layL_other h4] at hL'
    rcases hfrom o' ho' id b y h3 hg hL with h7 | ⟨id0, z, h7, h8, h9⟩
    ·have := (h.heap.lt h6 hL').1; omega
    ·have := h.heap.inj id0 id' b z y' h8 h6 h9 hL'
     subst this
     exact (h5 h7).elim
  ·obtain ⟨h5, h6⟩ := hlive id h3 hg
   rw [layL_other h3] at hL
   by_cases h4 : id'.root = k
   ·rcases hfrom o' ho' id' b y' h4 hg' hL' with h7 | ⟨id0, z, h7, h8, h9⟩
    ·have := (h.heap.lt h6 hL).1; omega
    ·have := h.heap.inj id0 id b z y h8 h6 h9 hL
     subst this
     exact (h5 h7).elim
   ·obtain ⟨h7, h8⟩ := hlive id' h4 hg'
    rw [layL_other h4] at hL'
    exact h.heap.inj id id' b y y' h6 h8 hL hL'
 ·intro id b y hg hL
  by_cases h3 : id.root = k
  ·rcases hfrom o' ho' id b y h3 hg hL with h7 | ⟨id0, z, h7, h8, h9⟩
   ·left; exact Nat.le_trans h.below.size h7
   ·exact h.new id0 b z h8 h9
  ·obtain ⟨h5, h6⟩ := hlive id h3 hg
   rw [layL_other h3] at hL
   exact h.new id b y h6 hL
 ·intro q hq hg
  have hqk : q ≠ k := by rintro rfl; omega
  obtain ⟨h5, h6⟩ := hlive (.r q) hqk hg
  rw [layL_other (id := .r q) hqk]
  obtain ⟨h7, h8⟩ := h.kept q hq h6
  exact ⟨h7, h8.trans (SameRow.of fun b y hL => hb (.r q) b y h5 h6 (h7.trans hL))⟩
def AO.bare : AO → Prop
 | .arr _ _ n sz get => ∀ i, i < n → ∀ j, j < sz → isOw (get i j) = false
 | _ => True
theorem AO.bare_gone {o : Nat → AO} {k i j : Nat} (h : (o k).bare) : obj o (.s k i j) = .gone := by
 simp only [obj]
 cases hk : o k with
 | gone => rfl
 | var l => rfl
 | arr m rs n sz get =>
  rw [hk] at h
  simp only
  split
  ·rename_i hlt; exact subO'_not (h i hlt.1 j hlt.2)
  ·rfl
theorem RelL.fresh (h : RelL w0 I0 L I s a w) (k : Nat) (h2 : k % 2 = 0) (C : Array Value) (e : TypeId) (x : AO) (hbare : x.bare)
  (hok : ∀ (L' : Lay) (o' : Nat → AO), Moves (AC.kill [k]) L I w (obj s.o) L' I (w.alloc (.cells C e)) (obj o') → (∀ b, I b → I b ∧ (w.alloc (.cells C e)).heap[b]? = w.heap[b]?) → L' (.r k) = some (w.heap.size, 0) → o' k = x → ¬ I w.heap.size → ObjOk L' I (w.alloc (.cells C e)) (obj o') (.r k)) :
  RelL w0 I0 (layL L k (some (w.heap.size, 0)) fun _ _ => none) I ⟨(s.kill [k]).t, updL [(k, x)] (s.kill [k]).o⟩ a (w.alloc (.cells C e)) := by
 have hnI : ¬ I w.heap.size := fun hI => by have := h.heap.imm _ hI; omega
 have hsub : ∀ o' : Nat → AO, o' = updO (killO [k] s.o) k x → ∀ i j, obj o' (.s k i j) = .gone := fun o' ho' i j => AO.bare_gone (by rw [ho']; simpa [updO] using hbare)
 refine h.lay [k] k (by simp) h2 x _ _ _ (fun b hb => heap_alloc_old w _ b (h.heap.imm b hb)) (fun id b y hr hg hL => heap_alloc_old w _ b (h.heap.lt hg hL).1) (by simp) (h.below.alloc _) ?_ ?_ ?_
 ·intro o' ho' M id hr
  cases id with
  | r q =>
   have e : q = k := hr
   subst e
   exact hok _ o' M (fun b hb => ⟨hb, heap_alloc_old w _ b (h.heap.imm b hb)⟩) layL_r (by rw [ho']; simp [updO]) hnI
  | s q i j =>
   have e : q = k := hr
   subst e
   unfold ObjOk; rw [hsub o' ho']; trivial
 ·intro o' ho' id b y hr hg hL
  cases id with
  | r q =>
   have e : q = k := hr
   subst e
   rw [layL_r] at hL; injection hL with hL; injection hL with h1 h2; subst h1
   exact .inl (Nat.le_refl _)
  | s q i j =>
   have e : q = k := hr
   subst e
   exact (hg (hsub o' ho' i j)).elim
 ·intro o' ho' id id' b y y' hr hr' hg hg' _ _
  cases id with
  | s q i j =>
   have e : q = k := hr
   subst e
   exact (hg (hsub o' ho' i j)).elim
  | r q =>
   cases id' with
   | s q' i j =>
    have e : q' = k := hr'
    subst e
    exact (hg' (hsub o' ho' i j)).elim
   | r q' =>
    have e : q = k := hr
    have e' : q' = k := hr'
    rw [e, e']
theorem site2 (d : Option Nat) : site d % 2 = 0 := by unfold site; omega
theorem op_box (hR : RelL w0 I0 L I s a w) {e : TypeId} {x : Operand} (ho : o.op = .box e x) (hok : (evalOp std T o s).ok) : OpDone P w0 I0 o a w ((evalOp std T o s).st o.dst s) := by
 have hx := ev_rel hR.tmps x
 simp only [evalOp, ho] at hok ⊢
 split at hok
 ·rename_i cs hcs
  obtain ⟨h1, h2⟩ := cells_rel (fun x y h hx => (h.one hx).2) hx hcs
  split at hok
  ·rename_i len sz har
   obtain ⟨g0, g1, g2⟩ : 0 < sz ∧ cs.length = len * sz ∧ ∀ c ∈ cs, ∃ u, c = .v u := hok
   have key : ∀ q, q < len * sz → ∃ u, cs.getD q .junk = .v u ∧ (a.eval x).cells[q]? = some u ∧ u.oneCell' = true := by
    intro q hq
    have hlt : q < cs.length := by omega
    obtain ⟨u, hu⟩ := g2 cs[q] (List.getElem_mem hlt)
    obtain ⟨u', hu', hr⟩ := h2 q _ (List.getElem?_eq_getElem hlt)
    rw [hu] at hr
    obtain ⟨e1, e2⟩ : u' = u ∧ u.oneCell' = true := hr
    subst e1
    exact ⟨u', by rw [List.getD_eq_getElem?_getD, List.getElem?_eq_getElem hlt, Option.getD_some, hu], hu', e2⟩
   have hidx : ∀ i, i < len → ∀ j, j < sz → i * sz + j < len * sz := fun i hi j hj => by
    have hmul : (i + 1) * sz ≤ len * sz := Nat.mul_le_mul_right _ hi
    rw [Nat.add_mul, Nat.one_mul] at hmul; omega
   refine ⟨_, .pointer (some ⟨w.heap.size, 0, none⟩), w.alloc (.cells (a.eval x).cells e), ?_, .inl rfl, _, I, (hR.fresh (site o.dst) (site2 _) (a.eval x).cells e (.arr .rw [] len sz fun i j => cs.getD (i * sz + j) .junk) (fun i hi j hj => ?_) ?_).put o.dst (y := .pointer (some ⟨w.heap.size, 0, none⟩)) ?_⟩
   ·simp [execOp, ho, Instr.box, newVar, newRow]
   ·obtain ⟨u, hu, _⟩ := key _ (hidx i hi j hj)
    simp only
    rw [hu]; rfl
   ·intro L' o' M hI hL' ho' hnI
    unfold ObjOk
    rw [show obj o' (.r _) = _ from ho']
    have hcs' : cs.length = (a.eval x).cells.size := by omega
    refine ⟨.inr ⟨w.heap.size, 0, _, (e, false), hL', fun _ => hnI, heap_alloc_new w _, ⟨by omega, fun q u hu => ?_⟩, fun i hi j hj => ?_⟩, fun i hi j hj k hk => ?_⟩
    ·have hq : q < len * sz := by have := (Array.getElem?_eq_some_iff.1 hu).1; omega
     obtain ⟨u', _, hu', h1'⟩ := key q hq
     rw [hu'] at hu; injection hu with hu; subst hu; exact h1'
    ·obtain ⟨u, hu, hu', h1'⟩ := key _ (hidx i hi j hj)
     refine ⟨u, by rw [Nat.zero_add]; exact hu', ?_⟩
     simp only
     rw [hu]
     exact ⟨rfl, h1'⟩
    ·obtain ⟨u, hu, _⟩ := key _ (hidx i hi j hj)
     simp only at hk
     rw [hu] at hk
     cases hk
   ·exact ⟨.rw, [], len, sz, fun i j => cs.getD (i * sz + j) .junk, w.heap.size, 0, by simp [obj, updL, updO], layL_r, by simp⟩
  ·refine ⟨_, .pointer (some ⟨w.heap.size, 0, none⟩), w.alloc (.cells (a.eval x).cells e), ?_, .inl rfl, _, I, (hR.fresh (site o.dst) (site2 _) (a.eval x).cells e (.var (cs.map (AC.kill [site o.dst]))) trivial ?_).put o.dst (y := .pointer (some ⟨w.heap.size, 0, none⟩)) ?_⟩
   ·simp [execOp, ho, Instr.box, newVar, newRow]
   ·intro L' o' M hI hL' ho' hnI
    unfold ObjOk
    rw [show obj o' (.r _) = _ from ho']
    refine ⟨w.heap.size, _, (e, false), hL', hnI, heap_alloc_new w _, by simpa using h1, fun i x hx => ?_⟩
    simp only [List.getElem?_map, Option.map_eq_some_iff] at hx
    obtain ⟨x0, hx0, rfl⟩ := hx
    obtain ⟨u, hu, hr⟩ := h2 i x0 hx0
    exact ⟨u, hu, M _ _ hr⟩
   ·exact ⟨cs.map (AC.kill [site o.dst]), w.heap.size, by simp [obj, updL, updO], layL_r, rfl⟩
 ·exact hok.elim
theorem zeroC_rel {d : TD} (hz : ∀ x ∈ d.zero.cells.toList, x.oneCell' = true) : d.zero.cells.size = (zeroC d).length ∧ ∀ (i : Nat) x, (zeroC d)[i]? = some x → ∃ u, d.zero.cells[i]? = some u ∧ RelI I w x u := by
 refine ⟨by simp [zeroC], fun i x hx => ?_⟩
 simp only [zeroC, List.getElem?_map, Option.map_eq_some_iff] at hx
 obtain ⟨u, hu, rfl⟩ := hx
 exact ⟨u, by rwa [← Array.getElem?_toList], rfl, hz u (List.mem_of_getElem? hu)⟩
theorem run_zero (hT : TOk P T) {t : TypeId} {d : TD} (hd : (T t) = some d) : (zeroValue t).run P w = .ok d.zero w := by
 obtain ⟨i, hi, _, _, h1⟩ := (hT t d hd).2.1
 simp [zeroValue, typeInfo, hi, h1]
theorem op_alloc (hT : TOk P T) (hR : RelL w0 I0 L I s a w) {e : TypeId} (ho : o.op = .alloc e) (hok : (evalOp std T o s).ok) : OpDone P w0 I0 o a w ((evalOp std T o s).st o.dst s) := by
 simp only [evalOp, ho] at hok ⊢
 split at hok
 ·rename_i d hd
  have hz := run_zero (w := w) hT hd
  split at hok
  ·rename_i len el hu
   split at hok
   ·rename_i ed hed
    obtain ⟨h0, h1, h2⟩ : 0 < ed.size ∧ len * ed.size = d.size ∧ d.zero.cells = Array.replicate d.size (.bool false) := hok
    refine ⟨_, .pointer (some ⟨w.heap.size, 0, none⟩), w.alloc (.cells d.zero.cells e), ?_, .inl rfl, _, I, (hR.fresh (site o.dst) (site2 _) d.zero.cells e (.arr .rw [] len ed.size fun _ _ => .v (.bool false)) (fun i _ j _ => rfl) ?_).put o.dst (y := .pointer (some ⟨w.heap.size, 0, none⟩)) ?_⟩
    ·simp [execOp, ho, Instr.alloc, hz, newVar, newRow]
    ·intro L' o' M hI hL' ho' hnI
     unfold ObjOk
     rw [show obj o' (.r _) = _ from ho']
     refine ⟨.inr ⟨w.heap.size, 0, _, (e, false), hL', fun _ => hnI, heap_alloc_new w _, ⟨by rw [h2, Array.size_replicate, Nat.zero_add]; exact Nat.le_of_eq h1, fun q u hu => ?_⟩, fun i hi j hj => ?_⟩, fun i hi j hj k hk => (by cases hk)⟩
     ·rw [h2, Array.getElem?_replicate] at hu
      split at hu
      ·injection hu with hu; subst hu; rfl
      ·cases hu
     ·have hmul : (i + 1) * ed.size ≤ len * ed.size := Nat.mul_le_mul_right _ hi
      rw [Nat.add_mul, Nat.one_mul] at hmul
      refine ⟨.bool false, ?_, ⟨rfl, rfl⟩⟩
      rw [h2, Array.getElem?_replicate, if_pos (by omega)]
    ·exact ⟨.rw, [], len, ed.size, fun _ _ => .v (.bool false), w.heap.size, 0, by simp [obj, updL, updO], layL_r, by simp⟩
   ·exact hok.elim
  ·refine ⟨_, .pointer (some ⟨w.heap.size, 0, none⟩), w.alloc (.cells d.zero.cells e), ?_, .inl rfl, _, I, (hR.fresh (site o.dst) (site2 _) d.zero.cells e (.var (zeroC d)) trivial ?_).put o.dst (y := .pointer (some ⟨w.heap.size, 0, none⟩)) ?_⟩
   ·simp [execOp, ho, Instr.alloc, hz, newVar, newRow]
   ·intro L' o' M hI hL' ho' hnI
    obtain ⟨h1, h2⟩ := zeroC_rel (I := I) (w := w.alloc (.cells d.zero.cells e)) (hT e d hd).2.2.1
    unfold ObjOk
    rw [show obj o' (.r _) = _ from ho']
    refine ⟨w.heap.size, _, (e, false), hL', hnI, heap_alloc_new w _, h1, fun i x hx => ?_⟩
    obtain ⟨u, hu, hr⟩ := h2 i x hx
    exact ⟨u, hu, RelI.toC _ _ hr⟩
   ·exact ⟨zeroC d, w.heap.size, by simp [obj, updL, updO], layL_r, rfl⟩
 ·exact hok.elim
theorem RelL.nilArr (hR : RelL w0 I0 L I s a w) (K : Nat) (hK : K % 2 = 0) (sz : Nat) (g : Nat → Nat → AC) : RelL w0 I0 (layL L K none fun _ _ => none) I ⟨(s.kill [K]).t, updO (s.kill [K]).o K (.arr .rw [] 0 sz g)⟩ a w := by
 refine hR.lay [K] K (by simp) hK (.arr .rw [] 0 sz g) none (fun _ _ => none) w (fun b hb => rfl) (fun id b y _ _ _ => rfl) (Nat.le_refl _) hR.below ?_ ?_ ?_
 ·intro o' ho' M id hr
  have hs : o' K = .arr .rw [] 0 sz g := by rw [ho']; simp [updO]
  cases id with
  | r q =>
   have e : q = K := hr
   subst e
   unfold ObjOk
   rw [show obj o' (.r q) = _ from hs]
   exact ⟨.inl ⟨layL_r, rfl, fun c hc => by cases hc⟩, fun i hi => absurd hi (by omega)⟩
  | s q i j =>
   have e : q = K := hr
   subst e
   unfold ObjOk
   have : obj o' (.s q i j) = .gone := AO.bare_gone (by rw [hs]; intro i hi; exact absurd hi (by omega))
   rw [this]; trivial
 ·intro o' ho' id b y hr hg hL
  cases id with
  | r q => have e : q = K := hr; subst e; rw [layL_r] at hL; cases hL
  | s q i j => have e : q = K := hr; subst e; rw [layL_s] at hL; cases hL
 ·intro o' ho' id id' b y y' hr hr' hg hg' hL
  cases id with
  | r q => have e : q = K := hr; subst e; rw [layL_r] at hL; cases hL
  | s q i j => have e : q = K := hr; subst e; rw [layL_s] at hL; cases hL
theorem op_slice3 (hT : TOk P T) (hR : RelL w0 I0 L I s a w) {t : TypeId} {x : Operand} {lo hi mx : Option Operand} (ho : o.op = .slice t x lo hi mx) (d ed : TD) (e : TypeId) (n sz : Nat) (get : Nat → Nat → AC) (k k' : IntKind) (hd : T t = some d) (hu : d.und = .slice e) (ex : ev s x = .c (.bs n sz get)) (hed : elemOf T t = some ed) (e1 : lo.map (ev s) = none) (e2 : hi.map (ev s) = some (.c (.v (.int k 0)))) (e3 : mx.map (ev s) = some (.c (.v (.int k' 0)))) :
  OpDone P w0 I0 o a w (Res.st ⟨True, .c (.os (site o.dst) 0 0), [site o.dst], [(site o.dst, .arr .rw [] 0 ed.size fun _ _ => .junk)]⟩ o.dst s) := by
 have hx := ev_rel hR.tmps x
 rw [ex] at hx
 obtain ⟨ad, cap, hy, hnc, hc⟩ := hx
 have h1 := run_underlying (w := w) (hT t d hd).1
 rw [hu] at h1
 have hop : ∀ (p : Option Operand) k q, p.map (ev s) = some (.c (.v (.int k q))) → p.map a.eval = some (.int k q) := by
  intro p k q hp
  cases p with
  | none => cases hp
  | some p => simp only [Option.map_some, Option.some.injEq] at hp ⊢; exact val_of (ev_rel hR.tmps p) hp
 have hno : ∀ (p : Option Operand), p.map (ev s) = none → p.map a.eval = none := by
  intro p hp; cases p with
  | none => rfl
  | some p => cases hp
 have hel : (Go.sizeOf e).run P w = .ok ed.size w := by
  unfold elemOf at hed
  rw [hd] at hed
  simp only [hu] at hed
  exact run_sizeOf hT hed
 have hrun : (execOp a.eval o).run P w = .ok (.value (.slice ad 0 0)) w := by
  simp only [execOp, ho, hy, hno _ e1, hop _ _ _ e2, hop _ _ _ e3]
  simp [Instr.sliceAt, Instr.slice, h1, Instr.sliceBounds, Instr.sliceBound, asIntOf, hel]
 exact ⟨_, _, _, hrun, .inl rfl, _, I, (hR.nilArr (site o.dst) (site2 _) ed.size (fun _ _ => .junk)).put o.dst (y := .slice ad 0 0) ⟨.rw, [], 0, ed.size, fun _ _ => .junk, by simp [obj, updO], .inl ⟨layL_r, rfl, rfl, rfl, ⟨_, rfl⟩, fun c hc => by cases hc⟩⟩⟩
end
section
variable {P : Program} {T : TT} {w0 w w' : World} {I0 : Fr} {I I' : Nat → Prop} {L L' : Lay} {s : St} {a : Act} {o : Oper} {ob o' : Obs}

theorem setL_length : ∀ (cs l : List AC) (i : Nat), (setL l i cs).length = l.length
 | [], l, i => rfl
 | x :: r, l, i => by rw [setL, setL_length r]; simp
theorem setL_get : ∀ (cs l : List AC) (i : Nat), i + cs.length ≤ l.length → ∀ j : Nat, (setL l i cs)[j]? = if i ≤ j ∧ j < i + cs.length then cs[j - i]? else l[j]?
 | [], l, i, _, j => by rw [setL, if_neg (by simp only [List.length_nil]; omega)]
 | x :: r, l, i, h, j => by
  simp only [List.length_cons] at h ⊢
  rw [setL, setL_get r (l.set i x) (i + 1) (by simp; omega) j, List.getElem?_set]
  by_cases h1 : j = i
  ·subst h1
   rw [if_neg (by omega), if_pos rfl, if_pos (by omega), if_pos (by omega), Nat.sub_self]
   rfl
  ·by_cases h2 : i + 1 ≤ j ∧ j < i + 1 + r.length
   ·rw [if_pos h2, if_pos (by omega)]
    have : j - i = (j - (i + 1)) + 1 := by omega
    rw [this]; rfl
   ·rw [if_neg h2, if_neg (by omega), if_neg (by omega)]
theorem row_get (C : Array Value) (us : List Value) (off : Nat) (h : off + us.length ≤ C.size) (j : Nat) :
  (C.toList.take off ++ us ++ C.toList.drop (off + us.length)).toArray[j]? = if off ≤ j ∧ j < off + us.length then us[j - off]? else C[j]? := by
 rw [List.getElem?_toArray, List.append_assoc, List.getElem?_append]
 have hl : (List.take off C.toList).length = off := by simp; omega
 rw [hl]
 by_cases h1 : j < off
 ·rw [if_pos h1, if_neg (by omega), List.getElem?_take, if_pos h1, Array.getElem?_toList]
 ·rw [if_neg h1, List.getElem?_append]
  by_cases h2 : j - off < us.length
  ·rw [if_pos h2, if_pos (by omega)]
  ·rw [if_neg h2, if_neg (by omega), List.getElem?_drop, Array.getElem?_toList]
   congr 1; omega
theorem row_size (C : Array Value) (us : List Value) (off : Nat) (h : off + us.length ≤ C.size) : (C.toList.take off ++ us ++ C.toList.drop (off + us.length)).toArray.size = C.size := by
 simp; omega
theorem not_ow {x : AC} (h : x.whole = true) : isOw x = false := by cases x <;> first | rfl | cases h
theorem Moves.of_nil (M : Moves (AC.kill []) L I w ob L' I' w' o') : Moves (fun x => x) L I w ob L' I' w' o' := fun x y h => by have := M x y h; rwa [AC.kill_nil] at this
theorem RelL.store (h : RelL w0 I0 L I s a w) {k b base : Nat} {C C' : Array Value} {e : TypeId × Bool} (x : AO) (hg : s.o k ≠ .gone) (hlike : (s.o k).like x) (hL : L (.r k) = some (b, base)) (hnI : ¬ I b)
  (hC : w.heap[b]? = some (.cells C (eT e) (frz e C))) (hs : C'.size = C.size) (hsub : ∀ i j, obj (updO s.o k x) (.s k i j) = obj s.o (.s k i j) ∨ obj (updO s.o k x) (.s k i j) = .gone)
  (hok : ∀ (o' : Nat → AO), o' = updO s.o k x → Moves (fun x => x) L I w (obj s.o) L I (w.setRow b C') (obj o') → (∀ i j, obj o' (.s k i j) ≠ .gone → Kept L w (obj s.o) (.s k i j) L (w.setRow b C') (obj o') (.s k i j)) → ObjOk L I (w.setRow b C') (obj o') (.r k)) :
  RelL w0 I0 L I ⟨(s.kill []).t, updL [(k, x)] (s.kill []).o⟩ a (w.setRow b C') := by
 obtain ⟨o', ho'⟩ : ∃ o', o' = updO s.o k x := ⟨_, rfl⟩
 have hself : o' k = x := by rw [ho']; simp [updO]
 have hother : ∀ j, j ≠ k → o' j = s.o j := fun j hj => by rw [ho']; simp [updO, hj]
 have hblk : ∀ id b' y, id ≠ .r k → obj s.o id ≠ .gone → L id = some (b', y) → (w.setRow b C').heap[b']? = w.heap[b']? := fun id b' y hid hg' hL' =>
  setRow_other w b b' C' (by rintro rfl; exact hid (h.heap.inj id (.r k) b' y base hg' hg hL' hL))
 have hK : Keeps [] L I w (obj s.o) L I (w.setRow b C') (obj o') := by
  refine ⟨fun b' hb => ⟨hb, setRow_other w b b' C' (by rintro rfl; exact hnI hb)⟩, fun j hj hgj => ⟨rfl, ?_, fun b' x' C1 e' hLj hb' => ?_⟩⟩
  ·by_cases hjk : j = k
   ·subst hjk; show (s.o j).like (o' j); rw [hself]; exact hlike
   ·show (s.o j).like (o' j); rw [hother j hjk]; exact AO.like_refl _ hgj
  ·by_cases hjk : j = k
   ·subst hjk
    rw [hL] at hLj; injection hLj with hLj; injection hLj with h1 h2; subst h1
    rw [hC] at hb'
    injection hb' with hb'
    obtain ⟨h1, h2⟩ := cells_inj hb'
    subst h1; subst h2
    exact ⟨C', setRow_frz w b C C' e hC hs, hs⟩
   ·exact ⟨C1, by rw [hblk (.r j) b' x' (by simpa using hjk) hgj hLj]; exact hb', rfl⟩
 have M := hK.moves
 have hobs : ∀ id : Id, obj o' id ≠ .gone → obj s.o id ≠ .gone := by
  intro id hid
  cases id with
  | r j =>
   by_cases hjk : j = k
   ·subst hjk; exact hg
   ·have : o' j ≠ .gone := hid
    rwa [hother j hjk] at this
  | s j a b =>
   by_cases hjk : j = k
   ·subst hjk
    rcases hsub a b with h1 | h1
    ·rw [ho', h1] at hid; exact hid
    ·rw [ho', h1] at hid; exact (hid rfl).elim
   ·simp only [obj] at hid ⊢; rwa [hother j hjk] at hid
 have := h.step (Turn.kill []) M (fun j => j = k) (o' := o') (fun j hj => .inr ⟨by rw [hother j hj]; exact (AO.kill_nil _).symm, fun id hr hgj => ⟨rfl, fun b' x' hLj => ⟨hblk id b' x' (by rintro rfl; exact hj hr.symm) hgj hLj, fun h => h⟩⟩⟩)
  (fun j hj id hr => by
   subst hj
   have hkeep : ∀ i' j', obj o' (.s j i' j') ≠ .gone → Kept L w (obj s.o) (.s j i' j') L (w.setRow b C') (obj o') (.s j i' j') := by
    intro i' j' hg'
    have h1 : obj o' (.s j i' j') = obj s.o (.s j i' j') := by
     rcases hsub i' j' with h1 | h1
     ·rw [ho']; exact h1
     ·rw [ho', h1] at hg'; exact (hg' rfl).elim
    refine ⟨rfl, ?_, fun b' x' C1 e' hLj hb' => ⟨C1, ?_, rfl⟩⟩
    ·rw [h1]; rw [h1] at hg'; exact AO.like_refl _ hg'
    ·rw [h1] at hg'; rw [hblk _ b' x' (by simp) hg' hLj]; exact hb'
   cases id with
   | r q =>
    have e1 : q = j := hr
    subst e1
    exact hok o' ho' M.of_nil hkeep
   | s q i' j' =>
    have e1 : q = j := hr
    subst e1
    by_cases hg' : obj o' (.s q i' j') = .gone
    ·unfold ObjOk; rw [hg']; trivial
    ·have h1 : obj o' (.s q i' j') = obj s.o (.s q i' j') := by
      rcases hsub i' j' with h1 | h1
      ·rw [ho']; exact h1
      ·rw [ho', h1] at hg'; exact (hg' rfl).elim
     exact (h.heap.ok (.s q i' j')).map (Turn.kill []) M (by rw [h1]; exact (AO.kill_nil _).symm) (fun _ => rfl) (fun hg2 b' x' hLj => ⟨hblk _ b' x' (by simp) hg2 hLj, fun h => h⟩) (fun _ _ _ hh => by cases hh))
  (fun id id' b1 x1 x2 hj hj' h1 h2 => h.heap.inj id id' b1 x1 x2 (hobs _ hj) (hobs _ hj') h1 h2)
  (fun b' hb => by have := h.heap.imm b' hb; simp; omega) (h.heap.glo.mono hK.imm) (fun b hb => hb) h.only
  (h.below.one b (h.new (.r k) b base hg hL) rfl rfl rfl (by simp) fun k' hk' => setRow_other w b k' C' hk')
  (fun id b' x' hj hLj => h.new id b' x' (hobs _ hj) hLj)
  (fun q hq hg' => by
   obtain ⟨h7, h8⟩ := h.kept q hq (hobs (.r q) hg')
   refine ⟨h7, h8.trans fun b' y C1 e' hLq hC1 => ?_⟩
   by_cases hqk : q = k
   ·subst hqk
    rw [← h7, hL] at hLq; injection hLq with hLq; injection hLq with h1 h2; subst h1
    rw [hC] at hC1; injection hC1 with hC1; obtain ⟨h1, h2⟩ := cells_inj hC1; subst h1; subst h2
    exact ⟨C', setRow_frz w b C C' e hC hs, hs⟩
   ·exact ⟨C1, by rw [hblk (.r q) b' y (by simpa using hqk) (hobs (.r q) hg') (h7.trans hLq)]; exact hC1, rfl⟩)
 have e : (⟨(s.kill []).t, updL [(k, x)] (s.kill []).o⟩ : St) = ⟨s.t.map (AV.map (AC.kill [])), o'⟩ := by
  have e0 : AV.map (AC.kill []) = id := AV.kill_nil'
  rw [e0, List.map_id, ho']; rfl
 rw [e]
 exact this
theorem op_store (hT : TOk P T) (hR : RelL w0 I0 L I s a w) {t : TypeId} {x y : Operand} (ho : o.op = .store t x y) (hok : (evalOp std T o s).ok) : OpDone P w0 I0 o a w ((evalOp std T o s).st o.dst s) := by
 have hx := ev_rel hR.tmps x
 have hy := ev_rel hR.tmps y
 simp only [evalOp, ho] at hok ⊢
 split at hok
 ·rename_i d cs hd hcs
  obtain ⟨c1, c2⟩ := cells_rel (fun x y h hx => (h.one hx).2) hy hcs
  have hrun : ∀ (b off : Nat) (C : Array Value) (e : TypeId × Bool), a.eval x = .pointer (some ⟨b, off, none⟩) → w.heap[b]? = some (.cells C (eT e) (frz e C)) → off + cs.length ≤ C.size → cs.length = d.size → (∀ c ∈ cs, c ≠ .junk) →
    (execOp a.eval o).run P w = .ok .skip (w.setRow b (C.toList.take off ++ (a.eval y).cells.toList ++ C.toList.drop (off + (a.eval y).cells.toList.length)).toArray) := by
   intro b off C e hxe hC hoff hlen hwh
   have h3 := run_sizeOf (w := w) hT hd
   have hst := run_storeCells_frz P b off e (a.eval y).cells.toList 0 C w hC (by simp [c1]; omega) (fun v hv => by
    obtain ⟨i, hi⟩ := List.getElem?_of_mem hv
    rw [Array.getElem?_toList] at hi
    have hlt : i < cs.length := by rw [← c1]; exact (Array.getElem?_eq_some_iff.1 hi).1
    obtain ⟨u, hu, hr⟩ := c2 i cs[i] (by simp [hlt])
    rw [hi] at hu
    injection hu with hu; subst hu
    exact (hr.one (hwh _ (List.getElem_mem hlt))).1)
   simp only [Nat.add_zero] at hst
   have hne : ¬ (a.eval y).cells.size ≠ d.size := by rw [c1]; simpa using hlen
   simp only [execOp, ho, hxe]
   simp [Instr.storeAt, Instr.sureAddr, storeVar, h3, c1, hlen, hst]
  have hjk : ∀ cs : List AC, cs.all AC.whole = true → ∀ c ∈ cs, c ≠ .junk := by
   rintro cs h6 c hc rfl
   have := List.all_eq_true.1 h6 _ hc
   cases this
  split at hok
  ·rename_i k off ex
   rw [ex] at hx
   obtain ⟨l, b, h2, h3, hxe⟩ := hx
   have h2' : s.o k = .var l := h2
   rw [h2'] at hok ⊢
   obtain ⟨h4, h5, h6⟩ : off + cs.length ≤ l.length ∧ cs.length = d.size ∧ cs.all AC.whole = true := hok
   have hwh := hjk cs h6
   obtain ⟨b', C, e, hL, hnI, hC, hsz, hcell⟩ := hR.heap.var h2
   rw [h3] at hL; injection hL with hL; injection hL with hL; subst hL
   have hus : (a.eval y).cells.toList.length = cs.length := by simpa using c1
   have hfit : off + (a.eval y).cells.toList.length ≤ C.size := by rw [hus, hsz]; exact h4
   have hgo := hrun b off C e hxe hC (by omega) h5 hwh
   have hgs := row_size C _ off hfit
   have hgg := row_get C _ off hfit
   revert hgo hgs hgg
   generalize (C.toList.take off ++ (a.eval y).cells.toList ++ C.toList.drop (off + (a.eval y).cells.toList.length)).toArray = C'
   intro hgo hgs hgg
   rw [hus] at hgg
   refine ⟨_, undef, _, hgo, .inr ⟨rfl, rfl⟩, L, I, ?_⟩
   refine (hR.store (.var (setL l off cs)) (by rw [h2']; simp) (by rw [h2']; simp [AO.like, setL_length]) h3 hnI hC hgs (fun i j => .inr (by simp [obj, updO])) ?_).put o.dst (x := .tup []) (y := undef) ⟨#[], rfl, rfl, fun i x hx => by simp at hx⟩
   intro o' ho' M _
   unfold ObjOk
   rw [show obj o' (.r k) = .var (setL l off cs) by rw [ho']; simp [obj, updO]]
   refine ⟨b, C', e, h3, hnI, setRow_frz w b C C' e hC hgs, by rw [hgs, hsz, setL_length], fun i x hx => ?_⟩
   rw [hgg]
   rw [setL_get cs l off h4] at hx
   split at hx
   ·rename_i hi
    rw [if_pos hi, Array.getElem?_toList]
    obtain ⟨u, hu, hr⟩ := c2 _ x hx
    exact ⟨u, hu, M _ _ hr⟩
   ·rename_i hi
    rw [if_neg hi]
    obtain ⟨u, hu, hr⟩ := hcell i x hx
    exact ⟨u, hu, M _ _ hr⟩
  ·rename_i k i j ex
   rw [ex] at hx
   obtain ⟨m, rs, N, sz, get, b, base, h2, h3, hxe⟩ := hx
   have h2' : s.o k = .arr m rs N sz get := h2
   rw [h2'] at hok ⊢
   obtain ⟨hm, h4, h5, h6, h7⟩ : m.w = true ∧ i < N ∧ j + cs.length ≤ sz ∧ cs.length = d.size ∧ cs.all AC.whole = true := hok
   have hwh := hjk cs h7
   obtain ⟨hO, hrs⟩ := hR.heap.arr h2
   rcases hO with ⟨h8, _⟩ | ⟨b', base', C, e, hL, hnI, hC, hsz, hcell⟩
   ·rw [h3] at h8; cases h8
   ·rw [h3] at hL; injection hL with hL; injection hL with hL hL'; subst hL; subst hL'
    have hus : (a.eval y).cells.toList.length = cs.length := by simpa using c1
    have hmul : i * sz + sz ≤ N * sz := by
     have : (i + 1) * sz ≤ N * sz := Nat.mul_le_mul_right _ h4
     rwa [Nat.add_mul, Nat.one_mul] at this
    have hfit : base + (i * sz + j) + (a.eval y).cells.toList.length ≤ C.size := by rw [hus]; omega
    have hgo := hrun b _ C e hxe hC (by omega) h6 hwh
    have hgs := row_size C _ _ hfit
    have hgg := row_get C _ _ hfit
    revert hgo hgs hgg
    generalize (C.toList.take (base + (i * sz + j)) ++ (a.eval y).cells.toList ++ C.toList.drop (base + (i * sz + j) + (a.eval y).cells.toList.length)).toArray = C'
    intro hgo hgs hgg
    rw [hus] at hgg
    refine ⟨_, undef, _, hgo, .inr ⟨rfl, rfl⟩, L, I, ?_⟩
    have hcsw : ∀ q, isOw (cs.getD q .junk) = false := fun q => by
     rw [List.getD_eq_getElem?_getD]
     cases hq : cs[q]? with
     | none => rfl
     | some c => exact not_ow (List.all_eq_true.1 h7 c (List.mem_of_getElem? hq))
    refine (hR.store (.arr m (rs ++ cs.flatMap AC.ref) N sz fun p q => if p = i ∧ j ≤ q ∧ q < j + cs.length then cs.getD (q - j) .junk else get p q) (by rw [h2']; simp) (by rw [h2']; exact ⟨rfl, rfl, fun c h => h⟩) h3 (hnI hm) hC hgs (fun p q => ?_) ?_).put o.dst (x := .tup []) (y := undef) ⟨#[], rfl, rfl, fun i x hx => by simp at hx⟩
    ·simp only [obj, updO, if_true, h2']
     by_cases hpq : p = i ∧ j ≤ q ∧ q < j + cs.length
     ·simp only [if_pos hpq, subO'_not (hcsw _)]; right; split <;> rfl
     ·simp only [if_neg hpq]; left; trivial
    intro o' ho' M hkeep
    have ho2 : obj o' (.r k) = .arr m (rs ++ cs.flatMap AC.ref) N sz fun p q => if p = i ∧ j ≤ q ∧ q < j + cs.length then cs.getD (q - j) .junk else get p q := by rw [ho']; simp [obj, updO]
    unfold ObjOk
    rw [ho2]
    refine ⟨.inr ⟨b, base, C', e, h3, hnI, setRow_frz w b C C' e hC hgs, ⟨by rw [hgs]; exact hsz.1, fun q u hu => by
     rw [hgg] at hu
     split at hu
     ·rename_i hq'
      rw [Array.getElem?_toList] at hu
      have hlt : q - (base + (i * sz + j)) < cs.length := by omega
      obtain ⟨u', hu', hr⟩ := c2 _ _ (List.getElem?_eq_getElem hlt)
      rw [hu'] at hu; injection hu with hu; subst hu
      exact hr.one'
     ·exact hsz.2 q u hu⟩, fun p hp q hq => ?_⟩, fun p hp q hq z hz => ?_⟩
    ·rw [hgg]
     by_cases hpq : p = i ∧ j ≤ q ∧ q < j + cs.length
     ·obtain ⟨rfl, hq1, hq2⟩ := hpq
      rw [if_pos (by omega)]
      simp only [hq1, hq2, and_self, if_true]
      have hlt : q - j < cs.length := by omega
      obtain ⟨u, hu, hr⟩ := c2 (q - j) cs[q - j] (by simp [hlt])
      refine ⟨u, by rw [Array.getElem?_toList]; rw [show base + (p * sz + q) - (base + (p * sz + j)) = q - j by omega]; exact hu, RelX.of ?_ (hcsw _)⟩
      rw [List.getD_eq_getElem?_getD, List.getElem?_eq_getElem hlt, Option.getD_some]
      exact M _ _ hr
     ·have hne : ¬ (base + (i * sz + j) ≤ base + (p * sz + q) ∧ base + (p * sz + q) < base + (i * sz + j) + cs.length) := by
       rintro ⟨g1, g2⟩
       apply hpq
       by_cases hpi : p = i
       ·subst hpi; exact ⟨rfl, by omega, by omega⟩
       ·rcases Nat.lt_or_gt_of_ne hpi with hlt | hlt
        ·have : (p + 1) * sz ≤ i * sz := Nat.mul_le_mul_right _ hlt
         rw [Nat.add_mul, Nat.one_mul] at this
         omega
        ·have : (i + 1) * sz ≤ p * sz := Nat.mul_le_mul_right _ hlt
         rw [Nat.add_mul, Nat.one_mul] at this
         omega
      rw [if_neg hne]
      simp only [if_neg hpq]
      obtain ⟨u, hu, hr⟩ := hcell p hp q hq
      refine ⟨u, hu, ?_⟩
      cases hw : isOw (get p q) with
      | false => exact RelX.of (M _ _ hr.toC) hw
      | true =>
       cases hgq : get p q with
       | ow n' sz' g =>
        rw [hgq] at hr
        refine Hdr.step (hkeep p q ?_) hr
        simp only [obj] at ho2 ⊢
        rw [ho2]
        simp only [if_pos (show p < N ∧ q < sz from ⟨hp, hq⟩), if_neg hpq, hgq, subO']
        simp
       | _ => rw [hgq] at hw; cases hw
    ·simp only at hz
     split at hz
     ·rename_i hpq
      rw [List.getD_eq_getElem?_getD] at hz
      cases hq' : cs[q - j]? with
      | none => rw [hq'] at hz; simp [AC.ref] at hz
      | some c =>
       rw [hq', Option.getD_some] at hz
       exact List.mem_append_right _ (List.mem_flatMap.2 ⟨c, List.mem_of_getElem? hq', hz⟩)
     ·exact List.mem_append_left _ (hrs p hp q hq z hz)
  ·exact hok.elim
 ·exact hok.elim

def PartOk (R : AC → Value → Prop) (p : Nat × List AC) (q : Nat × Value) : Prop := p.1 = q.1 ∧ q.2.cells.size = p.2.length ∧ ∀ (i : Nat) c, p.2[i]? = some c → ∃ u, q.2.cells[i]? = some u ∧ R c u
def Par (R : AC → Value → Prop) : List (Nat × List AC) → List (Nat × Value) → Prop
 | [], [] => True
 | p :: l, q :: r => PartOk R p q ∧ Par R l r
 | _, _ => False
theorem parts_rel {R : AC → Value → Prop} (hone : ∀ x y, R x y → x ≠ .junk → y.cells = #[y]) (hev : ∀ x, RelV R (ev s x) (a.eval x)) : ∀ (ps : List (Nat × Operand)) (l : List (Nat × List AC)), allParts s ps = some l →
  Par R l (ps.map fun (i, x) => (i, a.eval x))
 | [], l, h => by
  simp [allParts] at h
  subst h
  trivial
 | (i, x) :: r, l, h => by
  unfold allParts at h
  split at h
  ·rename_i cs q hcs hq
   injection h with h; subst h
   obtain ⟨c1, c2⟩ := cells_rel hone (hev x) hcs
   exact ⟨⟨rfl, c1, c2⟩, parts_rel hone hev r q hq⟩
  ·cases h
def RelCs (R : AC → Value → Prop) (l : List AC) (C : Array Value) : Prop := C.size = l.length ∧ ∀ (i : Nat) x, l[i]? = some x → ∃ u, C[i]? = some u ∧ R x u
theorem foldl_cells_size (off : Nat) : ∀ (vs : List Value) (k : Nat) (cs : Array Value), ((vs.zipIdx k).foldl (fun cs (x : Value × Nat) => cs.setIfInBounds (off + x.2) x.1) cs).size = cs.size
 | [], k, cs => rfl
 | v :: r, k, cs => by
  rw [List.zipIdx_cons, List.foldl_cons, foldl_cells_size off r (k + 1)]
  simp
theorem foldl_cells_get (off : Nat) : ∀ (vs : List Value) (k : Nat) (cs : Array Value), off + k + vs.length ≤ cs.size → ∀ j : Nat, ((vs.zipIdx k).foldl (fun cs (x : Value × Nat) => cs.setIfInBounds (off + x.2) x.1) cs)[j]? = if off + k ≤ j ∧ j < off + k + vs.length then vs[j - (off + k)]? else cs[j]?
 | [], k, cs, _, j => by rw [if_neg (by simp only [List.length_nil]; omega)]; rfl
 | v :: r, k, cs, h, j => by
  simp only [List.length_cons] at h ⊢
  rw [List.zipIdx_cons, List.foldl_cons, foldl_cells_get off r (k + 1) _ (by simp; omega) j, Array.getElem?_setIfInBounds]
  by_cases h1 : j = off + k
  ·subst h1
   rw [if_neg (by omega), if_pos rfl, if_pos (by omega), if_pos (by omega), Nat.sub_self]
   rfl
  ·by_cases h2 : off + (k + 1) ≤ j ∧ j < off + (k + 1) + r.length
   ·rw [if_pos h2, if_pos (by omega)]
    have : j - (off + k) = (j - (off + (k + 1))) + 1 := by omega
    rw [this]; rfl
   ·rw [if_neg h2, if_neg (by omega), if_neg (by omega)]
theorem fill_rel {R : AC → Value → Prop} {place place' : Nat → Option (Nat × Nat)} : ∀ (l : List (Nat × List AC)) (q : List (Nat × Value)) (cells : List AC) (C : Array Value) (r : List AC),
  Par R l q →
  (∀ i x, place i = some x → place' i = some x) → RelCs R cells C → fillC place cells l = some r → ∃ D, Instr.fill place' C q = some D ∧ RelCs R r D
 | [], [], cells, C, r, _, hp, hc, h => by
  simp [fillC] at h
  subst h
  exact ⟨C, rfl, hc⟩
 | [], _ :: _, _, _, _, h, _, _, _ => h.elim
 | _ :: _, [], _, _, _, h, _, _, _ => h.elim
 | (i, cs) :: l, (i', v) :: q, cells, C, r, ⟨⟨h1, h2, h3⟩, hrest⟩, hp, hc, h => by
  simp only at h1 h2 h3
  subst h1
  unfold fillC at h
  split at h
  ·cases h
  ·rename_i off size hpl
   split at h
   ·rename_i hok
    have hfit : off + v.cells.size ≤ C.size := by rw [h2, hc.1]; exact hok.2
    obtain ⟨D, hD, hr⟩ := fill_rel l q (setL cells off cs) ((v.cells.toList.zipIdx).foldl (fun cs (x : Value × Nat) => cs.setIfInBounds (off + x.2) x.1) C) r hrest hp ⟨by rw [foldl_cells_size, setL_length]; exact hc.1, fun j x hx => by
     rw [foldl_cells_get off _ 0 C (by simpa using hfit)]
     rw [setL_get cs cells off hok.2] at hx
     simp only [Nat.add_zero, Array.length_toList, h2]
     split at hx
     ·rename_i hj
      rw [if_pos hj, Array.getElem?_toList]
      exact h3 _ x hx
     ·rename_i hj
      rw [if_neg hj]
      exact hc.2 j x hx⟩ h
    refine ⟨D, ?_, hr⟩
    simp only [Instr.fill, hp i _ hpl]
    rw [if_neg (by rw [h2, hok.1]; simp; rw [hc.1]; have := hok.2; omega)]
    rw [← Array.foldl_toList, Array.toList_zipIdx]
    exact hD
   ·cases h
end
section
variable {P : Program} {T : TT} {w0 w w' : World} {I0 : Fr} {I I' : Nat → Prop} {L L' : Lay} {s : St} {a : Act} {o : Oper} {ob o' : Obs}

theorem mapM_fields {β : Type} (f : Field → Sem β) (g : Field → β) : ∀ (l : List Field), (∀ x ∈ l, (f x).run P w = .ok (g x) w) → (l.mapM f).run P w = .ok (l.map g) w
 | [], _ => rfl
 | x :: r, h => by
  rw [List.mapM_cons]
  simp [h x (by simp), mapM_fields f g r (fun y hy => h y (by simp [hy]))]
theorem op_build (hT : TOk P T) (hR : RelL w0 I0 L I s a w) {t : TypeId} {parts : Array (Nat × Operand)} (ho : o.op = .build t parts)
  (hok : (evalOp std T o s).ok) : OpDone P w0 I0 o a w ((evalOp std T o s).st o.dst s) := by
 simp only [evalOp, ho] at hok ⊢
 split at hok
 ·rename_i d hd
  cases har : arrOf T t with
  | some r =>
   simp only [har] at hok ⊢
   split at hok
   ·rename_i hp
    have hz := run_zero (w := w) hT hd
    have hzs : d.zero.cells = Array.replicate d.size (.bool false) := hok
    unfold arrOf at har
    rw [hd] at har
    simp only at har
    split at har
    ·rename_i len e hu
     split at har
     ·rename_i ed hed
      have h1 := run_underlying (w := w) (hT t d hd).1
      rw [hu] at h1
      have h2 := run_sizeOf (w := w) hT hed
      have hpe : parts = #[] := Array.toList_eq_nil_iff.1 hp
      subst hpe
      refine done_give hR (y := .agg d.zero.cells) ?_ ⟨d.zero.cells, rfl, by rw [hzs]; simp [std], fun i x hx => ?_⟩
      ·simp [execOp, ho, Instr.build, hz, h1, h2, Instr.fill]
      ·have hx' : (List.replicate d.size (AC.v (.bool false)))[i]? = some x := hx
       rw [List.getElem?_replicate] at hx'
       split at hx'
       ·rename_i hi
        injection hx' with hx'; subst hx'
        exact ⟨.bool false, by rw [hzs, Array.getElem?_replicate, if_pos hi], rfl, rfl⟩
       ·cases hx'
     ·cases har
    ·cases har
   ·exact hok.elim
  | none =>
   simp only [har] at hok ⊢
   split at hok
   ·rename_i ps hps
    split at hok
    ·rename_i cs hcs
     cases hu : d.und with
     | struct fs =>
      rw [hu] at hok
      have hall : ∀ f ∈ fs.toList, ∃ fd, (T (f.type)) = some fd := fun f hf => by
       have := List.all_eq_true.1 hok f hf
       exact Option.isSome_iff_exists.1 this
      have h1 := run_underlying (w := w) (hT t d hd).1
      rw [hu] at h1
      have hz := run_zero (w := w) hT hd
      have hpar := parts_rel (R := RelC L I w (obj s.o)) (fun x y h hx => (h.one hx).2) (fun x => ev_rel hR.tmps x) parts.toList ps hps
      obtain ⟨z1, z2⟩ := zeroC_rel (I := I) (w := w) (hT t d hd).2.2.1
      rw [hu] at hcs
      have hplace : ∀ i x, placeOf T (fieldsOf (.struct fs)) i = some x → (fun i => (fs.map fun f => (f.offset, (((T (f.type))).map TD.size).getD 0))[i]?) i = some x := by
       intro i x hx
       simp only [placeOf, fieldsOf, Array.getElem?_toList] at hx
       split at hx
       ·rename_i f hf
        split at hx
        ·rename_i fd hfd
         injection hx with hx; subst hx
         simp [hf, hfd]
        ·cases hx
       ·cases hx
      obtain ⟨D, hD, hr⟩ := fill_rel (R := RelC L I w (obj s.o)) ps _ (zeroC d) d.zero.cells cs hpar hplace ⟨z1, fun i x hx => by obtain ⟨u, hu, hr⟩ := z2 i x hx; exact ⟨u, hu, RelI.toC _ _ hr⟩⟩ hcs
      refine done_give hR (y := .agg D) ?_ ⟨D, rfl, hr.1, hr.2⟩
      have hm : (fs.mapM fun f => do pure (f.offset, ← Go.sizeOf f.type) : Sem (Array (Nat × Nat))).run P w = .ok (fs.map fun f => (f.offset, (((T (f.type))).map TD.size).getD 0)) w := by
       rw [Array.mapM_eq_mapM_toList]
       have := mapM_fields (P := P) (w := w) (fun f : Field => (do pure (f.offset, ← Go.sizeOf f.type) : Sem (Nat × Nat))) (fun f => (f.offset, (((T (f.type))).map TD.size).getD 0)) fs.toList (fun f hf => by
        obtain ⟨fd, hfd⟩ := hall f hf
        simp [run_sizeOf (w := w) hT hfd, hfd])
       simp only [Sem.run_map, this, Result.andThen_ok]
       congr 1
       apply Array.ext'
       simp
      simp only [execOp, ho]
      have hpl : (parts.map fun (i, x) => (i, a.eval x)).toList = parts.toList.map fun (i, x) => (i, a.eval x) := by simp
      simp only [Sem.run_bind, Instr.build, hz, Result.andThen_ok, h1, hm, hpl]
      rw [hD]
      simp
     | _ => rw [hu] at hok; exact hok.elim
    ·exact hok.elim
   ·exact hok.elim
 ·exact hok.elim
theorem caps_rel (hev : ∀ x, RelV (RelC L I w ob) (ev s x) (a.eval x)) : ∀ (xs : List Operand) (l : List AC), capsOf s xs = some l → l.length = xs.length ∧ ∀ (j : Nat) x, xs[j]? = some x → RelC L I w ob (l.getD j .junk) (a.eval x)
 | [], l, h => by
  simp [capsOf] at h
  subst h
  exact ⟨rfl, fun j x hx => by simp at hx⟩
 | y :: r, l, h => by
  unfold capsOf at h
  split at h
  ·rename_i c q hc hq
   split at h
   ·rename_i him
    injection h with h; subst h
    obtain ⟨h1, h2⟩ := caps_rel hev r q hq
    refine ⟨by simp [h1], fun j x hx => ?_⟩
    cases j with
    | zero =>
     simp at hx
     subst hx
     have := hev y
     rw [hc] at this
     exact this
    | succ j => exact h2 j x (by simpa using hx)
   ·cases h
  ·cases h
theorem op_makeFunc (hR : RelL w0 I0 L I s a w) {f : FuncId} {first caps : Array Operand} (ho : o.op = .makeFunc (.func f) first caps) (hok : (evalOp std T o s).ok) : OpDone P w0 I0 o a w ((evalOp std T o s).st o.dst s) := by
 simp only [evalOp, ho] at hok ⊢
 split at hok
 ·rename_i l hf hl
  obtain ⟨h1, h2⟩ := caps_rel (fun x => ev_rel hR.tmps x) caps.toList l hl
  have hf' : first = #[] := by apply Array.ext'; simpa using hf
  subst hf'
  refine done_give hR (y := .func (.func f) #[] (caps.map a.eval)) ?_ ⟨caps.map a.eval, rfl, by simp [h1], fun j hj => ?_⟩
  ·simp [execOp, ho, Instr.makeFunc]
  ·have hj' : j < caps.size := by rw [h1] at hj; simpa using hj
   exact ⟨a.eval caps[j], by simp [hj'], h2 j caps[j] (by simp [hj'])⟩
 ·exact hok.elim
theorem fillC_length {place : Nat → Option (Nat × Nat)} : ∀ (l : List (Nat × List AC)) (cells r : List AC), fillC place cells l = some r → r.length = cells.length
 | [], cells, r, h => by simp [fillC] at h; rw [h]
 | (i, cs) :: l, cells, r, h => by
  unfold fillC at h
  split at h
  ·cases h
  ·split at h
   ·rw [fillC_length l _ r h, setL_length]
   ·cases h
theorem flatten_rep (z : List AC) : ∀ (n : Nat), ((List.replicate n z).flatten).length = n * z.length ∧ ∀ i : Nat, i < n * z.length → ((List.replicate n z).flatten)[i]? = z[i % z.length]?
 | 0 => ⟨by simp, fun i hi => by omega⟩
 | n + 1 => by
  obtain ⟨h1, h2⟩ := flatten_rep z n
  refine ⟨by rw [List.replicate_succ, List.flatten_cons, List.length_append, h1, Nat.add_mul, Nat.one_mul, Nat.add_comm], fun i hi => ?_⟩
  rw [List.replicate_succ, List.flatten_cons, List.getElem?_append]
  split
  ·rename_i h; rw [Nat.mod_eq_of_lt h]
  ·rename_i h
   rw [h2 _ (by rw [Nat.add_mul, Nat.one_mul] at hi; omega)]
   congr 1
   exact (Nat.mod_eq_sub_mod (by omega)).symm
theorem op_buildSlice (hT : TOk P T) (hR : RelL w0 I0 L I s a w) {t : TypeId} {len : Nat} {parts : Array (Nat × Operand)} (ho : o.op = .buildSlice t len parts) (hok : (evalOp std T o s).ok) : OpDone P w0 I0 o a w ((evalOp std T o s).st o.dst s) := by
 simp only [evalOp, ho] at hok ⊢
 split at hok
 ·rename_i d hd
  split at hok
  ·rename_i ps hps
   split at hok
   ·rename_i cs hcs
    obtain ⟨h1, h5, h2, h3, h4⟩ : cs.all AC.whole = true ∧ (!(cs.flatMap AC.ref).contains (site o.dst)) = true ∧ 0 < d.size ∧ (zeroC d).length = d.size ∧ len * d.size ≤ 16777216 := hok
    unfold elemOf at hd
    split at hd
    ·rename_i td htd
     split at hd
     ·rename_i e hu
      have hu1 := run_underlying (w := w) (hT t td htd).1
      rw [hu] at hu1
      have hz := run_zero (w := w) hT hd
      have hsz := run_sizeOf (w := w) hT hd
      obtain ⟨z1, z2⟩ := zeroC_rel (I := I) (w := w) (hT e d hd).2.2.1
      have hzs : d.zero.cells.size = d.size := by rw [z1, h3]
      have hpar := parts_rel (R := RelC L I w (obj s.o)) (fun x y h hx => (h.one hx).2) (fun x => ev_rel hR.tmps x) parts.toList ps hps
      obtain ⟨f1, f2⟩ := flatten_rep (zeroC d) len
      have hcells : RelCs (RelC L I w (obj s.o)) ((List.replicate len (zeroC d)).flatten) ((Array.range (len * d.size)).map (d.zero.cells[· % d.zero.cells.size]!)) := by
       refine ⟨by simp [f1, h3], fun i x hx => ?_⟩
       have hi : i < len * (zeroC d).length := by
        have := (List.getElem?_eq_some_iff.1 hx).1
        rwa [f1] at this
       rw [f2 i hi] at hx
       obtain ⟨u, hu, hr⟩ := z2 _ x hx
       refine ⟨u, ?_, RelI.toC _ _ hr⟩
       rw [h3] at hi hu
       simp [hi, hzs]
       have hlt : i % d.size < d.zero.cells.size := by rw [hzs]; exact Nat.mod_lt _ h2
       rw [getElem!_pos d.zero.cells _ hlt]
       rw [Array.getElem?_eq_getElem hlt] at hu
       injection hu
      obtain ⟨D, hD, hr⟩ := fill_rel (R := RelC L I w (obj s.o)) (place' := fun i => some (i * d.size, d.size)) ps _ _ _ cs hpar (fun i x hx => hx) hcells hcs
      have h5' : site o.dst ∉ cs.flatMap AC.ref := by simpa using h5
      have hgw : ∀ q, isOw (cs.getD q .junk) = false := fun q => by
       rw [List.getD_eq_getElem?_getD]
       cases hq : cs[q]? with
       | none => rfl
       | some c => exact not_ow (List.all_eq_true.1 h1 c (List.mem_of_getElem? hq))
      refine ⟨_, .slice (some ⟨w.heap.size, 0, none⟩) len len, w.alloc (.cells D e), ?_, .inl rfl, _, I, (hR.fresh (site o.dst) (site2 _) D e (.arr .rw (cs.flatMap AC.ref) len d.size fun i j => cs.getD (i * d.size + j) .junk) (fun i _ j _ => hgw _) ?_).put o.dst (y := .slice (some ⟨w.heap.size, 0, none⟩) len len) ?_⟩
      ·have hpl : (parts.map fun (i, x) => (i, a.eval x)).toList = parts.toList.map fun (i, x) => (i, a.eval x) := by simp
       have h4' : ¬ (len * d.size > 2 ^ 24) := by omega
       simp only [execOp, ho]
       simp only [Sem.run_bind, Instr.buildSlice, hu1, Result.andThen_ok, hsz]
       rw [if_neg h4']
       by_cases h0 : len * d.size = 0
       ·have hl0 : len = 0 := by
         rcases Nat.mul_eq_zero.1 h0 with h | h <;> omega
        subst hl0
        have hr0 : (Array.range (0 * d.size)).map (d.zero.cells[· % d.zero.cells.size]!) = #[] := by
         apply Array.ext'; simp
        have hr1 : (Array.range (0 * d.size)).map ((#[] : Array Value)[· % (#[] : Array Value).size]!) = #[] := by
         apply Array.ext'; simp
        rw [hr0] at hD
        rw [Nat.zero_mul] at hr1
        simp only [hpl, Nat.zero_mul, if_true, Sem.run_bind, Sem.run_pure, Result.andThen_ok]
        rw [hr1, hD]
        simp [newRow]
       ·simp only [h0, if_false, Sem.run_bind, hz, Result.andThen_ok, hpl]
        simp only [Sem.run_pure, Result.andThen_ok]
        rw [hD]
        simp [newRow]
      ·intro L' o' M hI hL' ho' hnI
       unfold ObjOk
       rw [show obj o' (.r _) = _ from ho']
       have hD2 : D.size = len * d.size := by
        rw [hr.1, fillC_length _ _ _ hcs, f1, h3]
       refine ⟨.inr ⟨w.heap.size, 0, D, (e, false), hL', fun _ => hnI, heap_alloc_new w _, ⟨by rw [hD2]; omega, fun q u hu => by
        have hq : q < cs.length := by rw [← hr.1]; exact (Array.getElem?_eq_some_iff.1 hu).1
        obtain ⟨u', hu', hr'⟩ := hr.2 q cs[q] (by simp [hq])
        rw [hu'] at hu; injection hu with hu; subst hu
        exact hr'.one'⟩, fun i hi j hj => ?_⟩, fun i hi j hj k hk => ?_⟩
       ·have hmul : (i + 1) * d.size ≤ len * d.size := Nat.mul_le_mul_right _ hi
        rw [Nat.add_mul, Nat.one_mul] at hmul
        have hlt : i * d.size + j < cs.length := by rw [← hr.1, hD2]; omega
        obtain ⟨u, hu', hr'⟩ := hr.2 (i * d.size + j) cs[i * d.size + j] (by simp [hlt])
        refine ⟨u, by rw [Nat.zero_add]; exact hu', RelX.of ?_ (hgw _)⟩
        simp only
        rw [List.getD_eq_getElem?_getD, List.getElem?_eq_getElem hlt, Option.getD_some]
        have := M _ _ hr'
        rwa [AC.kill_id] at this
        intro k hk hks
        simp at hks
        subst hks
        exact h5' (List.mem_flatMap.2 ⟨_, List.getElem_mem hlt, hk⟩)
       ·simp only at hk
        rw [List.getD_eq_getElem?_getD] at hk
        cases hq' : cs[i * d.size + j]? with
        | none => rw [hq'] at hk; simp [AC.ref] at hk
        | some c =>
         rw [hq', Option.getD_some] at hk
         exact List.mem_flatMap.2 ⟨c, List.mem_of_getElem? hq', hk⟩
      ·refine ⟨.rw, cs.flatMap AC.ref, len, d.size, fun i j => cs.getD (i * d.size + j) .junk, by simp [obj, updL, updO], .inr (.inl ⟨w.heap.size, 0, len, layL_r, by simp, by omega, by omega, (fun c hc => by cases hc), D, (e, false), heap_alloc_new w _, ?_⟩)⟩
       have hD2 : D.size = len * d.size := by
        rw [hr.1, fillC_length _ _ _ hcs, f1, h3]
       show 0 + (0 + len) * d.size ≤ D.size
       rw [hD2, Nat.zero_add, Nat.zero_add]
       exact Nat.le_refl _
     ·cases hd
    ·cases hd
   ·exact hok.elim
  ·exact hok.elim
 ·exact hok.elim
end
section
variable {P : Program} {T : TT} {w0 w w' : World} {I0 : Fr} {I I' : Nat → Prop} {L L' : Lay} {s : St} {a : Act} {o : Oper} {ob o' : Obs}

theorem RelI.noref : ∀ (x : AC) (y : Value), RelI I w x y → x.ref = [] := by
 intro x
 induction x with
 | fn f n caps ih =>
  intro y h
  obtain ⟨cs, hy, hs, hc⟩ := h
  simp only [AC.ref, List.flatMap_eq_nil_iff]
  intro j hj
  obtain ⟨u, hu, hr⟩ := hc j (by simpa using hj)
  exact ih j u hr
 | os => intro y h; exact h.elim
 | ptr => intro y h; exact h.elim
 | ep => intro y h; exact h.elim
 | _ => intro y _; rfl
theorem op_make (hT : TOk P T) (hR : RelL w0 I0 L I s a w) {t : TypeId} {x y : Operand} (ho : o.op = .makeSlice t x y) (hok : (evalOp std T o s).ok) : OpDone P w0 I0 o a w ((evalOp std T o s).st o.dst s) := by
 have hx := ev_rel hR.tmps x
 have hy := ev_rel hR.tmps y
 simp only [evalOp, ho] at hok ⊢
 split at hok
 ·rename_i d k n k' m hd ex ey
  obtain ⟨rfl, h0, h1, h2, h3, h4⟩ : n = m ∧ 0 ≤ n ∧ 0 < d.size ∧ 0 < d.bytes ∧ (zeroC d).length = d.size ∧ n.toNat * d.bytes ≤ 35184372088832 := hok
  unfold elemOf at hd
  split at hd
  ·rename_i td htd
   split at hd
   ·rename_i e hu
    have hu1 := run_underlying (w := w) (hT t td htd).1
    rw [hu] at hu1
    have hz := run_zero (w := w) hT hd
    have hsz := run_sizeOf (w := w) hT hd
    obtain ⟨i, hi, hi1, hi2, hi3⟩ := (hT e d hd).2.1
    obtain ⟨z1, z2⟩ := zeroC_rel (I := I) (w := w) (hT e d hd).2.2.1
    have hzs : d.zero.cells.size = d.size := by rw [z1, h3]
    have hle : n.toNat ≤ 35184372088832 := Nat.le_trans (Nat.le_mul_of_pos_right _ h2) h4
    have hw : IntKind.i64.wrap n = n := by
     simp only [IntKind.wrap, IntKind.signed, IntKind.bits]
     simp
     omega
    have hlarge : ¬ ((d.bytes : Int) * n > 281474976710656) := by
     have : ((n.toNat * d.bytes : Nat) : Int) ≤ 35184372088832 := by omega
     have e1 : ((n.toNat * d.bytes : Nat) : Int) = (d.bytes : Int) * n := by
      rw [Int.natCast_mul, Int.mul_comm]; congr 1; omega
     omega
    have hlow : ¬ n < 0 := by omega
    have hzw : ∀ j, isOw ((zeroC d).getD j .junk) = false := fun j => by
     rw [List.getD_eq_getElem?_getD]
     cases hq : (zeroC d)[j]? with
     | none => rfl
     | some c => obtain ⟨u, _, hr⟩ := z2 j c hq; cases c <;> first | rfl | (simp only [zeroC, List.getElem?_map, Option.map_eq_some_iff] at hq; obtain ⟨_, _, hq⟩ := hq; cases hq)
    have hcell : ∀ q, q < n.toNat * d.size → ∃ u, ((Array.range (n.toNat * d.size)).map (d.zero.cells[· % d.zero.cells.size]!))[q]? = some u ∧ d.zero.cells[q % d.size]? = some u := by
     intro q hq
     have hlt : q % d.size < d.zero.cells.size := by rw [hzs]; exact Nat.mod_lt _ h1
     refine ⟨d.zero.cells[q % d.size], ?_, Array.getElem?_eq_getElem hlt⟩
     simp [hq, hzs]
     rw [getElem!_pos d.zero.cells _ hlt]
    refine ⟨_, .slice (some ⟨w.heap.size, 0, none⟩) n.toNat n.toNat, w.alloc (.cells ((Array.range (n.toNat * d.size)).map (d.zero.cells[· % d.zero.cells.size]!)) e), ?_, .inl rfl, _, I, (hR.fresh (site o.dst) (site2 _) _ e (.arr .rw [] n.toNat d.size fun _ j => (zeroC d).getD j .junk) (fun i _ j _ => hzw j) ?_).put o.dst (y := .slice (some ⟨w.heap.size, 0, none⟩) n.toNat n.toNat) ?_⟩
    ·simp only [execOp, ho, val_of hx ex, val_of hy ey]
     simp only [Sem.run_bind, Instr.makeSlice, hu1, Result.andThen_ok, asInt, asIntOf, Sem.run_pure, typeInfo, run_program, hi, hi2, hw]
     have hlarge' : ¬ (281474976710656 < (d.bytes : Int) * n) := hlarge
     simp [hlow, hlarge', hsz]
     by_cases hn0 : n.toNat * d.size = 0
     ·have hn : n.toNat = 0 := by
       rcases Nat.mul_eq_zero.1 hn0 with h | h <;> omega
      rw [hn]
      have hr0 : ∀ f : Nat → Value, (Array.range 0).map f = #[] := fun f => by apply Array.ext'; simp
      simp [newRow]
      rw [hr0, hr0]
     ·simp [hn0, hz, newRow]
    ·intro L' o' M hI hL' ho' hnI
     unfold ObjOk
     rw [show obj o' (.r _) = _ from ho']
     refine ⟨.inr ⟨w.heap.size, 0, _, (e, false), hL', fun _ => hnI, heap_alloc_new w _, ⟨by simp, fun q u hu => ?_⟩, fun i hi j hj => ?_⟩, fun i hi j hj k hk => ?_⟩
     ·have hq : q < n.toNat * d.size := by have := (Array.getElem?_eq_some_iff.1 hu).1; simpa using this
      obtain ⟨u', g1, g2⟩ := hcell q hq
      rw [g1] at hu; injection hu with hu; subst hu
      exact (hT e d hd).2.2.1 _ (by rw [Array.mem_toList_iff]; exact Array.mem_of_getElem? g2)
     ·obtain ⟨u, hu', hr'⟩ := z2 j (zeroC d)[j] (by simp [h3, hj])
      have hmul : (i + 1) * d.size ≤ n.toNat * d.size := Nat.mul_le_mul_right _ hi
      rw [Nat.add_mul, Nat.one_mul] at hmul
      have hlt : i * d.size + j < n.toNat * d.size := by omega
      have hm : (i * d.size + j) % d.size = j := by
       rw [Nat.mul_comm, Nat.mul_add_mod]; exact Nat.mod_eq_of_lt hj
      obtain ⟨u', g1, g2⟩ := hcell _ hlt
      rw [hm, hu'] at g2; injection g2 with g2; subst g2
      refine ⟨u, by rw [Nat.zero_add]; exact g1, RelX.of ?_ (hzw j)⟩
      simp only
      rw [List.getD_eq_getElem?_getD, List.getElem?_eq_getElem (by rw [h3]; exact hj), Option.getD_some]
      exact RelI.toC _ _ (hr'.mono hI)
     ·have : ((zeroC d).getD j .junk).ref = [] := by
       obtain ⟨u, hu', hr'⟩ := z2 j (zeroC d)[j] (by simp [h3, hj])
       rw [List.getD_eq_getElem?_getD, List.getElem?_eq_getElem (by rw [h3]; exact hj), Option.getD_some]
       exact RelI.noref _ _ hr'
      simp only [this] at hk; exact hk
    ·refine ⟨.rw, [], n.toNat, d.size, fun _ j => (zeroC d).getD j .junk, by simp [obj, updL, updO, std], .inr (.inl ⟨w.heap.size, 0, n.toNat, layL_r, by simp [std], by simp [std], by omega, (fun c hc => by cases hc), _, (e, false), heap_alloc_new w _, by simp⟩)⟩
   ·cases hd
  ·cases hd
 ·exact hok.elim

theorem src_rel (hH : HRel L I w (obj s.o)) {d : TD} {ats : Array TypeId} {y : AV} {v : Value} {rs : List Nat} {n sz : Nat} {get : Nat → Nat → AC} (hT : TOk P T) (hv : RelV (RelC L I w (obj s.o)) y v) (ht : srcT T d ats y = true) (hs : srcOf std d.size s.o y = some (rs, n, sz, get)) (hsz : sz = d.size) (hpos : 0 < d.size) :
  (∃ tx news, ats[1]? = some tx ∧ Src P d.size tx v n news w ∧ ∀ i, i < n → ∀ j, j < d.size → ∃ u, news[i * d.size + j]? = some u ∧ RelC L I w (obj s.o) (get i j) u) ∧ (∀ i, i < n → ∀ j, j < d.size → (∀ k ∈ (get i j).ref, k ∈ rs) ∧ isOw (get i j) = false) := by
 unfold srcT at ht
 split at ht
 ·rename_i tx htx
  split at ht
  ·rename_i td htd
   have hund := (hT tx td htd).1
   -- cells behind an address
   have key : ∀ (b off cap n : Nat) (g : Nat → Nat → AC) (e' : TypeId), P.underlying tx = some (.slice e') → (∀ i, i < n → ∀ j, j < d.size → ∃ u, w.cell? ⟨b, off + (i * d.size + j), none⟩ = some u ∧ RelC L I w (obj s.o) (g i j) u) → 0 < d.size →
     ∃ news, Src P d.size tx (.slice (some ⟨b, off, none⟩) n cap) n news w ∧ ∀ i, i < n → ∀ j, j < d.size → ∃ u, news[i * d.size + j]? = some u ∧ RelC L I w (obj s.o) (g i j) u := by
    intro b off cap n g e' hk hc hpos
    have hidx : ∀ q, q < n * d.size → q / d.size < n ∧ q % d.size < d.size ∧ q / d.size * d.size + q % d.size = q := fun q hq => ⟨(Nat.div_lt_iff_lt_mul hpos).2 hq, Nat.mod_lt _ hpos, by have := Nat.div_add_mod q d.size; rw [Nat.mul_comm] at this; exact this⟩
    obtain ⟨f, hf⟩ := choose_cells (R := fun x u => ∃ q, x = g (q / d.size) (q % d.size) ∧ RelC L I w (obj s.o) x u) (n := n * d.size) (g := fun q => g (q / d.size) (q % d.size)) (c := fun q => w.cell? ⟨b, off + q, none⟩) (fun q hq => by
     obtain ⟨h1, h2, h3⟩ := hidx q hq
     obtain ⟨u, hu, hr⟩ := hc _ h1 _ h2
     rw [h3] at hu
     exact ⟨u, hu, q, rfl, hr⟩)
    refine ⟨(List.range (n * d.size)).map f, Src.ofSlice w hk ⟨b, off, none⟩ n cap _ (by simp) (fun j u hj => ?_) (fun u hu => ?_), fun i hi j hj => ?_⟩
    ·rw [List.getElem?_map] at hj
     simp only [Option.map_eq_some_iff] at hj
     obtain ⟨q, hq, rfl⟩ := hj
     have hlt : j < n * d.size := by have := (List.getElem?_eq_some_iff.1 hq).1; simpa using this
     rw [List.getElem?_range hlt] at hq
     injection hq with hq; subst hq
     rw [addr_add]
     exact (hf _ hlt).1
    ·obtain ⟨q, hq, rfl⟩ := List.mem_map.1 hu
     obtain ⟨_, _, h⟩ := (hf q (by simpa using hq)).2
     exact h.one'
    ·have hmul : (i + 1) * d.size ≤ n * d.size := Nat.mul_le_mul_right _ hi
     rw [Nat.add_mul, Nat.one_mul] at hmul
     have hlt : i * d.size + j < n * d.size := by omega
     refine ⟨f (i * d.size + j), by simp [hlt], ?_⟩
     obtain ⟨q, hq, hr⟩ := (hf _ hlt).2
     have e1 : (i * d.size + j) / d.size = i := by
      rw [Nat.mul_comm, Nat.mul_add_div hpos, Nat.div_eq_of_lt hj, Nat.add_zero]
     have e2 : (i * d.size + j) % d.size = j := by
      rw [Nat.mul_comm, Nat.mul_add_mod]; exact Nat.mod_eq_of_lt hj
     rw [e1, e2] at hr
     exact hr
   split at ht
   ·rename_i e' n0 sz0 g0 hu
    rw [hu] at hund
    simp only [srcOf, Option.some.injEq, Prod.mk.injEq] at hs
    obtain ⟨rfl, rfl, rfl, rfl⟩ := hs
    obtain ⟨ad, cap, rfl, hnc, hc⟩ := hv
    by_cases hn : 0 < n0
    ·obtain ⟨b, off, rfl, hb, hcell⟩ := hc hn
     subst hsz
     refine ⟨?_, fun i hi j hj => ⟨fun k hk => ?_, isOw_cp _⟩⟩
     ·obtain ⟨news, h1, h2⟩ := key b off cap n0 (fun i j => (g0 i j).cp) e' hund (fun i hi j hj => by obtain ⟨u, hu, hr⟩ := hcell i hi j hj; exact ⟨u, hu, (RelI.toC _ _ hr).cp⟩) hpos
      exact ⟨tx, news, htx, h1, h2⟩
     ·obtain ⟨u, hu, hr⟩ := hcell i hi j hj
      rw [cp_ref, RelI.noref _ _ hr] at hk; exact hk
    ·have : n0 = 0 := by omega
     subst this
     refine ⟨?_, fun i hi => absurd hi (by omega)⟩
     cases ad with
     | none => exact ⟨tx, [], htx, Src.ofNil w hund cap, fun i hi => absurd hi (by omega)⟩
     | some ad => exact ⟨tx, [], htx, Src.ofSlice w hund ad 0 cap [] (by simp) (fun j u hj => by simp at hj) (fun u hu => by cases hu), fun i hi => absurd hi (by omega)⟩
   ·rename_i e' k off n0 hu
    rw [hu] at hund
    obtain ⟨m, rs0, N, sz0, g0, hk, hh⟩ := hv
    have hk' : s.o k = .arr m rs0 N sz0 g0 := hk
    simp only [srcOf, hk', Option.some.injEq, Prod.mk.injEq] at hs
    obtain ⟨rfl, rfl, rfl, rfl⟩ := hs
    rcases hh with ⟨_, _, rfl, _, ⟨ad, rfl⟩, _⟩ | ⟨b, base, cap, hL, rfl, h1, h2, _⟩ | ⟨_, rfl, _, ad, cap, rfl⟩
    rotate_right
    ·refine ⟨?_, fun i hi => absurd hi (by omega)⟩
     cases ad with
     | none => exact ⟨tx, [], htx, Src.ofNil w hund cap, fun i hi => absurd hi (by omega)⟩
     | some ad => exact ⟨tx, [], htx, Src.ofSlice w hund ad 0 cap [] (by simp) (fun j u hj => by simp at hj) (fun u hu => by cases hu), fun i hi => absurd hi (by omega)⟩
    ·refine ⟨?_, fun i hi => absurd hi (by omega)⟩
     cases ad with
     | none => exact ⟨tx, [], htx, Src.ofNil w hund 0, fun i hi => absurd hi (by omega)⟩
     | some ad => exact ⟨tx, [], htx, Src.ofSlice w hund ad 0 0 [] (by simp) (fun j u hj => by simp at hj) (fun u hu => by cases hu), fun i hi => absurd hi (by omega)⟩
    ·obtain ⟨hO, hrs⟩ := hH.arr hk
     refine ⟨?_, fun i hi j hj => ⟨fun k hk => ?_, isOw_cp _⟩⟩
     ·rcases hO with ⟨h3, _⟩ | ⟨b', base', C, e, h3, _, hC, _, hcell⟩
      ·rw [hL] at h3; cases h3
      ·rw [hL] at h3; injection h3 with h3; injection h3 with h3 h3'; subst h3; subst h3'
       subst hsz
       obtain ⟨news, g1, g2⟩ := key b (base + off * d.size) cap n0 (fun i j => (g0 (off + i) j).cp) e' hund (fun i hi j hj => by
        obtain ⟨u, hu, hr⟩ := hcell (off + i) (by omega) j hj
        refine ⟨u, ?_, hr.toC.cp⟩
        rw [cell_of hC, ← hu, Nat.add_mul, Nat.add_assoc, Nat.add_assoc]) hpos
       exact ⟨tx, news, htx, g1, g2⟩
     ·rw [cp_ref] at hk
      exact hrs (off + i) (by omega) j (by rw [hsz]; exact hj) k hk
   ·rename_i e' ad n0 c0 hu
    rw [hu] at hund
    cases ad with
    | some ad => simp [srcOf] at hs
    | none =>
     cases n0 with
     | succ q => simp [srcOf] at hs
     | zero =>
      simp only [srcOf, Option.some.injEq, Prod.mk.injEq] at hs
      obtain ⟨rfl, rfl, rfl, rfl⟩ := hs
      obtain ⟨rfl, _⟩ := hv
      exact ⟨⟨tx, [], htx, Src.ofNil w hund c0, fun i hi => absurd hi (by omega)⟩, fun i hi => absurd hi (by omega)⟩
   ·rename_i b0 hu
    rw [hu] at hund
    simp only [srcOf, Option.some.injEq, Prod.mk.injEq] at hs
    obtain ⟨rfl, rfl, rfl, rfl⟩ := hs
    obtain ⟨rfl, _⟩ := hv
    have hd1 : d.size = 1 := by simpa using ht
    rw [hd1]
    refine ⟨⟨tx, byteCells b0, htx, Src.ofString w hund b0, fun i hi j hj => ?_⟩, fun i hi j hj => ⟨fun k hk => (by cases hk), rfl⟩⟩
    have hi' : i < b0.size := hi
    have hj0 : j = 0 := by omega
    subst hj0
    refine ⟨.int .u8 b0[i].toNat, ?_, ?_, rfl⟩
    ·have hlen : i < b0.data.toList.length := by simpa using hi'
     simp only [byteCells, Nat.mul_one, Nat.add_zero, List.getElem?_map, List.getElem?_eq_getElem hlen, Option.map_some]
     rfl
    ·simp [std, hi']
   ·cases ht
  ·cases ht
 ·cases ht
theorem RelL.drew (hR : RelL w0 I0 L I s a w) : RelL w0 I0 L I s a w.drew := by
 have hK : Keeps [] L I w (obj s.o) L I w.drew (obj s.o) := ⟨fun b hb => ⟨hb, rfl⟩, fun k _ hg => ⟨rfl, AO.like_refl _ hg, fun b x C e hL hC => ⟨C, hC, rfl⟩⟩⟩
 have := hR.step (Turn.kill []) hK.moves (fun _ => False) (o' := s.o) (fun k _ => .inr ⟨(AO.kill_nil _).symm, fun id _ _ => ⟨rfl, fun b x _ => ⟨rfl, fun h => h⟩⟩⟩) (fun k hk => hk.elim) hR.heap.inj hR.heap.imm hR.heap.glo (fun b hb => hb) hR.only hR.below.drew hR.new hR.kept
 have e0 : AV.map (AC.kill []) = id := AV.kill_nil'
 rw [e0, List.map_id] at this
 exact this
theorem RelL.app (hR : RelL w0 I0 L I s a w) (ks : List Nat) (k k' : Nat) (hk : k' ∈ ks) (hk0 : k ∈ ks) (h2 : k' % 2 = 0) {m : Md} {rs rsx : List Nat} {N n sz : Nat} {get get' : Nat → Nat → AC} (hold : N = 0 ∨ s.o k = .arr m rs N sz get)
  (hdis : ∀ q ∈ rsx, q ∉ ks) (hr1 : ∀ i, i < N → ∀ j, j < sz → ∀ q ∈ (get i j).ref, q ∈ rsx) (hr2 : ∀ i, i < n → ∀ j, j < sz → (∀ q ∈ (get' i j).ref, q ∈ rsx) ∧ isOw (get' i j) = false)
  (w' : World) (bl : Option (Nat × Nat)) (hI : ∀ b, I b → w'.heap[b]? = w.heap[b]?) (hb : ∀ id b y, id ≠ .r k → obj s.o id ≠ .gone → L id = some (b, y) → w'.heap[b]? = w.heap[b]?) (hsz : w.heap.size ≤ w'.heap.size) (hbel : BelowE I0.E w0 w')
  (hbl : (bl = none ∧ N + n = 0) ∨ ∃ b base C e, bl = some (b, base) ∧ ¬ I b ∧ w'.heap[b]? = some (.cells C (eT e) (frz e C)) ∧ (base + (N + n) * sz ≤ C.size ∧ ∀ (q : Nat) u, C[q]? = some u → u.oneCell' = true) ∧
   (∀ i, i < N → ∀ j, j < sz → ∃ u, C[base + (i * sz + j)]? = some u ∧ RelX L I w (obj s.o) (.r k) i j (get i j) u) ∧ (∀ i, i < n → ∀ j, j < sz → ∃ u, C[base + ((N + i) * sz + j)]? = some u ∧ RelC L I w (obj s.o) (get' i j) u) ∧
   (w.heap.size ≤ b ∨ (s.o k ≠ .gone ∧ ∃ z, L (.r k) = some (b, z)))) :
  RelL w0 I0 (layL L k' bl fun i j => L (.s k i j)) I ⟨(s.kill ks).t, updL [(k', .arr .rw rsx (N + n) sz (joinC N get get'))] (s.kill ks).o⟩ a w' := by
 have hjoin : ∀ i j, isOw (joinC N get get' i j) = true → i < N + n → j < sz → i < N ∧ joinC N get get' i j = get i j := by
  intro i j ho hi hj
  by_cases hiN : i < N
  ·exact ⟨hiN, by simp [joinC, hiN]⟩
  ·rw [show joinC N get get' i j = get' (i - N) j by simp [joinC, hiN], (hr2 (i - N) (by omega) j hj).2] at ho; cases ho
 have hself : ∀ o' : Nat → AO, o' = updO (killO ks s.o) k' (.arr .rw rsx (N + n) sz (joinC N get get')) → o' k' = .arr .rw rsx (N + n) sz (joinC N get get') := fun o' ho' => by rw [ho']; simp [updO]
 have hsub : ∀ o' : Nat → AO, o' = updO (killO ks s.o) k' (.arr .rw rsx (N + n) sz (joinC N get get')) → ∀ i j, obj o' (.s k' i j) ≠ .gone → obj o' (.s k' i j) = obj s.o (.s k i j) ∧ obj s.o (.s k i j) ≠ .gone := by
  intro o' ho' i j hg
  simp only [obj, hself o' ho'] at hg ⊢
  split at hg
  ·rename_i hlt
   cases hx : isOw (joinC N get get' i j) with
   | false => rw [subO'_not hx] at hg; exact (hg rfl).elim
   | true =>
    obtain ⟨h3, h4⟩ := hjoin i j hx hlt.1 hlt.2
    rcases hold with h5 | h5
    ·omega
    ·rw [h4] at hg ⊢
     simp only [if_pos hlt, h5, if_pos (show i < N ∧ j < sz from ⟨h3, hlt.2⟩)]
     exact ⟨trivial, hg⟩
  ·exact (hg rfl).elim
 refine hR.lay ks k' hk h2 _ bl _ w' hI (fun id b y hr hg hL => hb id b y (by rintro rfl; exact hr hk0) hg hL) hsz hbel ?_ ?_ ?_
 ·intro o' ho' M id hr
  have hfix : ∀ x : AC, (∀ q ∈ x.ref, q ∈ rsx) → x.kill ks = x := fun x hx => AC.kill_id fun q hq => hdis q (hx q hq)
  cases id with
  | r q =>
   have e : q = k' := hr
   subst e
   unfold ObjOk
   rw [show obj o' (.r q) = _ from hself o' ho']
   refine ⟨?_, fun i hi j hj z hz => ?_⟩
   ·rw [layL_r]
    rcases hbl with ⟨h3, h4⟩ | ⟨b, base, C, e, h3, h4, h5, h6, h7, h8, _⟩
    ·exact .inl ⟨h3, h4, fun c hc => by cases hc⟩
    ·refine .inr ⟨b, base, C, e, h3, fun _ => h4, h5, h6, fun i hi j hj => ?_⟩
     by_cases hiN : i < N
     ·obtain ⟨u, hu, hrr⟩ := h7 i hiN j hj
      refine ⟨u, hu, ?_⟩
      have e1 : joinC N get get' i j = get i j := by simp [joinC, hiN]
      rw [e1]
      have h9 := hfix (get i j) (hr1 i hiN j hj)
      cases hx : isOw (get i j) with
      | false =>
       refine RelX.of ?_ hx
       rw [← h9]; exact M _ _ hrr.toC
      | true =>
       cases hgx : get i j with
       | ow n' sz' g =>
        rw [hgx] at hrr
        have hlive : obj o' (.s q i j) ≠ .gone := by
         simp only [obj, hself o' ho', if_pos (show i < N + n ∧ j < sz from ⟨hi, hj⟩), e1, hgx, subO']; simp
        obtain ⟨g1, g2⟩ := hsub o' ho' i j hlive
        refine Hdr.step (id := .s k i j) ⟨layL_s, by rw [g1]; exact AO.like_refl _ g2, fun b' y C' e' hL hC => ⟨C', by rw [hb (.s k i j) b' y (by simp) g2 hL]; exact hC, rfl⟩⟩ hrr
       | _ => rw [hgx] at hx; cases hx
     ·obtain ⟨u, hu, hrr⟩ := h8 (i - N) (by omega) j hj
      rw [show N + (i - N) = i by omega] at hu
      refine ⟨u, hu, ?_⟩
      have e1 : joinC N get get' i j = get' (i - N) j := by simp [joinC, hiN]
      obtain ⟨g1, g2⟩ := hr2 (i - N) (by omega) j hj
      rw [e1]
      refine RelX.of ?_ g2
      rw [← hfix _ g1]; exact M _ _ hrr
   ·by_cases hiN : i < N
    ·rw [show joinC N get get' i j = get i j by simp [joinC, hiN]] at hz
     exact hr1 i hiN j hj z hz
    ·rw [show joinC N get get' i j = get' (i - N) j by simp [joinC, hiN]] at hz
     exact (hr2 (i - N) (by omega) j hj).1 z hz
  | s q i j =>
   have e : q = k' := hr
   subst e
   by_cases hg : obj o' (.s q i j) = .gone
   ·unfold ObjOk; rw [hg]; trivial
   ·obtain ⟨g1, g2⟩ := hsub o' ho' i j hg
    obtain ⟨m', rs', n', sz', get2, a', b', g, _, _, _, _, g3⟩ := obj_s g2
    have h0 := hR.heap.arr g3
    unfold ObjOk
    rw [g1, g3]
    refine ⟨?_, h0.2⟩
    rw [layL_s]
    rcases h0.1 with h3 | ⟨b, base, C, e, h3, h4, h5, h6, h7⟩
    ·exact .inl h3
    ·refine .inr ⟨b, base, C, e, h3, h4, by rw [hb (.s k i j) b base (by simp) g2 h3]; exact h5, h6, fun i' hi' j' hj' => ?_⟩
     obtain ⟨u, hu, hrr⟩ := h7 i' hi' j' hj'
     refine ⟨u, hu, RelX.of ?_ (isOw_cp _)⟩
     have h9 := M _ _ hrr.toC
     rw [AC.kill_id (fun z hz => by have := h0.2 i' hi' j' hj' z hz; simp at this)] at h9
     exact h9
 ·intro o' ho' id b y hr hg hL
  cases id with
  | r q =>
   have e : q = k' := hr
   subst e
   rw [layL_r] at hL
   rcases hbl with ⟨h3, h4⟩ | ⟨b', base, C, e, h3, h4, h5, h6, h7, h8, h9⟩
   ·rw [h3] at hL; cases hL
   ·rw [h3] at hL; injection hL with hL; injection hL with h10 h11; subst h10
    rcases h9 with h9 | ⟨h9, z, h10⟩
    ·exact .inl h9
    ·exact .inr ⟨.r k, z, hk0, h9, h10⟩
  | s q i j =>
   have e : q = k' := hr
   subst e
   obtain ⟨g1, g2⟩ := hsub o' ho' i j hg
   rw [layL_s] at hL
   exact .inr ⟨.s k i j, y, hk0, g2, hL⟩
 ·intro o' ho' id id' b y y' hr hr' hg hg' hL hL'
  have hrs : ∀ i j, obj o' (.s k' i j) ≠ .gone → ∀ b y y', bl = some (b, y) → L (.s k i j) = some (b, y') → False := by
   intro i j hg b y y' hbb hLs
   obtain ⟨g1, g2⟩ := hsub o' ho' i j hg
   rcases hbl with ⟨h3, h4⟩ | ⟨b', base, C, e, h3, h4, h5, h6, h7, h8, h9⟩
   ·rw [h3] at hbb; cases hbb
   ·rw [h3] at hbb; injection hbb with hbb; injection hbb with h10 h11; subst h10
    rcases h9 with h9 | ⟨h9, z, h10⟩
    ·have := (hR.heap.lt g2 hLs).1; omega
    ·have := hR.heap.inj (.s k i j) (.r k) b' y' z g2 h9 hLs h10; cases this
  cases id with
  | r q =>
   have e : q = k' := hr
   subst e
   rw [layL_r] at hL
   cases id' with
   | r q' => have e : q' = q := hr'; rw [e]
   | s q' i j =>
    have e : q' = q := hr'
    subst e
    rw [layL_s] at hL'
    exact (hrs i j hg' b y y' hL hL').elim
  | s q i j =>
   have e : q = k' := hr
   subst e
   rw [layL_s] at hL
   cases id' with
   | r q' =>
    have e : q' = q := hr'
    subst e
    rw [layL_r] at hL'
    exact (hrs i j hg b y' y hL' hL).elim
   | s q' i' j' =>
    have e : q' = q := hr'
    subst e
    rw [layL_s] at hL'
    have := hR.heap.inj (.s k i j) (.s k i' j') b y y' (hsub o' ho' i j hg).2 (hsub o' ho' i' j' hg').2 hL hL'
    injection this with _ h1 h2
    rw [h1, h2]
end
section
variable {P : Program} {T : TT} {w0 w w' : World} {I0 : Fr} {I I' : Nat → Prop} {L L' : Lay} {s : St} {a : Act} {o : Oper} {ob o' : Obs}
theorem eId2 (k : Nat) (d : Option Nat) : eId k d % 2 = 0 := by
 unfold eId
 split
 ·assumption
 ·exact site2 d
def AppDone (P : Program) (w0 : World) (I0 : Fr) (I : Nat → Prop) (L : Lay) (s : St) (o : Oper) (a : Act) (w : World) (yv : Value) (ks : List Nat) (k' : Nat) (rsx : List Nat) (N n sz : Nat) (get get' : Nat → Nat → AC) : Prop :=
 ∃ v w' L', (execOp a.eval o).run P w = .ok (.value v) w' ∧ RelL w0 I0 L' I ⟨(s.kill ks).t, updL [(k', .arr .rw rsx (N + n) sz (joinC N get get'))] (s.kill ks).o⟩ a w' ∧ k' ∈ ks ∧
  (∀ (L'' : Lay) o'' gd, L'' (.r k') = L' (.r k') → o'' k' = .arr .rw rsx (N + n) sz gd → RelC L'' I w' (obj o'') (.os k' 0 (N + n)) v) ∧
  (∀ q, q ∉ ks → L' (.r q) = L (.r q)) ∧ (∀ q b base, q ∉ ks → obj s.o (.r q) ≠ .gone → L (.r q) = some (b, base) → w'.heap[b]? = w.heap[b]?) ∧
  (0 < n → ∃ tx news, Src P sz tx yv n news w ∧ ∃ b' base' C' e', L' (.r k') = some (b', base') ∧ w'.heap[b']? = some (.cells C' (eT e') (frz e' C')) ∧ ∀ i, i < n → ∀ j, j < sz → C'[base' + ((N + i) * sz + j)]? = news[i * sz + j]?)
theorem op_appendD (hT : TOk P T) (hR : RelL w0 I0 L I s a w) {c : Call} (ho : o.op = .call c) {x y : AV} (hc : c.callee = .builtin .append) (hxy : c.args.toList.map (ev s) = [x, y]) (hok : (appO std T c.argTypes o.dst x y s.o).ok) :
  ∃ yv k' rsx n sz get get' size rs', RelV (RelC L I w (obj s.o)) y yv ∧ (appO std T c.argTypes o.dst x y s.o).val = .c (.os k' 0 (lenOfV x + n)) ∧ (appO std T c.argTypes o.dst x y s.o).upds = [(k', .arr .rw rsx (lenOfV x + n) sz (joinC (lenOfV x) get get'))] ∧
   srcOf std size s.o y = some (rs', n, sz, get') ∧ 0 < sz ∧ AppDone P w0 I0 I L s o a w yv (appO std T c.argTypes o.dst x y s.o).kills k' rsx (lenOfV x) n sz get get' := by
 have hargs := args_rel hR.tmps c.args.toList
 rw [hxy] at hargs
 obtain ⟨xv, hxv, hx⟩ := hargs 0 x rfl
 obtain ⟨yv, hyv, hy⟩ := hargs 1 y rfl
 have hav : c.args.map a.eval = #[xv, yv] := by
  apply Array.ext'
  simp only [Array.toList_map]
  have hlen : c.args.toList.length = 2 := by have := congrArg List.length hxy; simpa using this
  cases hq : c.args.toList with
  | nil => rw [hq] at hlen; cases hlen
  | cons p r =>
   cases r with
   | nil => rw [hq] at hlen; cases hlen
   | cons p' r' =>
    rw [hq] at hlen hxv hyv
    have : r' = [] := by simpa using hlen
    subst this
    simp at hxv hyv
    simp [hxv, hyv]
 have hrunv : ∀ v w', (Builtin.append_ c.argTypes o.type #[xv, yv]).run P w = .ok v w' → (execOp a.eval o).run P w = .ok (.value v) w' := by
  intro v w' h
  rw [builtin_run ho hc, hav]
  simp [builtin, h]
 unfold appO at hok ⊢
 split at hok
 ·exact hok.elim
 ·rename_i t hat
  simp only [hat]
  split at hok
  ·exact hok.elim
  ·rename_i d hd
   split at hok
   ·exact hok.elim
   ·rename_i hst
    split at hok
    ·exact hok.elim
    ·rename_i rs' n sz get' hsrc
     -- the element's type
     have hel : ∃ e i, P.underlying t = some (.slice e) ∧ P.info? e = some i ∧ i.size = d.size ∧ i.bytes = d.bytes ∧ i.zero = some d.zero ∧ (∀ x ∈ d.zero.cells.toList, x.oneCell' = true) := by
      unfold elemOf at hd
      split at hd
      ·rename_i td htd
       split at hd
       ·rename_i e hu
        obtain ⟨i, h1, h2, h3, h4⟩ := (hT e d hd).2.1
        exact ⟨e, i, by rw [(hT t td htd).1, hu], h1, h2, h3, h4, (hT e d hd).2.2.1⟩
       ·cases hd
      ·cases hd
     obtain ⟨e, i, hu, hi, hi1, hi2, hi3, hi4⟩ := hel
     have hats : ∀ tx, c.argTypes[1]? = some tx → (Builtin.append_ c.argTypes o.type #[xv, yv]) = (Builtin.append_ #[t, tx] o.type #[xv, yv]) := by
      intro tx htx
      unfold Builtin.append_
      simp [hat, htx]
     -- a new array
     have grow : ∀ (ks : List Nat) (k k' N : Nat) (m : Md) (rs rsx : List Nat) (get : Nat → Nat → AC) (ad : Option Addr) (cap : Nat) (olds : List Value) (u : Unit), k' ∈ ks → k ∈ ks → k' % 2 = 0 → (N = 0 ∨ s.o k = .arr m rs N d.size get) →
       (∀ q ∈ rsx, q ∉ ks) → (∀ i, i < N → ∀ j, j < d.size → ∀ q ∈ (get i j).ref, q ∈ rsx) → (∀ q ∈ rs', q ∈ rsx) → sz = d.size → 0 < d.size → 0 < d.bytes → (zeroC d).length = d.size → (N + n) * d.bytes ≤ 35184372088832 → cap < N + n → xv = .slice ad N cap → olds.length = N * d.size →
       (Builtin.firstCells i.size N (.slice ad N cap)).run P w.drew = .ok olds.toArray w.drew → (∀ v ∈ olds, v.oneCell' = true) → (∀ q, q < N → ∀ j, j < d.size → ∃ u, olds[q * d.size + j]? = some u ∧ RelX L I w (obj s.o) (.r k) q j (get q j) u) →
       AppDone P w0 I0 I L s o a w yv ks k' rsx N n d.size get get' := by
      intro ks k k' N m rs rsx get ad cap olds _ g1 g2 g3 g4 g5 g6 g7 h1 h2 h3 h4 h5 h6 h7 h8 h9 h99 h10
      subst h1
      obtain ⟨⟨tx, news, htx, hsrc', hnews⟩, hnr⟩ := src_rel hR.heap hT hy hst hsrc rfl h2
      have hN : N + n ≤ 35184372088832 := Nat.le_trans (Nat.le_mul_of_pos_right _ h3) h5
      have hsrc2 : Src P i.size tx yv n news w := by rw [hi1]; exact hsrc'
      have hz3 : d.zero.cells.size = d.size := by rw [← h4]; simp [zeroC]
      have hrun := run_append_grow_src w t tx o.type e i d.zero hu hi hi3 ad N cap olds h9 yv n news hsrc2 h6 (by omega) (by rw [hi2]; exact growslice_fits h6 (by omega))
      have hcapge := grownCap_ge w (N + n) cap e
      revert hrun hcapge
      generalize grownCap w (N + n) cap e = CAP
      intro hrun hcapge
      have hnl := hsrc'.newsLen
      obtain ⟨ROW, hROW⟩ : ∃ ROW, ROW = (olds ++ news).toArray ++ Builtin.zeroCells d.zero.cells (CAP - (N + n)) := ⟨_, rfl⟩
      have hsize : ROW.size = CAP * d.size := by
       rw [hROW]
       simp only [Array.size_append, List.size_toArray, List.length_append, h8, hnl, size_zeroCells, hz3, ← Nat.add_mul]
       congr 1; omega
      have hget : ∀ q, q < (N + n) * d.size → ROW[q]? = (olds ++ news)[q]? := by
       intro q hq
       rw [hROW, Array.getElem?_append, if_pos (by simp [h8, hnl, ← Nat.add_mul]; exact hq), List.getElem?_toArray]
      have hone : ∀ (q : Nat) u, ROW[q]? = some u → u.oneCell' = true := by
       intro q u hq
       rw [hROW, Array.getElem?_append] at hq
       split at hq
       ·rw [List.getElem?_toArray] at hq
        have := List.mem_of_getElem? hq
        rw [List.mem_append] at this
        rcases this with h | h
        ·exact h99 u h
        ·exact hsrc'.one u h
       ·unfold Builtin.zeroCells at hq
        simp only [Array.getElem?_map, Option.map_eq_some_iff] at hq
        obtain ⟨z, hz, rfl⟩ := hq
        have hlt : z % d.zero.cells.size < d.zero.cells.size := Nat.mod_lt _ (by omega)
        rw [getElem!_pos d.zero.cells _ hlt]
        exact hi4 _ (by simp)
      rw [← hROW] at hrun
      have hst2 := hR.drew.app ks k k' g1 g2 g3 g4 g5 g6 (fun i hi j hj => ⟨fun q hq => g7 q ((hnr i hi j hj).1 q hq), (hnr i hi j hj).2⟩) (w.drew.alloc (.cells ROW e)) (some (w.heap.size, 0))
       (fun b hb => heap_alloc_old w.drew _ b (hR.heap.imm b hb)) (fun id b y _ hg hL => heap_alloc_old w.drew _ b (hR.heap.lt hg hL).1) (by simp) (hR.below.drew.alloc _)
       (.inr ⟨w.heap.size, 0, ROW, (e, false), rfl, fun hI => by have := hR.heap.imm _ hI; omega, heap_alloc_new w.drew _, ⟨by rw [hsize, Nat.zero_add]; exact Nat.mul_le_mul_right _ hcapge, hone⟩, fun q hq j hj => ?_, fun q hq j hj => ?_, .inl (Nat.le_refl _)⟩)
      ·refine ⟨_, _, _, hrunv _ _ (by rw [hats tx htx, h7]; exact hrun), hst2, g1, fun L'' o'' gd hL'' ho'' => ?_, fun q hq => layL_other (show q ≠ k' from fun h => hq (h ▸ g1)), fun q b base hq hg hL => heap_alloc_old w.drew _ b (hR.heap.lt hg hL).1, fun _ => ?_⟩
       ·refine ⟨.rw, rsx, N + n, d.size, gd, ho'', .inr (.inl ⟨w.heap.size, 0, CAP, by rw [hL'']; exact layL_r, by simp, by omega, by omega, (fun c hc => by cases hc), ROW, (e, false), heap_alloc_new w.drew _, ?_⟩)⟩
        rw [hsize]; simp
       ·refine ⟨tx, news, hsrc', w.heap.size, 0, ROW, (e, false), layL_r, heap_alloc_new w.drew _, fun q hq j hj => ?_⟩
        have hmul : (N + q + 1) * d.size ≤ (N + n) * d.size := Nat.mul_le_mul_right _ (by omega)
        rw [Nat.add_mul, Nat.one_mul, Nat.add_mul] at hmul
        rw [Nat.zero_add, Nat.add_mul, hget _ (by omega), List.getElem?_append, if_neg (by omega)]
        congr 1; omega
      ·have hmul : (q + 1) * d.size ≤ N * d.size := Nat.mul_le_mul_right _ hq
       rw [Nat.add_mul, Nat.one_mul] at hmul
       have hmul2 : N * d.size ≤ (N + n) * d.size := Nat.mul_le_mul_right _ (by omega)
       obtain ⟨u, hu', hr⟩ := h10 q hq j hj
       refine ⟨u, by rw [Nat.zero_add, hget _ (by omega), List.getElem?_append, if_pos (by omega)]; exact hu', ?_⟩
       have hKd : Keeps [] L I w (obj s.o) L I w.drew (obj s.o) := ⟨fun b hb => ⟨hb, rfl⟩, fun k _ hg => ⟨rfl, AO.like_refl _ hg, fun b x C e hL hC => ⟨C, hC, rfl⟩⟩⟩
       have := RelX.map (Turn.kill []) hKd.moves (fun k hk hg => ⟨rfl, AO.like_refl _ hg, fun b x C e hL hC => ⟨C, hC, rfl⟩⟩) hr
       rwa [AC.kill_nil] at this
      ·have hmul : (N + q + 1) * d.size ≤ (N + n) * d.size := Nat.mul_le_mul_right _ (by omega)
       rw [Nat.add_mul, Nat.one_mul, Nat.add_mul] at hmul
       obtain ⟨u, hu', hr⟩ := hnews q hq j hj
       refine ⟨u, ?_, ?_⟩
       ·rw [Nat.zero_add, Nat.add_mul, hget _ (by omega), List.getElem?_append, if_neg (by omega), ← hu']
        congr 1; omega
       ·have hKd : Keeps [] L I w (obj s.o) L I w.drew (obj s.o) := ⟨fun b hb => ⟨hb, rfl⟩, fun k _ hg => ⟨rfl, AO.like_refl _ hg, fun b x C e hL hC => ⟨C, hC, rfl⟩⟩⟩
        have := hKd.moves _ _ hr
        rwa [AC.kill_nil] at this
     have nothing : ∀ (ad : Option Addr) (ks : List Nat) (k k' : Nat) (rsx : List Nat) (get : Nat → Nat → AC), k' ∈ ks → k ∈ ks → k' % 2 = 0 → (∀ q ∈ rsx, q ∉ ks) → sz = d.size → 0 < d.size → xv = .slice ad 0 0 → n = 0 →
       AppDone P w0 I0 I L s o a w yv ks k' rsx 0 n d.size get get' := by
      intro ad ks k k' rsx get g1 g2 g3 g5 h1 hpos h7 h8
      subst h8
      obtain ⟨⟨tx, news, htx, hsrc', hnews⟩, hnr⟩ := src_rel hR.heap hT hy hst hsrc h1 hpos
      have hnil : news = [] := by have := hsrc'.newsLen; simpa using this
      subst hnil
      have hsrc2 : Src P i.size tx yv 0 [] w := by rw [hi1]; exact hsrc'
      have hrun : (Builtin.append_ #[t, tx] o.type #[.slice ad 0 0, yv]).run P w = .ok (.slice ad 0 0) w := by
       rcases hsrc2.kind with ⟨e', hk⟩ | hk <;> cases ad <;> simp [Builtin.append_, run_underlying hu, run_underlying hk, sizeOf, typeInfo, hi, hsrc2.len, hsrc2.cells, storeCells]
      have hst2 := hR.app ks k k' g1 g2 g3 (m := .rw) (rs := []) (rsx := rsx) (N := 0) (n := 0) (sz := d.size) (get := get) (get' := get') (.inl rfl) g5 (fun i hi => absurd hi (by omega)) (fun i hi => absurd hi (by omega)) w none (fun b hb => rfl) (fun id b y _ _ _ => rfl) (Nat.le_refl _) hR.below (.inl ⟨rfl, rfl⟩)
      exact ⟨_, _, _, hrunv _ _ (by rw [hats tx htx, h7]; exact hrun), hst2, g1, fun L'' o'' gd hL'' ho'' => ⟨.rw, rsx, 0, d.size, gd, ho'', .inl ⟨by rw [hL'']; exact layL_r, rfl, rfl, rfl, ⟨_, rfl⟩, fun c hc => by cases hc⟩⟩, fun q hq => layL_other (show q ≠ k' from fun h => hq (h ▸ g1)), fun q b base hq hg hL => rfl, fun h => absurd h (by omega)⟩
     split at hok
     ·rename_i k off n0
      split at hok
      ·rename_i m rs N sz0 get hk
       split at hok
       ·rename_i hmw hsz0 hc1 hc2
        obtain ⟨rfl, h1, h2, h3, h4, h5⟩ : n0 = N ∧ sz = d.size ∧ 0 < d.size ∧ 0 < d.bytes ∧ (zeroC d).length = d.size ∧ (N + n) * d.bytes ≤ 35184372088832 := hok
        have hsz0' : sz0 = d.size := by simpa using hsz0
        subst hsz0'
        obtain ⟨m', rs2, N', sz', get'', hk', hh⟩ := hx
        have hk2 : s.o k = .arr m' rs2 N' sz' get'' := hk'
        rw [hk] at hk2; injection hk2 with e1 e0 e2 e3 e4; subst e1; subst e0; subst e2; subst e3; subst e4
        subst h1
        have h1 : d.size = d.size := rfl
        refine ⟨yv, eId k o.dst, rs ++ rs', n, _, get, get', d.size, rs', hy, rfl, rfl, hsrc, h2, ?_⟩
        show AppDone P w0 I0 I L s o a w yv [k, eId k o.dst] (eId k o.dst) (rs ++ rs') n0 n d.size get get'
        have hdis : ∀ q ∈ rs ++ rs', q ∉ [k, eId k o.dst] := by
         intro q hq hqk
         simp only [List.mem_cons, List.not_mem_nil, or_false] at hqk
         simp only [Bool.not_eq_true', List.contains_eq_mem, decide_eq_false_iff_not] at hc1 hc2
         rcases hqk with rfl | rfl
         ·exact hc1 hq
         ·exact hc2 hq
        obtain ⟨hO, hrs⟩ := hR.heap.arr hk'
        have hr1 : ∀ i, i < n0 → ∀ j, j < d.size → ∀ q ∈ (get i j).ref, q ∈ rs ++ rs' := fun i hi j hj q hq => List.mem_append_left _ (hrs i hi j hj q hq)
        rcases hh with ⟨hL, rfl, _, _, ⟨ad0, hxe⟩, _⟩ | ⟨b, base, cap, hL, hxe, h6, h7, _, C, e', hC, h8⟩ | ⟨hq1, hq2, _⟩
        rotate_right
        ·omega
        ·by_cases hn : n = 0
         ·exact nothing ad0 _ k _ (rs ++ rs') get (by simp) (by simp) (eId2 _ _) hdis h1 h2 hxe hn
         ·exact grow _ k _ 0 m rs (rs ++ rs') get ad0 0 [] () (by simp) (by simp) (eId2 _ _) (.inl rfl) hdis hr1 (fun q hq => List.mem_append_right _ hq) h1 h2 h3 h4 h5 (by omega) hxe (by simp) (by cases ad0 with | none => exact run_firstCells_none w.drew i.size 0 0 0 | some ax => exact run_firstCells_some w.drew i.size 0 ax 0 0 [] (by simp) (fun j v hj => by simp at hj)) (fun v hv => by cases hv) (fun q hq => absurd hq (by omega))
        ·rcases hO with ⟨h9, _⟩ | ⟨b', base', C', e'', h9, hnI, hC', ⟨hfit, hone⟩, hcell⟩
         ·rw [hL] at h9; cases h9
         ·rw [hL] at h9; injection h9 with h9; injection h9 with h9 h9'; subst h9; subst h9'
          rw [hC] at hC'; injection hC' with hC'; obtain ⟨g1, g2⟩ := cells_inj hC'; subst g1; subst g2
          rw [Nat.zero_mul, Nat.add_zero] at hxe
          rw [Nat.zero_add] at h8 h7
          by_cases hroom : n0 + n ≤ cap
          ·obtain ⟨⟨tx, news, htx, hsrc', hnews⟩, hnr⟩ := src_rel hR.heap hT hy hst hsrc h1 h2
           have hsrc2 : Src P i.size tx yv n news w := by rw [hi1]; exact hsrc'
           have hcapm : (n0 + n) * d.size ≤ cap * d.size := Nat.mul_le_mul_right _ hroom
           rw [Nat.add_mul] at hcapm
           have hnl := hsrc'.newsLen
           have hfit2 : base + n0 * d.size + news.length ≤ C.size := by rw [hnl]; omega
           have hstc := run_storeCells_frz P b (base + n0 * d.size) e' news 0 C w hC (by simpa using hfit2) hsrc'.one
           simp only [Nat.add_zero] at hstc
           have hgs := row_size C news _ hfit2
           have hgg := row_get C news _ hfit2
           revert hstc hgs hgg
           generalize (C.toList.take (base + n0 * d.size) ++ news ++ C.toList.drop (base + n0 * d.size + news.length)).toArray = C2
           intro hstc hgs hgg
           have hrun : (Builtin.append_ #[t, tx] o.type #[.slice (some ⟨b, base, none⟩) n0 cap, yv]).run P w = .ok (.slice (some ⟨b, base, none⟩) (n0 + n) cap) (w.setRow b C2) := by
            rcases hsrc2.kind with ⟨e3, hk3⟩ | hk3 <;> simp [Builtin.append_, run_underlying hu, run_underlying hk3, sizeOf, typeInfo, hi, hi1, hsrc2.len, hroom, addr_add, hstc] <;>
             (have hcs := hsrc'.cells; simp [hcs, hstc])
           have hnIb := hnI hmw
           have hkg : obj s.o (.r k) ≠ .gone := by rw [hk']; simp
           have hst2 := hR.app [k, eId k o.dst] k (eId k o.dst) (by simp) (by simp) (eId2 _ _) (m := m) (rs := rs) (rsx := rs ++ rs') (N := n0) (n := n) (sz := d.size) (get := get) (get' := get') (.inr hk) hdis hr1 (fun i hi j hj => ⟨fun q hq => List.mem_append_right _ ((hnr i hi j (by omega)).1 q hq), (hnr i hi j (by omega)).2⟩)
            (w.setRow b C2) (some (b, base)) (fun b' hb => setRow_other w b b' C2 (by rintro rfl; exact hnIb hb)) (fun id b' y hid hg hLi => setRow_other w b b' C2 (by rintro rfl; exact hid (hR.heap.inj id (.r k) b' y base hg hkg hLi hL))) (by simp)
            (hR.below.one b (hR.new (.r k) b base hkg hL) rfl rfl rfl (by simp) fun k' hk' => setRow_other w b k' C2 hk')
            (.inr ⟨b, base, C2, e', rfl, hnIb, setRow_frz w b C C2 e' hC hgs, ⟨by rw [hgs, Nat.add_mul]; omega, fun q u hq => ?_⟩, fun q hq jj hjj => ?_, fun q hq jj hjj => ?_, .inr ⟨hkg, base, hL⟩⟩)
           ·refine ⟨_, _, _, hrunv _ _ (by rw [hats tx htx, hxe]; exact hrun), hst2, by simp, fun L'' o'' gd hL'' ho'' => ⟨.rw, rs ++ rs', n0 + n, d.size, gd, ho'', .inr (.inl ⟨b, base, cap, by rw [hL'']; exact layL_r, by simp, by omega, by omega, (fun c hc => by cases hc), C2, e', setRow_frz w b C C2 e' hC hgs, ?_⟩)⟩, fun q hq => layL_other (show q ≠ eId k o.dst from fun h => hq (by rw [h]; simp)), fun q b' base' hq hg hL' => setRow_other w b b' C2 (by rintro rfl; have hid := hR.heap.inj (.r q) (.r k) b' base' base hg hkg hL' hL; injection hid with hid; exact hq (by rw [hid]; simp)), fun _ => ⟨tx, news, hsrc', b, base, C2, e', layL_r, setRow_frz w b C C2 e' hC hgs, fun q hq jj hjj => ?_⟩⟩
            ·rw [Nat.zero_add, hgs]; exact h8
            ·have hmul : (q + 1) * d.size ≤ n * d.size := Nat.mul_le_mul_right _ hq
             rw [Nat.add_mul, Nat.one_mul] at hmul
             rw [hgg, Nat.add_mul, if_pos (by rw [hnl]; omega)]
             congr 1; omega
           ·rw [hgg] at hq
            split at hq
            ·exact hsrc'.one u (List.mem_of_getElem? hq)
            ·exact hone q u hq
           ·have hmul : (q + 1) * d.size ≤ n0 * d.size := Nat.mul_le_mul_right _ hq
            rw [Nat.add_mul, Nat.one_mul] at hmul
            rw [hgg, if_neg (by omega)]
            exact hcell q hq jj hjj
           ·have hmul : (q + 1) * d.size ≤ n * d.size := Nat.mul_le_mul_right _ hq
            rw [Nat.add_mul, Nat.one_mul] at hmul
            rw [hgg, Nat.add_mul, if_pos (by rw [hnl]; omega)]
            obtain ⟨u, hu', hr⟩ := hnews q hq jj (by omega)
            refine ⟨u, ?_, hr⟩
            rw [← hu']
            congr 1; omega
          ·have hcapm : n0 * d.size ≤ cap * d.size := Nat.mul_le_mul_right _ h7
           have hol : ((C.toList.drop base).take (n0 * d.size)).length = n0 * d.size := by simp; omega
           have hget0 : ∀ q, q < n0 * d.size → ((C.toList.drop base).take (n0 * d.size))[q]? = C[base + q]? := by
            intro q hq
            rw [List.getElem?_take, if_pos hq, List.getElem?_drop, Array.getElem?_toList]
           refine grow _ k _ n0 m rs (rs ++ rs') get (some ⟨b, base, none⟩) cap ((C.toList.drop base).take (n0 * d.size)) () (by simp) (by simp) (eId2 _ _) (.inr hk) hdis hr1 (fun q hq => List.mem_append_right _ hq) h1 h2 h3 h4 h5 (by omega) hxe hol ?_ (fun v hv => ?_) (fun q hq j hj => ?_)
           ·refine run_firstCells_some w.drew i.size n0 ⟨b, base, none⟩ n0 cap _ (by rw [hol, hi1]) (fun j v hj => ?_)
            have hlt : j < n0 * d.size := by have := (List.getElem?_eq_some_iff.1 hj).1; rwa [hol] at this
            rw [hget0 j hlt] at hj
            rw [addr_add]
            have : w.drew.cell? ⟨b, base + j, none⟩ = w.cell? ⟨b, base + j, none⟩ := rfl
            rw [this, cell_of hC]
            exact hj
           ·obtain ⟨q, hq⟩ := List.getElem?_of_mem hv
            have hlt : q < n0 * d.size := by have := (List.getElem?_eq_some_iff.1 hq).1; rwa [hol] at this
            rw [hget0 q hlt] at hq
            exact hone _ v hq
           ·have hmul : (q + 1) * d.size ≤ n0 * d.size := Nat.mul_le_mul_right _ hq
            rw [Nat.add_mul, Nat.one_mul] at hmul
            obtain ⟨u, hu', hr⟩ := hcell q hq j hj
            exact ⟨u, by rw [hget0 _ (by omega)]; exact hu', hr⟩
       ·exact hok.elim
      ·exact hok.elim
     ·rename_i n0 c0
      split at hok
      ·rename_i hc1
       obtain ⟨h1, h2, h3, h4, h5⟩ : sz = d.size ∧ 0 < d.size ∧ 0 < d.bytes ∧ (zeroC d).length = d.size ∧ (0 + n) * d.bytes ≤ 35184372088832 := hok
       have hxe : xv = .slice none 0 0 := hx.1
       have hdis : ∀ q ∈ rs', q ∉ [site o.dst] := by
        intro q hq hqk
        simp only [List.mem_cons, List.not_mem_nil, or_false] at hqk
        subst hqk
        simp only [Bool.not_eq_true', List.contains_eq_mem, decide_eq_false_iff_not] at hc1
        exact hc1 hq
       subst h1
       have h1 : d.size = d.size := rfl
       refine ⟨yv, site o.dst, rs', n, _, fun _ _ => .junk, get', d.size, rs', hy, rfl, rfl, hsrc, h2, ?_⟩
       show AppDone P w0 I0 I L s o a w yv [site o.dst] (site o.dst) rs' 0 n d.size (fun _ _ => .junk) get'
       by_cases hn : n = 0
       ·exact nothing none _ (site o.dst) _ rs' _ (by simp) (by simp) (site2 _) hdis h1 h2 hxe hn
       ·exact grow _ (site o.dst) _ 0 .rw [] rs' _ none 0 [] () (by simp) (by simp) (site2 _) (.inl rfl) hdis (fun i hi => absurd hi (by omega)) (fun q hq => hq) h1 h2 h3 h4 h5 (by omega) hxe (by simp) (run_firstCells_none w.drew i.size 0 0 0) (fun v hv => by cases hv) (fun q hq => absurd hq (by omega))
      ·exact hok.elim
     ·exact hok.elim
end
section
variable {P : Program} {T : TT} {w0 w : World} {I0 : Fr} {I : Nat → Prop} {L : Lay} {s : St} {a : Act} {o : Oper} {ob : Obs}
def mvId (k' k2 N off : Nat) : Id → Id
 | .r q => .r q
 | .s q i j => if q = k' ∧ N ≤ i then .s k2 (off + (i - N)) j else .s q i j
theorem mvId_hi {k' k2 N off i j : Nat} (h : N ≤ i) : mvId k' k2 N off (.s k' i j) = .s k2 (off + (i - N)) j := if_pos ⟨rfl, h⟩
theorem mvId_lo {k' k2 N off q i j : Nat} (h : ¬ (q = k' ∧ N ≤ i)) : mvId k' k2 N off (.s q i j) = .s q i j := if_neg h
theorem RelL.move (hR : RelL w0 I0 L I s a w) {k' k2 N n N2 sz off : Nat} {rs : List Nat} {g' g2 gd gs : Nat → Nat → AC} (hne : k' ≠ k2)
  (h1 : s.o k' = .arr .rw rs (N + n) sz g') (h2 : s.o k2 = .arr .rw [] N2 sz g2) (hoff : off + n ≤ N2)
  (hlow : ∀ i, i < N → ∀ j, j < sz → gd i j = g' i j) (hhigh : ∀ i, i < n → ∀ j, j < sz → gd (N + i) j = g2 (off + i) j ∧ g' (N + i) j = (g2 (off + i) j).cp)
  (hsrc : ∀ i, i < N2 → ∀ j, j < sz → gs i j = if off ≤ i ∧ i < off + n then (g2 i j).cp else g2 i j)
  (hcells : 0 < n → ∃ b' base' C' e' b2 base2 C2 e2, L (.r k') = some (b', base') ∧ w.heap[b']? = some (.cells C' (eT e') (frz e' C')) ∧ L (.r k2) = some (b2, base2) ∧ w.heap[b2]? = some (.cells C2 (eT e2) (frz e2 C2)) ∧
   ∀ i, i < n → ∀ j, j < sz → C'[base' + ((N + i) * sz + j)]? = C2[base2 + ((off + i) * sz + j)]?) :
  RelL w0 I0 (fun id => L (mvId k' k2 N off id)) I ⟨s.t, updO (updO s.o k' (.arr .rw rs (N + n) sz gd)) k2 (.arr .rw [] N2 sz gs)⟩ a w := by
 obtain ⟨o', ho'⟩ : ∃ o', o' = updO (updO s.o k' (.arr .rw rs (N + n) sz gd)) k2 (.arr .rw [] N2 sz gs) := ⟨_, rfl⟩
 rw [← ho']
 have hk' : o' k' = .arr .rw rs (N + n) sz gd := by rw [ho']; simp [updO, hne]
 have hk2 : o' k2 = .arr .rw [] N2 sz gs := by rw [ho']; simp [updO]
 have hot : ∀ q, q ≠ k' → q ≠ k2 → o' q = s.o q := fun q e1 e2 => by rw [ho']; simp [updO, e1, e2]
 obtain ⟨hO', hrs'⟩ := hR.heap.arr (id := .r k') (show obj s.o (.r k') = _ from h1)
 obtain ⟨hO2, hrs2⟩ := hR.heap.arr (id := .r k2) (show obj s.o (.r k2) = _ from h2)
 have href2 : ∀ i, i < N2 → ∀ j, j < sz → (g2 i j).ref = [] := fun i hi j hj => by
  rcases h : (g2 i j).ref with _ | ⟨x, r⟩
  ·rfl
  ·exact absurd (hrs2 i hi j hj x (by rw [h]; simp)) (by simp)
 obtain ⟨L', hL'⟩ : ∃ L' : Lay, L' = fun id => L (mvId k' k2 N off id) := ⟨_, rfl⟩
 rw [← hL']
 have hLr : ∀ q, L' (.r q) = L (.r q) := fun q => by rw [hL']; rfl
 have hLlow : ∀ q i j, ¬ (q = k' ∧ N ≤ i) → L' (.s q i j) = L (.s q i j) := fun q i j h => by rw [hL']; exact congrArg L (mvId_lo h)
 have hLhi : ∀ i j, N ≤ i → L' (.s k' i j) = L (.s k2 (off + (i - N)) j) := fun i j h => by rw [hL']; exact congrArg L (mvId_hi h)
 -- the live ones
 have hcpg : ∀ x : AC, subO' x.cp = .gone := fun x => by cases x <;> rfl
 have hlo : ∀ i j, i < N → obj o' (.s k' i j) = obj s.o (.s k' i j) := by
  intro i j hi
  simp only [obj, hk', h1]
  by_cases hj : j < sz
  ·rw [if_pos ⟨by omega, hj⟩, if_pos ⟨by omega, hj⟩, hlow i hi j hj]
  ·rw [if_neg (fun h => hj h.2), if_neg (fun h => hj h.2)]
 have hhi : ∀ i j, N ≤ i → obj o' (.s k' i j) ≠ .gone → i < N + n ∧ j < sz ∧ obj o' (.s k' i j) = obj s.o (.s k2 (off + (i - N)) j) := by
  intro i j hi hg
  simp only [obj, hk', h2] at hg ⊢
  split at hg
  ·rename_i hlt
   have e := (hhigh (i - N) (by omega) j hlt.2).1
   rw [show N + (i - N) = i by omega] at e
   rw [if_pos hlt, if_pos ⟨by omega, hlt.2⟩, e]
   exact ⟨hlt.1, hlt.2, rfl⟩
  ·exact (hg rfl).elim
 have hs2 : ∀ i j, obj o' (.s k2 i j) ≠ .gone → ¬ (off ≤ i ∧ i < off + n) ∧ obj o' (.s k2 i j) = obj s.o (.s k2 i j) := by
  intro i j hg
  simp only [obj, hk2, h2] at hg ⊢
  split at hg
  ·rename_i hlt
   rw [hsrc i hlt.1 j hlt.2] at hg
   split at hg
   ·rw [hcpg] at hg; exact (hg rfl).elim
   ·rename_i hn
    rw [if_pos hlt, if_pos hlt, hsrc i hlt.1 j hlt.2, if_neg hn]
    exact ⟨hn, rfl⟩
  ·exact (hg rfl).elim
 have hso : ∀ q i j, q ≠ k' → q ≠ k2 → obj o' (.s q i j) = obj s.o (.s q i j) := fun q i j e1 e2 => by simp only [obj, hot q e1 e2]
 have hback : ∀ id, obj o' id ≠ .gone → L' id = L (mvId k' k2 N off id) ∧ obj s.o (mvId k' k2 N off id) ≠ .gone ∧ ∀ q i j, id = .s q i j → obj o' id = obj s.o (mvId k' k2 N off id) := by
  intro id hg
  refine ⟨by rw [hL'], ?_⟩
  cases id with
  | r q =>
   refine ⟨?_, fun _ _ _ h => by cases h⟩
   by_cases e1 : q = k'
   ·subst e1; show s.o q ≠ .gone; rw [h1]; simp
   ·by_cases e2 : q = k2
    ·subst e2; show s.o q ≠ .gone; rw [h2]; simp
    ·have : o' q ≠ .gone := hg
     rw [hot q e1 e2] at this; exact this
  | s q i j =>
   by_cases e1 : q = k'
   ·subst e1
    by_cases hi : N ≤ i
    ·obtain ⟨_, _, e⟩ := hhi i j hi hg
     rw [mvId_hi hi]
     exact ⟨by rw [← e]; exact hg, fun _ _ _ _ => e⟩
    ·have e := hlo i j (by omega)
     rw [mvId_lo (fun h => hi h.2)]
     exact ⟨by rw [← e]; exact hg, fun _ _ _ _ => e⟩
   ·rw [mvId_lo (fun h => e1 h.1)]
    by_cases e2 : q = k2
    ·subst e2
     have e := (hs2 i j hg).2
     exact ⟨by rw [← e]; exact hg, fun _ _ _ _ => e⟩
    ·have e := hso q i j e1 e2
     exact ⟨by rw [← e]; exact hg, fun _ _ _ _ => e⟩
 have hβ : ∀ id id', obj o' id ≠ .gone → obj o' id' ≠ .gone → mvId k' k2 N off id = mvId k' k2 N off id' → id = id' := by
  have key : ∀ i j q i' j', N ≤ i → obj o' (.s k' i j) ≠ .gone → obj o' (.s q i' j') ≠ .gone → ¬ (q = k' ∧ N ≤ i') → (Id.s k2 (off + (i - N)) j) = .s q i' j' → False := by
   intro i j q i' j' hi hg hg' hn h
   injection h with e1 e2 e3
   subst e1; subst e2; subst e3
   obtain ⟨g1, _, _⟩ := hhi i j hi hg
   exact (hs2 _ _ hg').1 ⟨by omega, by omega⟩
  intro id id' hg hg' h
  cases id with
  | r q =>
   cases id' with
   | r q' => exact h
   | s q' i' j' => simp only [mvId] at h; split at h <;> cases h
  | s q i j =>
   cases id' with
   | r q' => simp only [mvId] at h; split at h <;> cases h
   | s q' i' j' =>
    simp only [mvId] at h
    by_cases e1 : q = k' ∧ N ≤ i
    ·rw [if_pos e1] at h
     obtain ⟨e0, hi⟩ := e1
     rw [e0] at hg ⊢
     by_cases e2 : q' = k' ∧ N ≤ i'
     ·rw [if_pos e2] at h
      injection h with _ h3 h4
      obtain ⟨e3, hi'⟩ := e2
      rw [e3, h4, show i = i' by omega]
     ·rw [if_neg e2] at h
      exact (key i j q' i' j' hi hg hg' e2 h).elim
    ·rw [if_neg e1] at h
     by_cases e2 : q' = k' ∧ N ≤ i'
     ·rw [if_pos e2] at h
      obtain ⟨e3, hi'⟩ := e2
      rw [e3] at hg' ⊢
      exact (key i' j' q i j hi' hg' hg e1 h.symm).elim
     ·rw [if_neg e2] at h; exact h
 have hK : Keeps [] L I w (obj s.o) L' I w (obj o') := by
  refine ⟨fun b hb => ⟨hb, rfl⟩, fun q _ hg => ⟨hLr q, ?_, fun b x C e hL hC => ⟨C, hC, rfl⟩⟩⟩
  show (s.o q).like (o' q)
  by_cases e1 : q = k'
  ·rw [e1, h1, hk']; exact ⟨rfl, rfl, fun c h => h⟩
  ·by_cases e2 : q = k2
   ·rw [e2, h2, hk2]; exact ⟨rfl, rfl, fun c h => h⟩
   ·rw [hot q e1 e2]; exact AO.like_refl _ hg
 have M := hK.moves
 have hM : ∀ x y, RelC L I w (obj s.o) x y → RelC L' I w (obj o') x y := fun x y h => by have := M x y h; rwa [AC.kill_nil] at this
 have hKs : ∀ q i j, obj o' (.s q i j) ≠ .gone → ∀ p i0 j0, mvId k' k2 N off (.s q i j) = .s p i0 j0 → Kept L w (obj s.o) (.s p i0 j0) L' w (obj o') (.s q i j) := by
  intro q i j hg p i0 j0 he
  obtain ⟨f1, f2, f3⟩ := hback _ hg
  rw [he] at f1 f2 f3
  exact ⟨f1, by rw [f3 q i j rfl]; exact AO.like_refl _ f2, fun b x C e hL hC => ⟨C, hC, rfl⟩⟩
 -- a cell of an array, carried over
 have hX : ∀ q i j q0 i0 j0 x y, (∀ m rs nn zz gg, o' q = .arr m rs nn zz gg → i < nn ∧ j < zz → gg i j = x) → (∃ m rs nn zz gg, o' q = .arr m rs nn zz gg ∧ i < nn ∧ j < zz) → mvId k' k2 N off (.s q i j) = .s q0 i0 j0 → RelX L I w (obj s.o) (.r q0) i0 j0 x y → RelX L' I w (obj o') (.r q) i j x y := by
  intro q i j q0 i0 j0 x y hgx hex he hr
  cases hx : isOw x with
  | false => exact RelX.of (hM _ _ hr.toC) hx
  | true =>
   cases hgx2 : x with
   | ow n' sz' g =>
    rw [hgx2] at hr
    obtain ⟨m, rs, nn, zz, gg, e1, e2, e3⟩ := hex
    have e4 := hgx m rs nn zz gg e1 ⟨e2, e3⟩
    have hlive : obj o' (.s q i j) ≠ .gone := by
     simp only [obj, e1, if_pos (And.intro e2 e3), e4, hgx2, subO']; simp
    exact Hdr.step (hKs q i j hlive q0 i0 j0 he) hr
   | _ => rw [hgx2] at hx; cases hx
 have hsubok : ∀ q i j, ObjOk L' I w (obj o') (.s q i j) := by
  intro q i j
  by_cases hg : obj o' (.s q i j) = .gone
  ·unfold ObjOk; rw [hg]; trivial
  ·obtain ⟨f1, f2, f3⟩ := hback _ hg
   obtain ⟨p, i0, j0, he⟩ : ∃ p i0 j0, mvId k' k2 N off (.s q i j) = .s p i0 j0 := by
    simp only [mvId]; split <;> exact ⟨_, _, _, rfl⟩
   rw [he] at f1 f2 f3
   obtain ⟨m', rs', n', sz', get2, a', b', g, _, _, _, _, g3⟩ := obj_s f2
   have h0 := hR.heap.arr g3
   unfold ObjOk
   rw [f3 q i j rfl, g3]
   refine ⟨?_, h0.2⟩
   rw [f1]
   rcases h0.1 with h7 | ⟨b, base, C, e, h7, h8, h9, h10, h11⟩
   ·exact .inl h7
   ·refine .inr ⟨b, base, C, e, h7, h8, h9, h10, fun i' hi' j' hj' => ?_⟩
    obtain ⟨u, hu, hr⟩ := h11 i' hi' j' hj'
    exact ⟨u, hu, RelX.of (hM _ _ hr.toC) (isOw_cp _)⟩
 have hcpfix : ∀ x : AC, isOw x = false → x.cp = x := fun x h => by cases x <;> first | rfl | cases h
 have := hR.step (Turn.kill []) M (fun q => q = k' ∨ q = k2) (o' := o') (fun q hq => .inr ⟨by rw [hot q (fun h => hq (.inl h)) (fun h => hq (.inr h))]; exact (AO.kill_nil _).symm, fun id hr hg => ⟨?_, fun b x _ => ⟨rfl, fun h => h⟩⟩⟩)
  (fun q hq id hr => ?_) (inj_back (mvId k' k2 N off) hR.heap.inj (fun id hg => ⟨(hback id hg).1, (hback id hg).2.1⟩) hβ) hR.heap.imm hR.heap.glo (fun b hb => hb) hR.only hR.below
  (fun id b x hg hL => hR.new (mvId k' k2 N off id) b x (hback id hg).2.1 (by rw [← (hback id hg).1]; exact hL))
  (fun q hq hg => by
   have hg0 : obj o' (.r q) ≠ .gone := hg
   rw [hLr q]
   exact hR.kept q hq (hback _ hg0).2.1)
 ·have e0 : AV.map (AC.kill []) = id := AV.kill_nil'
  rw [e0, List.map_id] at this
  exact this
 ·cases id with
  | r p => exact hLr p
  | s p i j =>
   have : p = q := hr
   subst this
   exact hLlow p i j (fun h => hq (.inl h.1))
 ·cases id with
  | s p i j => exact hsubok p i j
  | r p =>
   have hp : p = q := hr
   subst hp
   unfold ObjOk
   rcases hq with rfl | rfl
   ·rw [show obj o' (.r p) = _ from hk']
    refine ⟨?_, fun i hi j hj z hz => ?_⟩
    ·rw [hLr]
     rcases hO' with ⟨a1, a2, a3⟩ | ⟨b, base, C, e, a1, a2, a3, a4, a5⟩
     ·exact .inl ⟨a1, a2, fun c hc => by cases hc⟩
     ·refine .inr ⟨b, base, C, e, a1, a2, a3, a4, fun i hi j hj => ?_⟩
      obtain ⟨u, hu, hr2⟩ := a5 i hi j hj
      by_cases hiN : i < N
      ·refine ⟨u, hu, hX p i j p i j (gd i j) u (fun m rs nn zz gg e _ => by rw [hk'] at e; injection e with _ _ _ _ e5; rw [← e5]) ⟨_, _, _, _, _, hk', hi, hj⟩ (mvId_lo (fun h => by omega)) ?_⟩
       rw [hlow i hiN j hj]; exact hr2
      ·obtain ⟨e1, e2⟩ := hhigh (i - N) (by omega) j hj
       rw [show N + (i - N) = i by omega] at e1 e2
       obtain ⟨b', base', C', e', b2, base2, C2, e3, c1, c2, c3, c4, c5⟩ := hcells (by omega)
       rw [a1] at c1; injection c1 with c1; injection c1 with c1 c1'; subst c1; subst c1'
       rw [a3] at c2; injection c2 with c2; injection c2 with c2 _; subst c2
       have c6 := c5 (i - N) (by omega) j hj
       rw [show N + (i - N) = i by omega] at c6
       rcases hO2 with ⟨d1, _⟩ | ⟨b3, base3, C3, e4, d1, d2, d3, d4, d5⟩
       ·rw [c3] at d1; cases d1
       ·rw [c3] at d1; injection d1 with d1; injection d1 with d1 d1'; subst d1; subst d1'
        rw [c4] at d3; injection d3 with d3; injection d3 with d3 _; subst d3
        obtain ⟨u2, hu2, hr3⟩ := d5 (off + (i - N)) (by omega) j hj
        refine ⟨u2, by rw [c6]; exact hu2, ?_⟩
        rw [e1]
        exact hX p i j k2 (off + (i - N)) j (g2 (off + (i - N)) j) u2 (fun m rs nn zz gg e _ => by rw [hk'] at e; injection e with _ _ _ _ e5; rw [← e5, e1]) ⟨_, _, _, _, _, hk', hi, hj⟩ (mvId_hi (by omega)) hr3
    ·by_cases hiN : i < N
     ·rw [hlow i hiN j hj] at hz; exact hrs' i hi j hj z hz
     ·have e1 := (hhigh (i - N) (by omega) j hj).1
      rw [show N + (i - N) = i by omega] at e1
      rw [e1, href2 _ (by omega) j hj] at hz; cases hz
   ·rw [show obj o' (.r p) = _ from hk2]
    refine ⟨?_, fun i hi j hj z hz => ?_⟩
    ·rw [hLr]
     rcases hO2 with ⟨a1, a2, a3⟩ | ⟨b, base, C, e, a1, a2, a3, a4, a5⟩
     ·exact .inl ⟨a1, a2, fun c hc => by cases hc⟩
     ·refine .inr ⟨b, base, C, e, a1, a2, a3, a4, fun i hi j hj => ?_⟩
      obtain ⟨u, hu, hr2⟩ := a5 i hi j hj
      refine ⟨u, hu, ?_⟩
      by_cases hm : off ≤ i ∧ i < off + n
      ·rw [hsrc i hi j hj, if_pos hm]
       exact RelX.of (hM _ _ hr2.toC.cp) (isOw_cp _)
      ·rw [hsrc i hi j hj, if_neg hm]
       exact hX p i j p i j (g2 i j) u (fun m rs nn zz gg e _ => by rw [hk2] at e; injection e with _ _ _ _ e5; rw [← e5, hsrc i hi j hj, if_neg hm]) ⟨_, _, _, _, _, hk2, hi, hj⟩ (mvId_lo (fun h => hne h.1.symm)) hr2
    ·rw [hsrc i hi j hj] at hz
     split at hz
     ·rw [cp_ref, href2 i hi j hj] at hz; cases hz
     ·rw [href2 i hi j hj] at hz; cases hz
end
section
variable {P : Program} {T : TT} {w0 w w' : World} {I0 : Fr} {I I' : Nat → Prop} {L L' : Lay} {s : St} {a : Act} {o : Oper} {ob o' : Obs}
theorem movOf_some {o : Nat → AO} {y : AV} {k2 off n N2 : Nat} {get2 : Nat → Nat → AC} (h : movOf o y = some (k2, off, n, N2, get2)) : y = .c (.os k2 off n) ∧ ∃ sz, o k2 = .arr .rw [] N2 sz get2 := by
 unfold movOf at h
 split at h
 ·rename_i k off' n'
  split at h
  ·rename_i N sz g hk
   split at h
   ·injection h with h; injection h with h1 h; injection h with h2 h; injection h with h3 h; injection h with h4 h5
    subst h1; subst h2; subst h3; subst h4; subst h5
    exact ⟨rfl, sz, hk⟩
   ·cases h
  ·cases h
 ·cases h
theorem op_append (hT : TOk P T) (hR : RelL w0 I0 L I s a w) {c : Call} (ho : o.op = .call c) {x y : AV} (hc : c.callee = .builtin .append) (hxy : c.args.toList.map (ev s) = [x, y]) (hok : (appA std T c.argTypes o.dst x y s.o).ok) : OpDone P w0 I0 o a w ((appA std T c.argTypes o.dst x y s.o).st o.dst s) := by
 unfold appA at hok ⊢
 cases hm : movOf s.o y with
 | none =>
  rw [hm] at hok
  obtain ⟨yv, k', rsx, n, sz, get, get', size, rs', hy, hval, hupd, hsrc, hpos, v, w', L', hrun, hrel, hk', hvr, _⟩ := op_appendD hT hR ho hc hxy hok
  refine ⟨_, v, w', hrun, .inl rfl, L', I, ?_⟩
  simp only [Res.mov, Res.st, hval, hupd]
  exact hrel.put o.dst (hvr L' _ (joinC (lenOfV x) get get') rfl (by simp [updL, updO]))
 | some q =>
  obtain ⟨k2, off, n2, N2, get2⟩ := q
  rw [hm] at hok
  obtain ⟨rfl, sz2, hk2⟩ := movOf_some hm
  have hok0 : (appO std T c.argTypes o.dst x (.c (.os k2 off n2)) s.o).ok ∧ (!(appO std T c.argTypes o.dst x (.c (.os k2 off n2)) s.o).kills.contains k2) = true := by
   unfold Res.mov at hok
   split at hok
   ·rename_i h; injection h
   ·rename_i h
    injection h with h; injection h with h1 h
    subst h1
    split at hok
    ·rename_i h1 h2; exact ⟨hok, h2⟩
    ·exact hok.elim
  obtain ⟨hok1, hcon⟩ := hok0
  obtain ⟨yv, k', rsx, n, sz, get, get', size, rs', hy, hval, hupd, hsrc, hpos, v, w', L', hrun, hrel, hk', hvr, hLo, hwo, hcl⟩ := op_appendD hT hR ho hc hxy hok1
  simp only [srcOf, hk2, Option.some.injEq, Prod.mk.injEq] at hsrc
  obtain ⟨rfl, rfl, rfl, rfl⟩ := hsrc
  have hk2n : k2 ∉ (appO std T c.argTypes o.dst x (.c (.os k2 off n2)) s.o).kills := by simpa using hcon
  have hne : k' ≠ k2 := fun h => hk2n (h ▸ hk')
  generalize hN : lenOfV x = N at *
  generalize hks : (appO std T c.argTypes o.dst x (.c (.os k2 off n2)) s.o).kills = ks at *
  have hkeep : (s.kill ks).o k2 = .arr .rw [] N2 sz2 get2 := by
   cases ks with
   | nil => exact hk2
   | cons q r =>
    show killO (q :: r) s.o k2 = _
    have : (q :: r).contains k2 = false := by simpa using hk2n
    simp only [killO, this, hk2, AO.kill, AO.map, without, List.all_nil]
    rfl
  obtain ⟨m3, rs3, N3, sz3, g3, hk3, hh⟩ := hy
  have hk3' : s.o k2 = .arr m3 rs3 N3 sz3 g3 := hk3
  rw [hk2] at hk3'; injection hk3' with e1 e0 e2 e3 e4; subst e1; subst e0; subst e2; subst e3; subst e4
  have hoff : off + n2 ≤ N2 := by
   rcases hh with ⟨_, h1, h2, h3, _⟩ | ⟨_, _, _, _, _, h1, _⟩ | ⟨_, h1, h2, _⟩
   ·omega
   ·exact h1
   ·omega
  have hmv := hrel.move (k' := k') (k2 := k2) (N := N) (n := n2) (N2 := N2) (sz := sz2) (off := off) (rs := rsx) (g' := joinC N get fun i j => (get2 (off + i) j).cp) (g2 := get2) (gd := joinC N (joinC N get fun i j => (get2 (off + i) j).cp) fun i j => get2 (off + i) j) (gs := movC off n2 get2)
   hne (by simp [updL, updO]) (by simp only [updL, updO, if_neg (fun h : k2 = k' => hne h.symm)]; exact hkeep) hoff (fun i hi j hj => by simp [joinC, hi]) (fun i hi j hj => ⟨by simp only [joinC, if_neg (show ¬ (N + i < N) by omega), Nat.add_sub_cancel_left], by simp only [joinC, if_neg (show ¬ (N + i < N) by omega), Nat.add_sub_cancel_left]⟩) (fun i hi j hj => rfl)
   (fun h0 => by
    rcases hh with ⟨_, h1, h2, h3, _⟩ | ⟨b2, base2, cap, hL, rfl, h1, h2, _, C2, e2, hC2, h5⟩ | ⟨_, h1, _⟩
    ·omega
    rotate_left
    ·omega
    ·obtain ⟨tx, news, hS, b', base', C', e', g1, g2, g3⟩ := hcl h0
     refine ⟨b', base', C', e', b2, base2, C2, e2, g1, g2, by rw [hLo k2 hk2n]; exact hL, by rw [hwo k2 b2 base2 hk2n (by rw [show obj s.o (.r k2) = _ from hk2]; simp) hL]; exact hC2, fun i hi j hj => ?_⟩
     rw [g3 i hi j hj]
     have hmul0 : (off + n2) * sz2 ≤ N2 * sz2 := Nat.mul_le_mul_right _ hoff
     have hmul1 : N2 * sz2 ≤ (off + cap) * sz2 := Nat.mul_le_mul_right _ h2
     rw [Nat.add_mul] at hmul0
     have hol : ((C2.toList.drop (base2 + off * sz2)).take (n2 * sz2)).length = n2 * sz2 := by simp; omega
     have hget0 : ∀ q, q < n2 * sz2 → ((C2.toList.drop (base2 + off * sz2)).take (n2 * sz2))[q]? = C2[base2 + off * sz2 + q]? := by
      intro q hq
      rw [List.getElem?_take, if_pos hq, List.getElem?_drop, Array.getElem?_toList]
     have hfc := run_firstCells_some (P := P) w sz2 n2 ⟨b2, base2 + off * sz2, none⟩ n2 cap ((C2.toList.drop (base2 + off * sz2)).take (n2 * sz2)) hol (fun j v hj => by
      have hlt : j < n2 * sz2 := by have := (List.getElem?_eq_some_iff.1 hj).1; rwa [hol] at this
      rw [hget0 j hlt] at hj
      rw [addr_add, cell_of hC2]
      exact hj)
     rw [hS.cells] at hfc
     injection hfc with hfc _
     have hnv : news = (C2.toList.drop (base2 + off * sz2)).take (n2 * sz2) := by simpa using congrArg Array.toList hfc
     have hmul2 : (i + 1) * sz2 ≤ n2 * sz2 := Nat.mul_le_mul_right _ hi
     rw [Nat.add_mul, Nat.one_mul] at hmul2
     rw [hnv, hget0 _ (by omega), Nat.add_mul]
     congr 1; omega)
  refine ⟨_, v, w', hrun, .inl rfl, (fun id => L' (mvId k' k2 N off id)), I, ?_⟩
  have hst : ((appO std T c.argTypes o.dst x (.c (.os k2 off n2)) s.o).mov N (some (k2, off, n2, N2, get2))).st o.dst s = AM.put ⟨(s.kill ks).t, updO (updO (updL [(k', .arr .rw rsx (N + n2) sz2 (joinC N get fun i j => (get2 (off + i) j).cp))] (s.kill ks).o) k' (.arr .rw rsx (N + n2) sz2 (joinC N (joinC N get fun i j => (get2 (off + i) j).cp) fun i j => get2 (off + i) j))) k2 (.arr .rw [] N2 sz2 (movC off n2 get2))⟩ o.dst (.c (.os k' 0 (N + n2))) := by
   have hcn : (!ks.contains k2) = true := by simpa using hk2n
   simp only [Res.mov, hupd, hks, hcn, Res.st, hval]
   congr 2
   funext q
   simp only [updL, updO]
   split
   ·rfl
   ·split <;> rfl
  rw [hst]
  exact hmv.put o.dst (hvr _ _ (joinC N (joinC N get fun i j => (get2 (off + i) j).cp) fun i j => get2 (off + i) j) rfl (by simp [updO, hne]))
end
section
variable {P : Program} {T : TT} {w0 w w' : World} {I0 : Fr} {I I' : Nat → Prop} {L L' : Lay} {s : St} {a : Act} {o : Oper} {ob o' : Obs}
def bytRes (d : Option Nat) (n : Nat) (g : Nat → Nat → AC) : Res := ⟨True, .c (.os (site d) 0 n), [site d], [(site d, .arr .rw [] n 1 g)]⟩
theorem joinC_zero (f g : Nat → Nat → AC) : joinC 0 f g = g := by
 funext i j
 unfold joinC
 rw [if_neg (by omega)]; rfl
theorem s2b_sound (hT : TOk P T) (hR : RelL w0 I0 L I s a w) {src dst e : TypeId} {x : Operand} (ho : o.op = .convert src dst x) {ds dt de : TD} (h1 : T src = some ds) (h1u : ds.und = .string) (h2 : T dst = some dt) (h2u : dt.und = .slice e) (h3 : T e = some de) (h3u : de.und = .int .u8)
  {b : ByteArray} (hx : ev s x = .c (.v (.string b))) : OpDone P w0 I0 o a w ((bytRes o.dst b.size fun i _ => .v (.int .u8 (std.sat b i))).st o.dst s) := by
 have ex := ev_rel hR.tmps x
 have hv := val_of ex hx
 have u1 : P.underlying src = some .string := by rw [(hT src ds h1).1, h1u]
 have u2 : P.underlying dst = some (.slice e) := by rw [(hT dst dt h2).1, h2u]
 have u3 : P.underlying e = some (.int .u8) := by rw [(hT e de h3).1, h3u]
 have hrun := run_bytes_of_string w src dst e b u1 u2 u3
 have hcap := grownCap_ge w b.size 0 e
 revert hrun hcap
 generalize grownCap w b.size 0 e = CAP
 intro hrun hcap
 obtain ⟨ROW, hROW⟩ : ∃ ROW, ROW = bytesRow b CAP := ⟨_, rfl⟩
 rw [← hROW] at hrun
 have hsize : ROW.size = CAP := by
  rw [hROW]; unfold bytesRow
  have : b.data.size = b.size := rfl
  simp; omega
 have hget : ∀ i, i < b.size → ROW[i]? = some (.int .u8 (std.sat b i)) := fun i hi => by
  rw [hROW, bytesRow_at b CAP i hi]
  congr 2
  show ((b.data[i].toNat : Nat) : Int) = (((b[i]?.getD 0).toNat : Nat) : Int)
  have e1 : b[i]? = some b.data[i] := by
   rw [getElem?_pos b i hi]; rfl
  rw [e1]; rfl
 have hone : ∀ (q : Nat) u, ROW[q]? = some u → u.oneCell' = true := by
  intro q u hq
  rw [hROW] at hq
  unfold bytesRow at hq
  rw [Array.getElem?_append] at hq
  split at hq
  ·rw [Array.getElem?_map, Option.map_eq_some_iff] at hq
   obtain ⟨_, _, rfl⟩ := hq; rfl
  ·have := Array.mem_of_getElem? hq
   rw [Array.mem_replicate] at this
   rw [this.2]; rfl
 have hst2 := hR.drew.app [site o.dst] (site o.dst) (site o.dst) (by simp) (by simp) (site2 _) (m := .rw) (rs := []) (rsx := []) (N := 0) (n := b.size) (sz := 1) (get := fun _ _ => .junk) (get' := fun i _ => .v (.int .u8 (std.sat b i))) (.inl rfl) (fun q hq => by cases hq) (fun i hi => absurd hi (by omega))
  (fun i hi j hj => ⟨fun q hq => (by cases hq), rfl⟩) (w.drew.alloc (.cells ROW e (ROW.size, ROW.size + 1))) (some (w.heap.size, 0))
  (fun b hb => Below.heap_alloc w.drew _ b (hR.heap.imm b hb)) (fun id b y _ hg hL => Below.heap_alloc w.drew _ b (hR.heap.lt hg hL).1) (by simp) (hR.below.drew.alloc _)
  (.inr ⟨w.heap.size, 0, ROW, (e, true), rfl, fun hI => (by have := hR.heap.imm _ hI; omega), heap_alloc_new w.drew _, ⟨by rw [hsize]; omega, hone⟩, fun q hq => absurd hq (by omega), fun q hq j hj => ⟨.int .u8 (std.sat b q), by
   have hj0 : j = 0 := by omega
   subst hj0
   rw [show 0 + ((0 + q) * 1 + 0) = q by omega]; exact hget q hq, ⟨rfl, rfl⟩⟩, .inl (Nat.le_refl _)⟩)
 rw [joinC_zero, Nat.zero_add] at hst2
 have hfin := hst2.put o.dst (x := .c (.os (site o.dst) 0 b.size)) (y := .slice (some ⟨w.heap.size, 0, none⟩) b.size CAP) (by
  refine ⟨.rw, [], b.size, 1, fun i _ => .v (.int .u8 (std.sat b i)), by simp [obj, updL, updO], .inr (.inl ⟨w.heap.size, 0, CAP, layL_r, by simp, by omega, by omega, (fun c hc => by cases hc), ROW, (e, true), heap_alloc_new w.drew _, ?_⟩)⟩
  rw [hsize]; omega)
 refine ⟨_, .slice (some ⟨w.heap.size, 0, none⟩) b.size CAP, _, ?_, .inl rfl, _, I, hfin⟩
 simp only [execOp, ho, hv]
 rw [Sem.run_bind, hrun]
 rfl
end
end Go.Proofs.YtpobpihakgegbaaGreat.AM
