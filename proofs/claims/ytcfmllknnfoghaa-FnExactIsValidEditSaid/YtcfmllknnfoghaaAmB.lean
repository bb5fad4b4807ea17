/-
  THE ABSTRACT MACHINE, SECOND PART: each operation does in the model what is said of it. No condition.
-/
import Derived.Test.YtcfmllknnfoghaaAmA
namespace Go.Proofs.Ytcfmllknnfoghaa.AM
open Go Go.RowKit
set_option linter.unusedVariables false
set_option linter.unusedSimpArgs false
set_option maxRecDepth 100000

section
variable {P : Program} {T : TT} {w0 w : World} {I0 I : Nat → Prop} {L : Nat → Option (Nat × Nat)} {s : St} {a : Act} {o : Oper} {ob : Nat → AO}

theorem run_len (hT : TOk P T) {d : Option TD} {ats : Array TypeId} (hd : d = firstT T ats) {x : AV} {y : Value} (ty : TypeId) (hx : RelV (RelC L I w ob) x y) (hok : (lenA std d x).ok) :
    ∃ z, lenA std d x = ⟨True, .c (.v z), [], none⟩ ∧ z.oneCell' = true ∧ (Builtin.len_ ats ty #[y]).run P w = .ok z w := by
  unfold lenA at hok ⊢
  split at hok
  · exact hok.elim
  · rename_i d'
    have hat : ∃ t, ats[0]? = some t ∧ (T t) = some d' := by
      unfold firstT at hd
      split at hd
      · rename_i t ht; exact ⟨t, ht, hd.symm⟩
      · cases hd
    obtain ⟨t, ht, hd'⟩ := hat
    have h1 := run_underlying (w := w) (hT t d' hd').1
    split at hok
    · rename_i e n sz get hu
      rw [hu] at h1
      obtain ⟨q, cap, rfl, _⟩ := hx
      exact ⟨_, rfl, rfl, by simp [Builtin.len_, ht, h1, std, goInt]⟩
    · rename_i e k off n hu
      rw [hu] at h1
      obtain ⟨m, N, sz, get, _, hh⟩ := hx
      rcases hh with ⟨_, _, rfl, _, rfl⟩ | ⟨b, base, cap, _, rfl, _⟩
      · exact ⟨_, rfl, rfl, by simp [Builtin.len_, ht, h1, std, goInt]⟩
      · exact ⟨_, rfl, rfl, by simp [Builtin.len_, ht, h1, std, goInt]⟩
    · rename_i b hu
      rw [hu] at h1
      obtain ⟨rfl, _⟩ := hx
      exact ⟨_, rfl, rfl, by simp [Builtin.len_, ht, h1, std, goInt]⟩
    · rename_i e n c hu
      rw [hu] at h1
      obtain ⟨rfl, _⟩ := hx
      exact ⟨_, rfl, rfl, by simp [Builtin.len_, ht, h1, std, goInt]⟩
    · exact hok.elim
theorem run_fold (f : Value → Value → Sem Value) (g : Int → Int → Int) (k : IntKind) (hf : ∀ x k' y, (f (.int k x) (.int k' y)).run P w = .ok (.int k (g x y)) w) :
    ∀ (l : List AV) (vs : List Value) (x r : Int), foldInt g k x l = some r → vs.length = l.length → (∀ (i : Nat) q, l[i]? = some q → ∃ u, vs[i]? = some u ∧ RelV (RelC L I w ob) q u) → (vs.foldlM f (.int k x)).run P w = .ok (.int k r) w
  | [], vs, x, r, h, hl, _ => by
    simp [foldInt] at h
    subst h
    have : vs = [] := by simpa using hl
    subst this
    rfl
  | q :: l, vs, x, r, h, hl, hc => by
    cases vs with
    | nil => simp at hl
    | cons v vs =>
      obtain ⟨u, hu, hr⟩ := hc 0 q rfl
      simp at hu
      subst hu
      unfold foldInt at h
      split at h
      · rename_i heq; cases heq
      · rename_i a k' b r' hq
        simp only [List.cons.injEq] at hq
        obtain ⟨hq, rfl⟩ := hq
        subst hq
        obtain ⟨rfl, _⟩ := hr
        simp only [List.foldlM_cons, Sem.run_bind, hf, Result.andThen_ok]
        exact run_fold f g k hf _ vs _ r h (by simpa using hl) (fun i q hq => hc (i + 1) q hq)
      · cases h
theorem args_rel (h : RelT (RelC L I w ob) s.t a.tmps) (l : List Operand) : ∀ (i : Nat) q, (l.map (ev s))[i]? = some q → ∃ u, (l.map a.eval)[i]? = some u ∧ RelV (RelC L I w ob) q u := by
  intro i q hq
  simp only [List.getElem?_map, Option.map_eq_some_iff] at hq ⊢
  obtain ⟨x, hx, rfl⟩ := hq
  exact ⟨_, ⟨x, hx, rfl⟩, ev_rel h x⟩
theorem builtin_run {c : Call} {b : Builtin} (ho : o.op = .call c) (hc : c.callee = .builtin b) : (execOp a.eval o).run P w = (builtin b c.argTypes o.type (c.args.map fun | .const _ => true | _ => false) (c.args.map a.eval)).run P w := by
  simp [execOp, ho, resolve, hc, invoke]
  rfl
theorem op_builtin (hT : TOk P T) (hR : RelL w0 I0 L I s a w) {c : Call} (ho : o.op = .call c) (happ : ∀ x y, c.callee = .builtin .append → c.args.toList.map (ev s) = [x, y] → (appA std T c.argTypes o.dst x y s.o).ok → OpDone P w0 I0 o a w ((appA std T c.argTypes o.dst x y s.o).st o.dst s)) (hok : (evalOp std T o s).ok) : OpDone P w0 I0 o a w ((evalOp std T o s).st o.dst s) := by
  simp only [evalOp, ho] at hok ⊢
  have hargs := args_rel hR.tmps c.args.toList
  split at hok
  · rename_i x hc hx
    have hl : ∃ y, (c.args.map a.eval) = #[y] ∧ RelV (RelC L I w s.o) x y := by
      have hlen : c.args.toList.length = 1 := by have := congrArg List.length hx; simpa using this
      have h0 := hargs 0 x (by rw [hx]; rfl)
      obtain ⟨u, hu, hr⟩ := h0
      refine ⟨u, ?_, hr⟩
      apply Array.ext'
      simp only [Array.toList_map]
      cases hq : c.args.toList with
      | nil => rw [hq] at hlen; cases hlen
      | cons p r =>
        rw [hq] at hlen hu
        have : r = [] := by simpa using hlen
        subst this
        simpa using hu
    obtain ⟨y, hy, hr⟩ := hl
    obtain ⟨z, h1, h2, h3⟩ := run_len hT rfl o.type hr hok
    rw [h1]
    refine done_give hR (y := z) ?_ ⟨rfl, h2⟩
    rw [builtin_run ho hc, hy]
    simp [builtin, h3]
  · rename_i x y hc hx
    exact happ x y hc hx hok
  · rename_i k x r hc hx
    split at hok
    · rename_i v hv
      refine done_give hR (y := .int k v) ?_ ⟨rfl, rfl⟩
      rw [builtin_run ho hc]
      have hne : ∃ y ys, (c.args.toList.map a.eval) = y :: ys ∧ y = .int k x := by
        cases hq : c.args.toList with
        | nil => rw [hq] at hx; cases hx
        | cons p q =>
          refine ⟨_, _, rfl, ?_⟩
          rw [hq] at hx
          simp only [List.map_cons, List.cons.injEq] at hx
          exact val_of (ev_rel hR.tmps p) hx.1
      obtain ⟨y, ys, hy, rfl⟩ := hne
      rw [hx, hy] at hargs
      have hlen : ys.length = r.length := by
        have e1 := congrArg List.length hx
        have e2 := congrArg List.length hy
        simp at e1 e2
        omega
      have := run_fold (P := P) (w := w) Builtin.min2 std.imin k (fun x k' y => by simp [Builtin.min2, std]) r ys x v hv hlen (fun i q hq => hargs (i + 1) q hq)
      simp [builtin, Builtin.min_, hy, this]
    · exact hok.elim
  · rename_i k x r hc hx
    split at hok
    · rename_i v hv
      refine done_give hR (y := .int k v) ?_ ⟨rfl, rfl⟩
      rw [builtin_run ho hc]
      have hne : ∃ y ys, (c.args.toList.map a.eval) = y :: ys ∧ y = .int k x := by
        cases hq : c.args.toList with
        | nil => rw [hq] at hx; cases hx
        | cons p q =>
          refine ⟨_, _, rfl, ?_⟩
          rw [hq] at hx
          simp only [List.map_cons, List.cons.injEq] at hx
          exact val_of (ev_rel hR.tmps p) hx.1
      obtain ⟨y, ys, hy, rfl⟩ := hne
      rw [hx, hy] at hargs
      have hlen : ys.length = r.length := by
        have e1 := congrArg List.length hx
        have e2 := congrArg List.length hy
        simp at e1 e2
        omega
      have := run_fold (P := P) (w := w) Builtin.max2 std.imax k (fun x k' y => by simp [Builtin.max2, std]) r ys x v hv hlen (fun i q hq => hargs (i + 1) q hq)
      simp [builtin, Builtin.max_, hy, this]
    · exact hok.elim
  · exact hok.elim
theorem op_indexAddr (hT : TOk P T) (hR : RelL w0 I0 L I s a w) {t : TypeId} {x i : Operand} (ho : o.op = .indexAddr t x i) (hok : (evalOp std T o s).ok) : OpDone P w0 I0 o a w ((evalOp std T o s).st o.dst s) := by
  have hx := ev_rel hR.tmps x
  have hi := ev_rel hR.tmps i
  simp only [evalOp, ho] at hok ⊢
  have hel : ∀ d, elemOf T t = some d → ∃ e, (Go.underlying t).run P w = .ok (.slice e) w ∧ (Go.sizeOf e).run P w = .ok d.size w := by
    intro d hd
    unfold elemOf at hd
    split at hd
    · rename_i td htd
      split at hd
      · rename_i e hu
        have h1 := run_underlying (w := w) (hT t td htd).1
        rw [hu] at h1
        exact ⟨e, h1, run_sizeOf hT hd⟩
      · cases hd
    · cases hd
  split at hok
  · rename_i n sz get ex
    unfold idxB at hok ⊢
    split at hok
    · rename_i d k q hd ei
      obtain ⟨e, h1, h2⟩ := hel d hd
      rw [ex] at hx
      obtain ⟨ad, cap, hy, hnc, hc⟩ := hx
      have hin : 0 ≤ q ∧ q < (n : Int) := hok.1
      have hsz : sz = d.size := hok.2
      subst hsz
      obtain ⟨b, off, rfl, hb, hcell⟩ := hc (by omega)
      refine done_give hR (y := .pointer (some ⟨b, off + q.toNat * d.size, none⟩)) ?_ ⟨b, _, rfl, hb, fun j hj => ?_⟩
      · simp only [execOp, ho, hy, val_of hi ei]
        simp [Instr.indexAt, asIntOf, h1, hin.1, hin.2, h2, addr_add]
      · obtain ⟨u, hu, hr⟩ := hcell q.toNat (by omega) j hj
        exact ⟨u, by rw [Nat.add_assoc]; exact hu, hr⟩
    · exact hok.elim
  · rename_i k off n ex
    rw [ex] at hx
    obtain ⟨m, N, sz, get, h3, hh⟩ := hx
    rw [h3] at hok ⊢
    unfold idxO at hok ⊢
    simp only at hok ⊢
    split at hok
    · rename_i d k' q hd ei
      obtain ⟨e, h1, h2⟩ := hel d hd
      have hin : 0 ≤ q ∧ q < (n : Int) := hok.1
      have hsz : sz = d.size := hok.2
      subst hsz
      rcases hh with ⟨_, _, h4, _⟩ | ⟨b, base, cap, h4, hy, _⟩
      · omega
      · refine done_give hR (y := .pointer (some ⟨b, base + off * d.size + q.toNat * d.size, none⟩)) ?_ ⟨m, N, d.size, get, b, base, h3, h4, ?_⟩
        · simp only [execOp, ho, hy, val_of hi ei]
          simp [Instr.indexAt, asIntOf, h1, hin.1, hin.2, h2, addr_add]
        · simp only [std, Nat.add_mul, Nat.add_zero, Nat.add_assoc]
    · exact hok.elim
  · exact hok.elim
theorem run_bounds (n cap : Nat) (lv hv : Option Value) (l h : Int) (hl : (lv = none ∧ l = 0) ∨ ∃ k, lv = some (.int k l)) (hh : (hv = none ∧ h = n) ∨ ∃ k, hv = some (.int k h))
    (h1 : 0 ≤ h ∧ h ≤ (cap : Int)) (h2 : 0 ≤ l ∧ l ≤ (h.toNat : Int)) : (Instr.sliceBounds true n cap lv hv none).run P w = .ok (l.toNat, h.toNat, cap) w := by
  rcases hl with ⟨rfl, rfl⟩ | ⟨k, rfl⟩ <;> rcases hh with ⟨rfl, rfl⟩ | ⟨k', rfl⟩
  · simp [Instr.sliceBounds]
  · simp [Instr.sliceBounds, Instr.sliceBound, asIntOf, h1.1, h1.2]
  · have hln : l ≤ (n : Int) := by have := h2.2; simpa using this
    simp [Instr.sliceBounds, Instr.sliceBound, asIntOf, h2.1, hln]
  · have hlh : l ≤ h := by have := h2.2; omega
    have e : ((h.toNat : Nat) : Int) = h := by omega
    simp [Instr.sliceBounds, Instr.sliceBound, asIntOf, h1.1, h1.2, h2.1]
    intro hlt; omega
theorem op_sliceS (hT : TOk P T) (hR : RelL w0 I0 L I s a w) {t : TypeId} {x : Operand} {lo hi mx : Option Operand} (ho : o.op = .slice t x lo hi mx) (hok : (evalOp std T o s).ok) : OpDone P w0 I0 o a w ((evalOp std T o s).st o.dst s) := by
  have hx := ev_rel hR.tmps x
  simp only [evalOp, ho] at hok ⊢
  split at hok
  · rename_i d hd
    have h1 := run_underlying (w := w) (hT t d hd).1
    have hop : ∀ (p : Option Operand) k q, p.map (ev s) = some (.c (.v (.int k q))) → p.map a.eval = some (.int k q) := by
      intro p k q hp
      cases p with
      | none => cases hp
      | some p => simp only [Option.map_some, Option.some.injEq] at hp ⊢; exact val_of (ev_rel hR.tmps p) hp
    have hno : ∀ (p : Option Operand), p.map (ev s) = none → p.map a.eval = none := by
      intro p hp; cases p with
      | none => rfl
      | some p => cases hp
    have hbl : ∀ {p : Option Operand} {q l : Int}, bnd q (p.map (ev s)) = some l → (p.map a.eval = none ∧ l = q) ∨ ∃ k, p.map a.eval = some (.int k l) := by
      intro p q l hp
      cases p with
      | none => simp [bnd] at hp; exact .inl ⟨rfl, hp.symm⟩
      | some p =>
        unfold bnd at hp
        split at hp
        · rename_i hq; cases hq
        · rename_i k l' hq; injection hp with hp; subst hp; exact .inr ⟨k, hop _ _ _ hq⟩
        · cases hp
    have hbh := @hbl
    split at hok
    · rename_i b hu ex e1 e2
      rw [hu] at h1
      refine done_give hR (y := .string (b.extract 0 b.size)) ?_ ⟨rfl, rfl⟩
      simp only [execOp, ho, val_of hx ex, hno _ e1, hno _ e2]
      simp [Instr.sliceAt, Instr.slice, h1, Instr.sliceBounds]
    · rename_i b k l hu ex e1 e2
      rw [hu] at h1
      have hin : 0 ≤ l ∧ l ≤ (b.size : Int) := hok
      refine done_give hR (y := .string (b.extract l.toNat b.size)) ?_ ⟨rfl, rfl⟩
      simp only [execOp, ho, val_of hx ex, hop _ _ _ e1, hno _ e2]
      simp [Instr.sliceAt, Instr.slice, h1, Instr.sliceBounds, Instr.sliceBound, asIntOf, hin.1, hin.2]
    · rename_i b k h hu ex e1 e2
      rw [hu] at h1
      have hin : 0 ≤ h ∧ h ≤ (b.size : Int) := hok
      refine done_give hR (y := .string (b.extract 0 h.toNat)) ?_ ⟨rfl, rfl⟩
      simp only [execOp, ho, val_of hx ex, hno _ e1, hop _ _ _ e2]
      simp [Instr.sliceAt, Instr.slice, h1, Instr.sliceBounds, Instr.sliceBound, asIntOf, hin.1, hin.2]
    · rename_i b k l k' h hu ex e1 e2
      rw [hu] at h1
      have hin : 0 ≤ h ∧ h ≤ (b.size : Int) := hok.1
      have hin2 : 0 ≤ l ∧ l ≤ (h.toNat : Int) := hok.2
      refine done_give hR (y := .string (b.extract l.toNat h.toNat)) ?_ ⟨rfl, rfl⟩
      simp only [execOp, ho, val_of hx ex, hop _ _ _ e1, hop _ _ _ e2]
      simp only [Option.map_none]
      have hh : ((h.toNat : Nat) : Int) = h := by omega
      simp [Instr.sliceAt, Instr.slice, h1, Instr.sliceBounds, Instr.sliceBound, asIntOf, hin.1, hin.2, hin2.1]
      rw [hh] at hin2
      intro hlt; omega
    · rename_i e n sz get hu ex
      rw [hu] at h1
      rw [ex] at hx
      obtain ⟨ad, cap, hy, hnc, hc⟩ := hx
      unfold subB at hok ⊢
      split at hok
      · rename_i d' l h hd' hl hh
        obtain ⟨hin, hin2, hsz⟩ : (0 ≤ h ∧ h ≤ (n : Int)) ∧ (0 ≤ l ∧ l ≤ (h.toNat : Int)) ∧ sz = d'.size := hok
        have hel : (Go.sizeOf e).run P w = .ok d'.size w := by
          unfold elemOf at hd'
          rw [hd, ] at hd'
          simp only [hu] at hd'
          exact run_sizeOf hT hd'
        have hrb := run_bounds (P := P) (w := w) n cap (lo.map a.eval) (hi.map a.eval) l h (hbl hl) (hbh hh) ⟨hin.1, by omega⟩ hin2
        have e1 : std.toN h = h.toNat := rfl
        have e2 : std.toN l = l.toNat := rfl
        refine done_give hR (y := .slice (if cap = l.toNat then ad else ad.map (·.add (l.toNat * d'.size))) (h.toNat - l.toNat) (cap - l.toNat)) ?_ ⟨_, _, rfl, ?_, fun hn => ?_⟩
        · simp only [execOp, ho, hy]
          simp only [Option.map_none]
          simp [Instr.sliceAt, Instr.slice, h1, hrb, hel]
        · show h.toNat - l.toNat ≤ _; omega
        · have hn' : 0 < h.toNat - l.toNat := hn
          obtain ⟨b, off, rfl, hb, hcell⟩ := hc (by omega)
          rw [if_neg (by omega)]
          refine ⟨b, off + l.toNat * d'.size, by simp [addr_add], hb, fun i hi j hj => ?_⟩
          have hi' : i < h.toNat - l.toNat := hi
          obtain ⟨u, hu', hr⟩ := hcell (l.toNat + i) (by omega) j hj
          refine ⟨u, ?_, hr⟩
          subst hsz
          rw [← hu', Nat.add_mul, Nat.add_assoc, Nat.add_assoc]
      · exact hok.elim
    · rename_i e k off n hu ex
      rw [hu] at h1
      rw [ex] at hx
      split at hok
      · rename_i m N sz get hk
        unfold subO at hok ⊢
        split at hok
        · rename_i d' l h hd' hl hh
          obtain ⟨hin, hin2, hlow, hsz⟩ : (0 ≤ h ∧ h ≤ (n : Int)) ∧ (0 ≤ l ∧ l ≤ (h.toNat : Int)) ∧ ((lo.map (ev s)).isNone = false → 0 ≤ l ∧ l < (n : Int)) ∧ sz = d'.size := hok
          have hel : (Go.sizeOf e).run P w = .ok d'.size w := by
            unfold elemOf at hd'
            rw [hd] at hd'
            simp only [hu] at hd'
            exact run_sizeOf hT hd'
          have hl0 : l = 0 ∨ l < (n : Int) := by
            cases lo with
            | none => simp [bnd] at hl; exact .inl hl.symm
            | some p => exact .inr (hlow rfl).2
          obtain ⟨m', N', sz', get', hk', hh'⟩ := hx
          rw [hk] at hk'; injection hk' with g1 g2 g3 g4; subst g1; subst g2; subst g3; subst g4
          rcases hh' with ⟨hL, rfl, rfl, rfl, hy⟩ | ⟨b, base, cap, hL, hy, h6, h7, C, e', hC, h8⟩
          · have hrb := run_bounds (P := P) (w := w) 0 0 (lo.map a.eval) (hi.map a.eval) l h (hbl hl) (hbh hh) hin hin2
            have hh0 : h.toNat = 0 := by omega
            have hll0 : l.toNat = 0 := by omega
            rw [hh0, hll0] at hrb
            refine done_give hR (y := .slice none 0 0) ?_ ⟨m, 0, sz, get, hk, .inl ⟨hL, rfl, ?_, ?_, rfl⟩⟩
            · simp only [execOp, ho, hy]
              simp only [Option.map_none]
              simp [Instr.sliceAt, Instr.slice, h1, hrb, hel]
            · show h.toNat - l.toNat = 0; omega
            · show 0 + l.toNat = 0; omega
          · have hrb := run_bounds (P := P) (w := w) n cap (lo.map a.eval) (hi.map a.eval) l h (hbl hl) (hbh hh) ⟨hin.1, by omega⟩ hin2
            refine done_give hR (y := .slice (some ⟨b, base + (off + l.toNat) * sz, none⟩) (h.toNat - l.toNat) (cap - l.toNat)) ?_ ⟨m, N, sz, get, hk, .inr ⟨b, base, cap - l.toNat, hL, rfl, ?_, ?_, C, e', hC, ?_⟩⟩
            · simp only [execOp, ho, hy]
              simp only [Option.map_none]
              simp [Instr.sliceAt, Instr.slice, h1, hrb, hel]
              subst hsz
              by_cases hc : cap = l.toNat
              · have : l.toNat = 0 := by omega
                rw [if_pos hc, this]; simp
              · rw [if_neg hc]; simp [addr_add, Nat.add_mul, Nat.add_assoc]
            · show off + l.toNat + (h.toNat - l.toNat) ≤ N; omega
            · show h.toNat - l.toNat ≤ cap - l.toNat; omega
            · show base + (off + l.toNat + (cap - l.toNat)) * sz ≤ C.size
              rw [show off + l.toNat + (cap - l.toNat) = off + cap by omega]; exact h8
        · exact hok.elim
      · exact hok.elim
    · exact hok.elim
  · exact hok.elim
end
section
variable {P : Program} {T : TT} {w0 w w' : World} {I0 I I' : Nat → Prop} {L L' : Nat → Option (Nat × Nat)} {s : St} {a : Act} {o : Oper} {ob o' : Nat → AO}

theorem RelI.toC {x : AC} {y : Value} (h : RelI I w x y) : RelC L I w ob x y := by
  cases x <;> first | exact h | exact h.elim
/-- a step of the world -/
theorem RelL.step (h : RelL w0 I0 L I s a w) (ks : List Nat) (hK : Keeps ks L I w s.o L' I' w' o') (u : Nat → Prop)
    (hsame : ∀ k, ¬ u k → o' k = .gone ∨ (ks.contains k = false ∧ o' k = (s.o k).kill ks ∧ (s.o k ≠ .gone → ∀ b x, L k = some (b, x) → w'.heap[b]? = w.heap[b]? ∧ (¬ I b → ¬ I' b))))
    (hu : ∀ k, u k → ObjOk L' I' w' o' k)
    (hinj : ∀ k k' b x x', o' k ≠ .gone → o' k' ≠ .gone → L' k = some (b, x) → L' k' = some (b, x') → k = k')
    (himm : ∀ b, I' b → b < w'.heap.size) (honly : ∀ b, I' b → b < w0.heap.size → I0 b) (hbel : Below w0.heap.size w0 w') (hnew : ∀ k b x, o' k ≠ .gone → L' k = some (b, x) → w0.heap.size ≤ b) :
    RelL w0 I0 L' I' ⟨s.t.map (AV.kill ks), o'⟩ a w' := by
  refine ⟨HRel.mk' (fun k => ?_) hinj himm, RelT.step hK h.tmps, h.defers, hbel, fun b hb => (hK.imm b (h.old b hb)).1, honly, hnew⟩
  by_cases huk : u k
  · exact hu k huk
  · rcases hsame k huk with hg | ⟨h1, h2, h3⟩
    · show ObjOk L' I' w' o' k
      unfold ObjOk; rw [hg]; trivial
    · exact (h.heap.ok k).step hK h1 h2 h3
theorem kill_ne_gone {x : AO} {ks : List Nat} (h : x.kill ks ≠ .gone) : x ≠ .gone := by
  rintro rfl; exact h rfl
/-- a new object k, in a new block -/
theorem RelL.fresh (h : RelL w0 I0 L I s a w) (k : Nat) (C : Array Value) (e : TypeId) (x : AO)
    (hok : ∀ (L' : Nat → Option (Nat × Nat)) (o' : Nat → AO), Keeps [k] L I w s.o L' I (w.alloc (.cells C e)) o' → L' k = some (w.heap.size, 0) → o' k = x → ¬ I w.heap.size → ObjOk L' I (w.alloc (.cells C e)) o' k) :
    RelL w0 I0 (fun j => if j = k then some (w.heap.size, 0) else L j) I (setO (s.kill [k]) k x) a (w.alloc (.cells C e)) := by
  have hK : Keeps [k] L I w s.o (fun j => if j = k then some (w.heap.size, 0) else L j) I (w.alloc (.cells C e)) (setO (s.kill [k]) k x).o := by
    refine ⟨fun b hb => ⟨hb, heap_alloc_old w _ b (h.heap.imm b hb)⟩, fun j hj hg => ?_, fun j hj hg b x' C' e' hL hb => ⟨C', ?_, rfl⟩⟩
    · have hjk : j ≠ k := by rintro rfl; simp at hj
      refine ⟨by simp [hjk], ?_⟩
      have : (setO (s.kill [k]) k x).o j = (s.o j).kill [k] := by simp [setO, updO, killO, St.kill, hjk]
      rw [this]
      exact AO.like_kill _ _ hg
    · rw [heap_alloc_old w _ b (Array.getElem?_eq_some_iff.1 hb).1]; exact hb
  have hself : (setO (s.kill [k]) k x).o k = x := by simp [setO, updO]
  have hother : ∀ j, j ≠ k → (setO (s.kill [k]) k x).o j = (s.o j).kill [k] := fun j hj => by simp [setO, updO, killO, St.kill, hj]
  have hnI : ¬ I w.heap.size := fun hI => by have := h.heap.imm _ hI; omega
  have := h.step [k] hK (fun j => j = k) (fun j hj => .inr ⟨by simp [hj], hother j hj, fun hg b x' hL => ⟨heap_alloc_old w _ b (h.heap.lt hg hL).1, id⟩⟩)
    (fun j hj => by subst hj; exact hok _ _ hK (by simp) hself hnI)
    (fun j j' b x1 x2 hj hj' h1 h2 => by
      by_cases e1 : j = k
      · by_cases e2 : j' = k
        · rw [e1, e2]
        · rw [if_pos e1] at h1; rw [if_neg e2] at h2
          injection h1 with h1; injection h1 with h1 _; subst h1
          rw [hother j' e2] at hj'
          have := (h.heap.lt (kill_ne_gone hj') h2).1
          omega
      · by_cases e2 : j' = k
        · rw [if_neg e1] at h1; rw [if_pos e2] at h2
          injection h2 with h2; injection h2 with h2 _; subst h2
          rw [hother j e1] at hj
          have := (h.heap.lt (kill_ne_gone hj) h1).1
          omega
        · rw [if_neg e1] at h1; rw [if_neg e2] at h2
          rw [hother j e1] at hj
          rw [hother j' e2] at hj'
          exact h.heap.inj j j' b x1 x2 (kill_ne_gone hj) (kill_ne_gone hj') h1 h2)
    (fun b hb => by have := h.heap.imm b hb; simp; omega) h.only (h.below.alloc h.below.size _)
    (fun j b x' hj hL => by
      split at hL
      · injection hL with hL; injection hL with h1 h2; subst h1; exact h.below.size
      · rename_i hjk
        rw [hother j hjk] at hj
        exact h.new j b x' (kill_ne_gone hj) hL)
  exact this
theorem op_box (hR : RelL w0 I0 L I s a w) {e : TypeId} {x : Operand} (ho : o.op = .box e x) (hok : (evalOp std T o s).ok) : OpDone P w0 I0 o a w ((evalOp std T o s).st o.dst s) := by
  have hx := ev_rel hR.tmps x
  simp only [evalOp, ho] at hok ⊢
  split at hok
  · rename_i cs hcs
    obtain ⟨h1, h2⟩ := cells_rel (fun x y h hx => (h.one hx).2) hx hcs
    refine ⟨_, .pointer (some ⟨w.heap.size, 0, none⟩), w.alloc (.cells (a.eval x).cells e), ?_, .inl rfl, _, I, (hR.fresh (site o.dst) (a.eval x).cells e (.var (cs.map (AC.kill [site o.dst]))) ?_).put o.dst (y := .pointer (some ⟨w.heap.size, 0, none⟩)) ?_⟩
    · simp [execOp, ho, Instr.box, newVar, newRow]
    · intro L' o' hK hL' ho' hnI
      unfold ObjOk
      rw [ho']
      refine ⟨w.heap.size, _, e, hL', hnI, heap_alloc_new w _, by simpa using h1, fun i x hx => ?_⟩
      simp only [List.getElem?_map, Option.map_eq_some_iff] at hx
      obtain ⟨x0, hx0, rfl⟩ := hx
      obtain ⟨u, hu, hr⟩ := h2 i x0 hx0
      exact ⟨u, hu, hr.step hK⟩
    · exact ⟨cs.map (AC.kill [site o.dst]), w.heap.size, by simp [setO, updO], by simp, rfl⟩
  · exact hok.elim
theorem zeroC_rel {d : TD} (hz : ∀ x ∈ d.zero.cells.toList, x.oneCell' = true) : d.zero.cells.size = (zeroC d).length ∧ ∀ (i : Nat) x, (zeroC d)[i]? = some x → ∃ u, d.zero.cells[i]? = some u ∧ RelI I w x u := by
  refine ⟨by simp [zeroC], fun i x hx => ?_⟩
  simp only [zeroC, List.getElem?_map, Option.map_eq_some_iff] at hx
  obtain ⟨u, hu, rfl⟩ := hx
  exact ⟨u, by rwa [← Array.getElem?_toList], rfl, hz u (List.mem_of_getElem? hu)⟩
theorem run_zero (hT : TOk P T) {t : TypeId} {d : TD} (hd : (T t) = some d) : (zeroValue t).run P w = .ok d.zero w := by
  obtain ⟨i, hi, _, _, h1⟩ := (hT t d hd).2.1
  simp [zeroValue, typeInfo, hi, h1]
theorem op_alloc (hT : TOk P T) (hR : RelL w0 I0 L I s a w) {e : TypeId} (ho : o.op = .alloc e) (hok : (evalOp std T o s).ok) : OpDone P w0 I0 o a w ((evalOp std T o s).st o.dst s) := by
  simp only [evalOp, ho] at hok ⊢
  split at hok
  · rename_i d hd
    have hz := run_zero (w := w) hT hd
    refine ⟨_, .pointer (some ⟨w.heap.size, 0, none⟩), w.alloc (.cells d.zero.cells e), ?_, .inl rfl, _, I, (hR.fresh (site o.dst) d.zero.cells e (.var (zeroC d)) ?_).put o.dst (y := .pointer (some ⟨w.heap.size, 0, none⟩)) ?_⟩
    · simp [execOp, ho, Instr.alloc, hz, newVar, newRow]
    · intro L' o' hK hL' ho' hnI
      obtain ⟨h1, h2⟩ := zeroC_rel (I := I) (w := w.alloc (.cells d.zero.cells e)) (hT e d hd).2.2.1
      unfold ObjOk
      rw [ho']
      refine ⟨w.heap.size, _, e, hL', hnI, heap_alloc_new w _, h1, fun i x hx => ?_⟩
      obtain ⟨u, hu, hr⟩ := h2 i x hx
      exact ⟨u, hu, hr.toC⟩
    · exact ⟨zeroC d, w.heap.size, by simp [setO, updO], by simp, rfl⟩
  · exact hok.elim
end
section
variable {P : Program} {T : TT} {w0 w w' : World} {I0 I I' : Nat → Prop} {L L' : Nat → Option (Nat × Nat)} {s : St} {a : Act} {o : Oper} {ob o' : Nat → AO}

theorem RelC.toI {x : AC} {y : Value} (h : RelC L I w ob x y) (hx : x.imm = true) : RelI I w x y := by
  cases x <;> first | exact h | (simp [AC.imm] at hx)
theorem setL_length : ∀ (cs l : List AC) (i : Nat), (setL l i cs).length = l.length
  | [], l, i => rfl
  | x :: r, l, i => by rw [setL, setL_length r]; simp
theorem setL_get : ∀ (cs l : List AC) (i : Nat), i + cs.length ≤ l.length → ∀ j : Nat, (setL l i cs)[j]? = if i ≤ j ∧ j < i + cs.length then cs[j - i]? else l[j]?
  | [], l, i, _, j => by rw [setL, if_neg (by simp only [List.length_nil]; omega)]
  | x :: r, l, i, h, j => by
    simp only [List.length_cons] at h ⊢
    rw [setL, setL_get r (l.set i x) (i + 1) (by simp; omega) j, List.getElem?_set]
    by_cases h1 : j = i
    · subst h1
      rw [if_neg (by omega), if_pos rfl, if_pos (by omega), if_pos (by omega), Nat.sub_self]
      rfl
    · by_cases h2 : i + 1 ≤ j ∧ j < i + 1 + r.length
      · rw [if_pos h2, if_pos (by omega)]
        have : j - i = (j - (i + 1)) + 1 := by omega
        rw [this]; rfl
      · rw [if_neg h2, if_neg (by omega), if_neg (by omega)]
/-- the row after a store -/
theorem row_get (C : Array Value) (us : List Value) (off : Nat) (h : off + us.length ≤ C.size) (j : Nat) :
    (C.toList.take off ++ us ++ C.toList.drop (off + us.length)).toArray[j]? = if off ≤ j ∧ j < off + us.length then us[j - off]? else C[j]? := by
  rw [List.getElem?_toArray, List.append_assoc, List.getElem?_append]
  have hl : (List.take off C.toList).length = off := by simp; omega
  rw [hl]
  by_cases h1 : j < off
  · rw [if_pos h1, if_neg (by omega), List.getElem?_take, if_pos h1, Array.getElem?_toList]
  · rw [if_neg h1, List.getElem?_append]
    by_cases h2 : j - off < us.length
    · rw [if_pos h2, if_pos (by omega)]
    · rw [if_neg h2, if_neg (by omega), List.getElem?_drop, Array.getElem?_toList]
      congr 1; omega
theorem row_size (C : Array Value) (us : List Value) (off : Nat) (h : off + us.length ≤ C.size) : (C.toList.take off ++ us ++ C.toList.drop (off + us.length)).toArray.size = C.size := by
  simp; omega
/-- a store into object k -/
theorem RelL.store (h : RelL w0 I0 L I s a w) {k b base : Nat} {C C' : Array Value} {e : TypeId} (x : AO) (hg : s.o k ≠ .gone) (hlike : (s.o k).like x) (hL : L k = some (b, base)) (hnI : ¬ I b)
    (hC : w.heap[b]? = some (.cells C e (0, 0))) (hs : C'.size = C.size) (hok : ∀ (o' : Nat → AO), Keeps [] L I w s.o L I (w.setRow b C') o' → o' k = x → ObjOk L I (w.setRow b C') o' k) :
    RelL w0 I0 L I (setO s k x) a (w.setRow b C') := by
  have hself : (setO s k x).o k = x := by simp [setO, updO]
  have hother : ∀ j, j ≠ k → (setO s k x).o j = s.o j := fun j hj => by simp [setO, updO, hj]
  have hK : Keeps [] L I w s.o L I (w.setRow b C') (setO s k x).o := by
    refine ⟨fun b' hb => ⟨hb, setRow_other w b b' C' (by rintro rfl; exact hnI hb)⟩, fun j hj hgj => ⟨rfl, ?_⟩, fun j hj hgj b' x' C1 e' hLj hb' => ?_⟩
    · by_cases hjk : j = k
      · subst hjk; rw [hself]; exact hlike
      · rw [hother j hjk]; exact AO.like_refl _ hgj
    · by_cases hb : b' = b
      · subst hb
        rw [hC] at hb'
        injection hb' with hb'
        injection hb' with h1 h2
        subst h1; subst h2
        exact ⟨C', setRow_heap w b' C C' e (0, 0) hC, hs⟩
      · exact ⟨C1, by rw [setRow_other w b b' C' hb]; exact hb', rfl⟩
  have hng : ∀ j, (setO s k x).o j ≠ .gone → s.o j ≠ .gone := by
    intro j hj
    by_cases hjk : j = k
    · subst hjk; exact hg
    · rwa [hother j hjk] at hj
  have := h.step [] hK (fun j => j = k) (fun j hj => .inr ⟨by simp, by rw [hother j hj, AO.kill_nil], fun hgj b' x' hLj => ⟨setRow_other w b b' C' (by rintro rfl; exact hj (h.heap.inj j k b' x' base hgj hg hLj hL)), id⟩⟩)
    (fun j hj => by subst hj; exact hok _ hK hself)
    (fun j j' b1 x1 x2 hj hj' h1 h2 => h.heap.inj j j' b1 x1 x2 (hng j hj) (hng j' hj') h1 h2)
    (fun b' hb => by have := h.heap.imm b' hb; simp; omega) h.only
    (h.below.trans ⟨rfl, rfl, rfl, by simp, fun k' hk' => setRow_other w b k' C' (by have := h.new k b base hg hL; omega)⟩)
    (fun j b' x' hj hLj => h.new j b' x' (hng j hj) hLj)
  simpa [AV.kill_nil', setO] using this
theorem op_store (hT : TOk P T) (hR : RelL w0 I0 L I s a w) {t : TypeId} {x y : Operand} (ho : o.op = .store t x y) (hok : (evalOp std T o s).ok) : OpDone P w0 I0 o a w ((evalOp std T o s).st o.dst s) := by
  have hx := ev_rel hR.tmps x
  have hy := ev_rel hR.tmps y
  simp only [evalOp, ho] at hok ⊢
  split at hok
  · rename_i d cs hd hcs
    obtain ⟨c1, c2⟩ := cells_rel (fun x y h hx => (h.one hx).2) hy hcs
    have hrun : ∀ (b off : Nat) (C : Array Value) (e : TypeId), a.eval x = .pointer (some ⟨b, off, none⟩) → w.heap[b]? = some (.cells C e (0, 0)) → off + cs.length ≤ C.size → cs.length = d.size → (∀ c ∈ cs, c ≠ .junk) →
        (execOp a.eval o).run P w = .ok .skip (w.setRow b (C.toList.take off ++ (a.eval y).cells.toList ++ C.toList.drop (off + (a.eval y).cells.toList.length)).toArray) := by
      intro b off C e hxe hC hoff hlen hwh
      have h3 := run_sizeOf (w := w) hT hd
      have hst := run_storeCells_at P b off e (a.eval y).cells.toList 0 C w hC (by simp [c1]; omega) (fun v hv => by
        obtain ⟨i, hi⟩ := List.getElem?_of_mem hv
        rw [Array.getElem?_toList] at hi
        have hlt : i < cs.length := by rw [← c1]; exact (Array.getElem?_eq_some_iff.1 hi).1
        obtain ⟨u, hu, hr⟩ := c2 i cs[i] (by simp [hlt])
        rw [hi] at hu
        injection hu with hu; subst hu
        exact (hr.one (hwh _ (List.getElem_mem hlt))).1)
      simp only [Nat.add_zero] at hst
      have hne : ¬ (a.eval y).cells.size ≠ d.size := by rw [c1]; simpa using hlen
      simp only [execOp, ho, hxe]
      simp [Instr.storeAt, Instr.sureAddr, storeVar, h3, c1, hlen, hst]
    split at hok
    · rename_i k off ex
      rw [ex] at hx
      obtain ⟨l, b, h2, h3, hxe⟩ := hx
      rw [h2] at hok ⊢
      obtain ⟨h4, h5, h6⟩ : off + cs.length ≤ l.length ∧ cs.length = d.size ∧ cs.all AC.whole = true := hok
      have hwh : ∀ c ∈ cs, c ≠ .junk := by
        rintro c hc rfl
        have := List.all_eq_true.1 h6 _ hc
        cases this
      obtain ⟨b', C, e, hL, hnI, hC, hsz, hcell⟩ := hR.heap.var k l h2
      rw [h3] at hL; injection hL with hL; injection hL with hL; subst hL
      have hus : (a.eval y).cells.toList.length = cs.length := by simpa using c1
      have hfit : off + (a.eval y).cells.toList.length ≤ C.size := by rw [hus, hsz]; exact h4
      have hgo := hrun b off C e hxe hC (by omega) h5 hwh
      have hgs := row_size C _ off hfit
      have hgg := row_get C _ off hfit
      revert hgo hgs hgg
      generalize (C.toList.take off ++ (a.eval y).cells.toList ++ C.toList.drop (off + (a.eval y).cells.toList.length)).toArray = C'
      intro hgo hgs hgg
      rw [hus] at hgg
      refine ⟨_, undef, _, hgo, .inr ⟨rfl, rfl⟩, L, I, ?_⟩
      refine (hR.store (.var (setL l off cs)) (by rw [h2]; simp) (by rw [h2]; simp [AO.like, setL_length]) h3 hnI hC hgs ?_).put o.dst (x := .tup []) (y := undef) ⟨#[], rfl, rfl, fun i x hx => by simp at hx⟩
      intro o' hK ho'
      unfold ObjOk
      rw [ho']
      refine ⟨b, C', e, h3, hnI, setRow_heap w b C C' e (0, 0) hC, by rw [hgs, hsz, setL_length], fun i x hx => ?_⟩
      rw [hgg]
      rw [setL_get cs l off h4] at hx
      have hkill : ∀ (x : AC) (u : Value), RelC L I w s.o x u → RelC L I (w.setRow b C') o' x u := fun x u hr => by
        have := RelC.step hK x u hr
        rwa [AC.kill_nil] at this
      split at hx
      · rename_i hi
        rw [if_pos hi, Array.getElem?_toList]
        obtain ⟨u, hu, hr⟩ := c2 _ x hx
        exact ⟨u, hu, hkill _ _ hr⟩
      · rename_i hi
        rw [if_neg hi]
        obtain ⟨u, hu, hr⟩ := hcell i x hx
        exact ⟨u, hu, hkill _ _ hr⟩
    · rename_i k i j ex
      rw [ex] at hx
      obtain ⟨m, N, sz, get, b, base, h2, h3, hxe⟩ := hx
      rw [h2] at hok ⊢
      obtain ⟨hm, h4, h5, h6, h7⟩ : m = true ∧ i < N ∧ j + cs.length ≤ sz ∧ cs.length = d.size ∧ cs.all AC.imm = true := hok
      have himm : ∀ c ∈ cs, c.imm = true := fun c hc => List.all_eq_true.1 h7 _ hc
      have hwh : ∀ c ∈ cs, c ≠ .junk := by
        rintro c hc rfl
        have := himm _ hc
        cases this
      rcases hR.heap.arr k m N sz get h2 with ⟨h8, _⟩ | ⟨b', base', C, e, hL, hnI, hC, hsz, hcell⟩
      · rw [h3] at h8; cases h8
      · rw [h3] at hL; injection hL with hL; injection hL with hL hL'; subst hL; subst hL'
        have hus : (a.eval y).cells.toList.length = cs.length := by simpa using c1
        have hmul : i * sz + sz ≤ N * sz := by
          have : (i + 1) * sz ≤ N * sz := Nat.mul_le_mul_right _ h4
          rwa [Nat.add_mul, Nat.one_mul] at this
        have hfit : base + (i * sz + j) + (a.eval y).cells.toList.length ≤ C.size := by rw [hus]; omega
        have hgo := hrun b _ C e hxe hC (by omega) h6 hwh
        have hgs := row_size C _ _ hfit
        have hgg := row_get C _ _ hfit
        revert hgo hgs hgg
        generalize (C.toList.take (base + (i * sz + j)) ++ (a.eval y).cells.toList ++ C.toList.drop (base + (i * sz + j) + (a.eval y).cells.toList.length)).toArray = C'
        intro hgo hgs hgg
        rw [hus] at hgg
        refine ⟨_, undef, _, hgo, .inr ⟨rfl, rfl⟩, L, I, ?_⟩
        refine (hR.store (.arr m N sz fun p q => if p = i ∧ j ≤ q ∧ q < j + cs.length then cs.getD (q - j) .junk else get p q) (by rw [h2]; simp) (by rw [h2]; simp [AO.like]) h3 (hnI hm) hC hgs ?_).put o.dst (x := .tup []) (y := undef) ⟨#[], rfl, rfl, fun i x hx => by simp at hx⟩
        intro o' hK ho'
        unfold ObjOk
        rw [ho']
        refine .inr ⟨b, base, C', e, h3, hnI, setRow_heap w b C C' e (0, 0) hC, by rw [hgs]; exact hsz, fun p hp q hq => ?_⟩
        rw [hgg]
        by_cases hpq : p = i ∧ j ≤ q ∧ q < j + cs.length
        · obtain ⟨rfl, hq1, hq2⟩ := hpq
          rw [if_pos (by omega)]
          have hif : (if p = p ∧ j ≤ q ∧ q < j + cs.length then cs.getD (q - j) .junk else get p q) = cs.getD (q - j) .junk := if_pos ⟨rfl, hq1, hq2⟩
          have hlt : q - j < cs.length := by omega
          obtain ⟨u, hu, hr⟩ := c2 (q - j) cs[q - j] (by simp [hlt])
          refine ⟨u, by rw [Array.getElem?_toList]; rw [show base + (p * sz + q) - (base + (p * sz + j)) = q - j by omega]; exact hu, ?_⟩
          show RelI I (w.setRow b C') (if p = p ∧ j ≤ q ∧ q < j + cs.length then cs.getD (q - j) .junk else get p q) u
          rw [hif, List.getD_eq_getElem?_getD, List.getElem?_eq_getElem hlt, Option.getD_some]
          exact (hr.toI (himm _ (List.getElem_mem hlt))).mono hK.imm
        · have hne : ¬ (base + (i * sz + j) ≤ base + (p * sz + q) ∧ base + (p * sz + q) < base + (i * sz + j) + cs.length) := by
            rintro ⟨g1, g2⟩
            apply hpq
            by_cases hpi : p = i
            · subst hpi; exact ⟨rfl, by omega, by omega⟩
            · rcases Nat.lt_or_gt_of_ne hpi with hlt | hlt
              · have : (p + 1) * sz ≤ i * sz := Nat.mul_le_mul_right _ hlt
                rw [Nat.add_mul, Nat.one_mul] at this
                omega
              · have : (i + 1) * sz ≤ p * sz := Nat.mul_le_mul_right _ hlt
                rw [Nat.add_mul, Nat.one_mul] at this
                omega
          rw [if_neg hne]
          simp only [if_neg hpq]
          obtain ⟨u, hu, hr⟩ := hcell p hp q hq
          exact ⟨u, hu, hr.mono hK.imm⟩
    · exact hok.elim
  · exact hok.elim

def PartOk (R : AC → Value → Prop) (p : Nat × List AC) (q : Nat × Value) : Prop := p.1 = q.1 ∧ q.2.cells.size = p.2.length ∧ ∀ (i : Nat) c, p.2[i]? = some c → ∃ u, q.2.cells[i]? = some u ∧ R c u
def Par (R : AC → Value → Prop) : List (Nat × List AC) → List (Nat × Value) → Prop
  | [], [] => True
  | p :: l, q :: r => PartOk R p q ∧ Par R l r
  | _, _ => False
/-- the parts of a literal -/
theorem parts_rel {R : AC → Value → Prop} (hone : ∀ x y, R x y → x ≠ .junk → y.cells = #[y]) (hev : ∀ x, RelV R (ev s x) (a.eval x)) : ∀ (ps : List (Nat × Operand)) (l : List (Nat × List AC)), allParts s ps = some l →
    Par R l (ps.map fun (i, x) => (i, a.eval x))
  | [], l, h => by
    simp [allParts] at h
    subst h
    trivial
  | (i, x) :: r, l, h => by
    unfold allParts at h
    split at h
    · rename_i cs q hcs hq
      injection h with h; subst h
      obtain ⟨c1, c2⟩ := cells_rel hone (hev x) hcs
      exact ⟨⟨rfl, c1, c2⟩, parts_rel hone hev r q hq⟩
    · cases h
def RelCs (R : AC → Value → Prop) (l : List AC) (C : Array Value) : Prop := C.size = l.length ∧ ∀ (i : Nat) x, l[i]? = some x → ∃ u, C[i]? = some u ∧ R x u
theorem foldl_cells_size (off : Nat) : ∀ (vs : List Value) (k : Nat) (cs : Array Value), ((vs.zipIdx k).foldl (fun cs (x : Value × Nat) => cs.setIfInBounds (off + x.2) x.1) cs).size = cs.size
  | [], k, cs => rfl
  | v :: r, k, cs => by
    rw [List.zipIdx_cons, List.foldl_cons, foldl_cells_size off r (k + 1)]
    simp
theorem foldl_cells_get (off : Nat) : ∀ (vs : List Value) (k : Nat) (cs : Array Value), off + k + vs.length ≤ cs.size → ∀ j : Nat, ((vs.zipIdx k).foldl (fun cs (x : Value × Nat) => cs.setIfInBounds (off + x.2) x.1) cs)[j]? = if off + k ≤ j ∧ j < off + k + vs.length then vs[j - (off + k)]? else cs[j]?
  | [], k, cs, _, j => by rw [if_neg (by simp only [List.length_nil]; omega)]; rfl
  | v :: r, k, cs, h, j => by
    simp only [List.length_cons] at h ⊢
    rw [List.zipIdx_cons, List.foldl_cons, foldl_cells_get off r (k + 1) _ (by simp; omega) j, Array.getElem?_setIfInBounds]
    by_cases h1 : j = off + k
    · subst h1
      rw [if_neg (by omega), if_pos rfl, if_pos (by omega), if_pos (by omega), Nat.sub_self]
      rfl
    · by_cases h2 : off + (k + 1) ≤ j ∧ j < off + (k + 1) + r.length
      · rw [if_pos h2, if_pos (by omega)]
        have : j - (off + k) = (j - (off + (k + 1))) + 1 := by omega
        rw [this]; rfl
      · rw [if_neg h2, if_neg (by omega), if_neg (by omega)]
theorem fill_rel {R : AC → Value → Prop} {place place' : Nat → Option (Nat × Nat)} : ∀ (l : List (Nat × List AC)) (q : List (Nat × Value)) (cells : List AC) (C : Array Value) (r : List AC),
    Par R l q →
    (∀ i x, place i = some x → place' i = some x) → RelCs R cells C → fillC place cells l = some r → ∃ D, Instr.fill place' C q = some D ∧ RelCs R r D
  | [], [], cells, C, r, _, hp, hc, h => by
    simp [fillC] at h
    subst h
    exact ⟨C, rfl, hc⟩
  | [], _ :: _, _, _, _, h, _, _, _ => h.elim
  | _ :: _, [], _, _, _, h, _, _, _ => h.elim
  | (i, cs) :: l, (i', v) :: q, cells, C, r, ⟨⟨h1, h2, h3⟩, hrest⟩, hp, hc, h => by
    simp only at h1 h2 h3
    subst h1
    unfold fillC at h
    split at h
    · cases h
    · rename_i off size hpl
      split at h
      · rename_i hok
        have hfit : off + v.cells.size ≤ C.size := by rw [h2, hc.1]; exact hok.2
        obtain ⟨D, hD, hr⟩ := fill_rel l q (setL cells off cs) ((v.cells.toList.zipIdx).foldl (fun cs (x : Value × Nat) => cs.setIfInBounds (off + x.2) x.1) C) r hrest hp ⟨by rw [foldl_cells_size, setL_length]; exact hc.1, fun j x hx => by
          rw [foldl_cells_get off _ 0 C (by simpa using hfit)]
          rw [setL_get cs cells off hok.2] at hx
          simp only [Nat.add_zero, Array.length_toList, h2]
          split at hx
          · rename_i hj
            rw [if_pos hj, Array.getElem?_toList]
            exact h3 _ x hx
          · rename_i hj
            rw [if_neg hj]
            exact hc.2 j x hx⟩ h
        refine ⟨D, ?_, hr⟩
        simp only [Instr.fill, hp i _ hpl]
        rw [if_neg (by rw [h2, hok.1]; simp; rw [hc.1]; have := hok.2; omega)]
        rw [← Array.foldl_toList, Array.toList_zipIdx]
        exact hD
      · cases h
end
section
variable {P : Program} {T : TT} {w0 w w' : World} {I0 I I' : Nat → Prop} {L L' : Nat → Option (Nat × Nat)} {s : St} {a : Act} {o : Oper} {ob o' : Nat → AO}

theorem mapM_fields {β : Type} (f : Field → Sem β) (g : Field → β) : ∀ (l : List Field), (∀ x ∈ l, (f x).run P w = .ok (g x) w) → (l.mapM f).run P w = .ok (l.map g) w
  | [], _ => rfl
  | x :: r, h => by
    rw [List.mapM_cons]
    simp [h x (by simp), mapM_fields f g r (fun y hy => h y (by simp [hy]))]
theorem op_build (hT : TOk P T) (hR : RelL w0 I0 L I s a w) {t : TypeId} {parts : Array (Nat × Operand)} (ho : o.op = .build t parts)
    (hok : (evalOp std T o s).ok) : OpDone P w0 I0 o a w ((evalOp std T o s).st o.dst s) := by
  simp only [evalOp, ho] at hok ⊢
  split at hok
  · rename_i d hd
    split at hok
    · rename_i ps hps
      split at hok
      · rename_i cs hcs
        cases hu : d.und with
        | struct fs =>
          rw [hu] at hok
          have hall : ∀ f ∈ fs.toList, ∃ fd, (T (f.type)) = some fd := fun f hf => by
            have := List.all_eq_true.1 hok f hf
            exact Option.isSome_iff_exists.1 this
          have h1 := run_underlying (w := w) (hT t d hd).1
          rw [hu] at h1
          have hz := run_zero (w := w) hT hd
          have hpar := parts_rel (R := RelC L I w s.o) (fun x y h hx => (h.one hx).2) (fun x => ev_rel hR.tmps x) parts.toList ps hps
          obtain ⟨z1, z2⟩ := zeroC_rel (I := I) (w := w) (hT t d hd).2.2.1
          rw [hu] at hcs
          have hplace : ∀ i x, placeOf T (fieldsOf (.struct fs)) i = some x → (fun i => (fs.map fun f => (f.offset, (((T (f.type))).map TD.size).getD 0))[i]?) i = some x := by
            intro i x hx
            simp only [placeOf, fieldsOf, Array.getElem?_toList] at hx
            split at hx
            · rename_i f hf
              split at hx
              · rename_i fd hfd
                injection hx with hx; subst hx
                simp [hf, hfd]
              · cases hx
            · cases hx
          obtain ⟨D, hD, hr⟩ := fill_rel (R := RelC L I w s.o) ps _ (zeroC d) d.zero.cells cs hpar hplace ⟨z1, fun i x hx => by obtain ⟨u, hu, hr⟩ := z2 i x hx; exact ⟨u, hu, hr.toC⟩⟩ hcs
          refine done_give hR (y := .agg D) ?_ ⟨D, rfl, hr.1, hr.2⟩
          have hm : (fs.mapM fun f => do pure (f.offset, ← Go.sizeOf f.type) : Sem (Array (Nat × Nat))).run P w = .ok (fs.map fun f => (f.offset, (((T (f.type))).map TD.size).getD 0)) w := by
            rw [Array.mapM_eq_mapM_toList]
            have := mapM_fields (P := P) (w := w) (fun f : Field => (do pure (f.offset, ← Go.sizeOf f.type) : Sem (Nat × Nat))) (fun f => (f.offset, (((T (f.type))).map TD.size).getD 0)) fs.toList (fun f hf => by
              obtain ⟨fd, hfd⟩ := hall f hf
              simp [run_sizeOf (w := w) hT hfd, hfd])
            simp only [Sem.run_map, this, Result.andThen_ok]
            congr 1
            apply Array.ext'
            simp
          simp only [execOp, ho]
          have hpl : (parts.map fun (i, x) => (i, a.eval x)).toList = parts.toList.map fun (i, x) => (i, a.eval x) := by simp
          simp only [Sem.run_bind, Instr.build, hz, Result.andThen_ok, h1, hm, hpl]
          rw [hD]
          simp
        | _ => rw [hu] at hok; exact hok.elim
      · exact hok.elim
    · exact hok.elim
  · exact hok.elim
theorem caps_rel (hev : ∀ x, RelV (RelC L I w ob) (ev s x) (a.eval x)) : ∀ (xs : List Operand) (l : List AC), capsOf s xs = some l → l.length = xs.length ∧ ∀ j x, xs[j]? = some x → RelI I w (l.getD j .junk) (a.eval x)
  | [], l, h => by
    simp [capsOf] at h
    subst h
    exact ⟨rfl, fun j x hx => by simp at hx⟩
  | y :: r, l, h => by
    unfold capsOf at h
    split at h
    · rename_i c q hc hq
      split at h
      · rename_i him
        injection h with h; subst h
        obtain ⟨h1, h2⟩ := caps_rel hev r q hq
        refine ⟨by simp [h1], fun j x hx => ?_⟩
        cases j with
        | zero =>
          simp at hx
          subst hx
          have := hev y
          rw [hc] at this
          exact RelC.toI this him
        | succ j => exact h2 j x (by simpa using hx)
      · cases h
    · cases h
theorem op_makeFunc (hR : RelL w0 I0 L I s a w) {f : FuncId} {first caps : Array Operand} (ho : o.op = .makeFunc (.func f) first caps) (hok : (evalOp std T o s).ok) : OpDone P w0 I0 o a w ((evalOp std T o s).st o.dst s) := by
  simp only [evalOp, ho] at hok ⊢
  split at hok
  · rename_i l hf hl
    obtain ⟨h1, h2⟩ := caps_rel (fun x => ev_rel hR.tmps x) caps.toList l hl
    have hf' : first = #[] := by apply Array.ext'; simpa using hf
    subst hf'
    refine done_give hR (y := .func (.func f) #[] (caps.map a.eval)) ?_ ⟨caps.map a.eval, rfl, by simp [h1], fun j hj => ?_⟩
    · simp [execOp, ho, Instr.makeFunc]
    · have hj' : j < caps.size := by rw [h1] at hj; simpa using hj
      exact ⟨a.eval caps[j], by simp [hj'], h2 j caps[j] (by simp [hj'])⟩
  · exact hok.elim
theorem fillC_length {place : Nat → Option (Nat × Nat)} : ∀ (l : List (Nat × List AC)) (cells r : List AC), fillC place cells l = some r → r.length = cells.length
  | [], cells, r, h => by simp [fillC] at h; rw [h]
  | (i, cs) :: l, cells, r, h => by
    unfold fillC at h
    split at h
    · cases h
    · split at h
      · rw [fillC_length l _ r h, setL_length]
      · cases h
theorem flatten_rep (z : List AC) : ∀ (n : Nat), ((List.replicate n z).flatten).length = n * z.length ∧ ∀ i : Nat, i < n * z.length → ((List.replicate n z).flatten)[i]? = z[i % z.length]?
  | 0 => ⟨by simp, fun i hi => by omega⟩
  | n + 1 => by
    obtain ⟨h1, h2⟩ := flatten_rep z n
    refine ⟨by rw [List.replicate_succ, List.flatten_cons, List.length_append, h1, Nat.add_mul, Nat.one_mul, Nat.add_comm], fun i hi => ?_⟩
    rw [List.replicate_succ, List.flatten_cons, List.getElem?_append]
    split
    · rename_i h; rw [Nat.mod_eq_of_lt h]
    · rename_i h
      rw [h2 _ (by rw [Nat.add_mul, Nat.one_mul] at hi; omega)]
      congr 1
      exact (Nat.mod_eq_sub_mod (by omega)).symm
theorem op_buildSlice (hT : TOk P T) (hR : RelL w0 I0 L I s a w) {t : TypeId} {len : Nat} {parts : Array (Nat × Operand)} (ho : o.op = .buildSlice t len parts) (hok : (evalOp std T o s).ok) : OpDone P w0 I0 o a w ((evalOp std T o s).st o.dst s) := by
  simp only [evalOp, ho] at hok ⊢
  split at hok
  · rename_i d hd
    split at hok
    · rename_i ps hps
      split at hok
      · rename_i cs hcs
        obtain ⟨h1, h2, h3, h4⟩ : cs.all AC.imm = true ∧ 0 < d.size ∧ (zeroC d).length = d.size ∧ len * d.size ≤ 16777216 := hok
        unfold elemOf at hd
        split at hd
        · rename_i td htd
          split at hd
          · rename_i e hu
            have hu1 := run_underlying (w := w) (hT t td htd).1
            rw [hu] at hu1
            have hz := run_zero (w := w) hT hd
            have hsz := run_sizeOf (w := w) hT hd
            obtain ⟨z1, z2⟩ := zeroC_rel (I := I) (w := w) (hT e d hd).2.2.1
            have hzs : d.zero.cells.size = d.size := by rw [z1, h3]
            have hpar := parts_rel (R := RelC L I w s.o) (fun x y h hx => (h.one hx).2) (fun x => ev_rel hR.tmps x) parts.toList ps hps
            obtain ⟨f1, f2⟩ := flatten_rep (zeroC d) len
            have hcells : RelCs (RelC L I w s.o) ((List.replicate len (zeroC d)).flatten) ((Array.range (len * d.size)).map (d.zero.cells[· % d.zero.cells.size]!)) := by
              refine ⟨by simp [f1, h3], fun i x hx => ?_⟩
              have hi : i < len * (zeroC d).length := by
                have := (List.getElem?_eq_some_iff.1 hx).1
                rwa [f1] at this
              rw [f2 i hi] at hx
              obtain ⟨u, hu, hr⟩ := z2 _ x hx
              refine ⟨u, ?_, hr.toC⟩
              rw [h3] at hi hu
              simp [hi, hzs]
              have hlt : i % d.size < d.zero.cells.size := by rw [hzs]; exact Nat.mod_lt _ h2
              rw [getElem!_pos d.zero.cells _ hlt]
              rw [Array.getElem?_eq_getElem hlt] at hu
              injection hu
            obtain ⟨D, hD, hr⟩ := fill_rel (R := RelC L I w s.o) (place' := fun i => some (i * d.size, d.size)) ps _ _ _ cs hpar (fun i x hx => hx) hcells hcs
            refine ⟨_, .slice (some ⟨w.heap.size, 0, none⟩) len len, w.alloc (.cells D e), ?_, .inl rfl, _, I, (hR.fresh (site o.dst) D e (.arr true len d.size fun i j => cs.getD (i * d.size + j) .junk) ?_).put o.dst (y := .slice (some ⟨w.heap.size, 0, none⟩) len len) ?_⟩
            · have hpl : (parts.map fun (i, x) => (i, a.eval x)).toList = parts.toList.map fun (i, x) => (i, a.eval x) := by simp
              have h4' : ¬ (len * d.size > 2 ^ 24) := by omega
              simp only [execOp, ho]
              simp only [Sem.run_bind, Instr.buildSlice, hu1, Result.andThen_ok, hsz]
              rw [if_neg h4']
              by_cases h0 : len * d.size = 0
              · have hl0 : len = 0 := by
                  rcases Nat.mul_eq_zero.1 h0 with h | h <;> omega
                subst hl0
                have hr0 : (Array.range (0 * d.size)).map (d.zero.cells[· % d.zero.cells.size]!) = #[] := by
                  apply Array.ext'; simp
                have hr1 : (Array.range (0 * d.size)).map ((#[] : Array Value)[· % (#[] : Array Value).size]!) = #[] := by
                  apply Array.ext'; simp
                rw [hr0] at hD
                rw [Nat.zero_mul] at hr1
                simp only [hpl, Nat.zero_mul, if_true, Sem.run_bind, Sem.run_pure, Result.andThen_ok]
                rw [hr1, hD]
                simp [newRow]
              · simp only [h0, if_false, Sem.run_bind, hz, Result.andThen_ok, hpl]
                simp only [Sem.run_pure, Result.andThen_ok]
                rw [hD]
                simp [newRow]
            · intro L' o' hK hL' ho' hnI
              unfold ObjOk
              rw [ho']
              have hD2 : D.size = len * d.size := by
                rw [hr.1, fillC_length _ _ _ hcs, f1, h3]
              refine .inr ⟨w.heap.size, 0, D, e, hL', fun _ => hnI, heap_alloc_new w _, by rw [hD2]; omega, fun i hi j hj => ?_⟩
              have hmul : (i + 1) * d.size ≤ len * d.size := Nat.mul_le_mul_right _ hi
              rw [Nat.add_mul, Nat.one_mul] at hmul
              have hlt : i * d.size + j < cs.length := by rw [← hr.1, hD2]; omega
              obtain ⟨u, hu', hr'⟩ := hr.2 (i * d.size + j) cs[i * d.size + j] (by simp [hlt])
              refine ⟨u, by rw [Nat.zero_add]; exact hu', ?_⟩
              show RelI I _ (cs.getD (i * d.size + j) .junk) u
              rw [List.getD_eq_getElem?_getD, List.getElem?_eq_getElem hlt, Option.getD_some]
              exact (hr'.toI (List.all_eq_true.1 h1 _ (List.getElem_mem hlt))).mono hK.imm
            · refine ⟨true, len, d.size, _, by simp [setO, updO]; rfl, .inr ⟨w.heap.size, 0, len, by simp, by simp, by omega, Nat.le_refl _, D, e, heap_alloc_new w _, ?_⟩⟩
              have hD2 : D.size = len * d.size := by
                rw [hr.1, fillC_length _ _ _ hcs, f1, h3]
              show 0 + (0 + len) * d.size ≤ D.size
              rw [hD2, Nat.zero_add, Nat.zero_add]
              exact Nat.le_refl _
          · cases hd
        · cases hd
      · exact hok.elim
    · exact hok.elim
  · exact hok.elim
end
section
variable {P : Program} {T : TT} {w0 w w' : World} {I0 I I' : Nat → Prop} {L L' : Nat → Option (Nat × Nat)} {s : St} {a : Act} {o : Oper} {ob o' : Nat → AO}

theorem op_make (hT : TOk P T) (hR : RelL w0 I0 L I s a w) {t : TypeId} {x y : Operand} (ho : o.op = .makeSlice t x y) (hok : (evalOp std T o s).ok) : OpDone P w0 I0 o a w ((evalOp std T o s).st o.dst s) := by
  have hx := ev_rel hR.tmps x
  have hy := ev_rel hR.tmps y
  simp only [evalOp, ho] at hok ⊢
  split at hok
  · rename_i d k n k' m hd ex ey
    obtain ⟨rfl, h0, h1, h2, h3, h4⟩ : n = m ∧ 0 ≤ n ∧ 0 < d.size ∧ 0 < d.bytes ∧ (zeroC d).length = d.size ∧ n.toNat * d.bytes ≤ 35184372088832 := hok
    unfold elemOf at hd
    split at hd
    · rename_i td htd
      split at hd
      · rename_i e hu
        have hu1 := run_underlying (w := w) (hT t td htd).1
        rw [hu] at hu1
        have hz := run_zero (w := w) hT hd
        have hsz := run_sizeOf (w := w) hT hd
        obtain ⟨i, hi, hi1, hi2, hi3⟩ := (hT e d hd).2.1
        obtain ⟨z1, z2⟩ := zeroC_rel (I := I) (w := w) (hT e d hd).2.2.1
        have hzs : d.zero.cells.size = d.size := by rw [z1, h3]
        have hle : n.toNat ≤ 35184372088832 := Nat.le_trans (Nat.le_mul_of_pos_right _ h2) h4
        have hw : IntKind.i64.wrap n = n := by
          simp only [IntKind.wrap, IntKind.signed, IntKind.bits]
          simp
          omega
        have hlarge : ¬ ((d.bytes : Int) * n > 281474976710656) := by
          have : ((n.toNat * d.bytes : Nat) : Int) ≤ 35184372088832 := by omega
          have e1 : ((n.toNat * d.bytes : Nat) : Int) = (d.bytes : Int) * n := by
            rw [Int.natCast_mul, Int.mul_comm]; congr 1; omega
          omega
        have hlow : ¬ n < 0 := by omega
        refine ⟨_, .slice (some ⟨w.heap.size, 0, none⟩) n.toNat n.toNat, w.alloc (.cells ((Array.range (n.toNat * d.size)).map (d.zero.cells[· % d.zero.cells.size]!)) e), ?_, .inl rfl, _, I, (hR.fresh (site o.dst) _ e (.arr true n.toNat d.size fun _ j => (zeroC d).getD j .junk) ?_).put o.dst (y := .slice (some ⟨w.heap.size, 0, none⟩) n.toNat n.toNat) ?_⟩
        · simp only [execOp, ho, val_of hx ex, val_of hy ey]
          simp only [Sem.run_bind, Instr.makeSlice, hu1, Result.andThen_ok, asInt, asIntOf, Sem.run_pure, typeInfo, run_program, hi, hi2, hw]
          have hlarge' : ¬ (281474976710656 < (d.bytes : Int) * n) := hlarge
          simp [hlow, hlarge', hsz]
          by_cases hn0 : n.toNat * d.size = 0
          · have hn : n.toNat = 0 := by
              rcases Nat.mul_eq_zero.1 hn0 with h | h <;> omega
            rw [hn]
            have hr0 : ∀ f : Nat → Value, (Array.range 0).map f = #[] := fun f => by apply Array.ext'; simp
            simp [newRow]
            rw [hr0, hr0]
          · simp [hn0, hz, newRow]
        · intro L' o' hK hL' ho' hnI
          unfold ObjOk
          rw [ho']
          refine .inr ⟨w.heap.size, 0, _, e, hL', fun _ => hnI, heap_alloc_new w _, by simp, fun i hi j hj => ?_⟩
          obtain ⟨u, hu', hr'⟩ := z2 j (zeroC d)[j] (by simp [h3, hj])
          have hmul : (i + 1) * d.size ≤ n.toNat * d.size := Nat.mul_le_mul_right _ hi
          rw [Nat.add_mul, Nat.one_mul] at hmul
          have hlt : i * d.size + j < n.toNat * d.size := by omega
          refine ⟨u, ?_, ?_⟩
          · have hm : (i * d.size + j) % d.size = j := by
              rw [Nat.mul_comm, Nat.mul_add_mod]; exact Nat.mod_eq_of_lt hj
            simp [hlt, hzs, hm]
            have hjz : j < d.zero.cells.size := by rw [hzs]; exact hj
            rw [getElem!_pos d.zero.cells _ hjz]
            rw [Array.getElem?_eq_getElem hjz] at hu'
            injection hu'
          · show RelI I _ ((zeroC d).getD j .junk) u
            rw [List.getD_eq_getElem?_getD, List.getElem?_eq_getElem (by rw [h3]; exact hj), Option.getD_some]
            exact hr'.mono hK.imm
        · refine ⟨true, n.toNat, d.size, _, by simp [setO, updO, std]; rfl, .inr ⟨w.heap.size, 0, n.toNat, by simp, by simp [std], by simp [std], by simp [std], _, e, heap_alloc_new w _, by simp⟩⟩
      · cases hd
    · cases hd
  · exact hok.elim

theorem src_rel (hH : HRel L I w ob) {d : TD} {ats : Array TypeId} {y : AV} {v : Value} {n sz : Nat} {get : Nat → Nat → AC} (hT : TOk P T) (hv : RelV (RelC L I w ob) y v) (ht : srcT T d ats y = true) (hs : srcOf std d.size ob y = some (n, sz, get)) (hsz : sz = d.size) (hpos : 0 < d.size) :
    ∃ tx news, ats[1]? = some tx ∧ Src P d.size tx v n news w ∧ ∀ i, i < n → ∀ j, j < d.size → ∃ u, news[i * d.size + j]? = some u ∧ RelI I w (get i j) u := by
  unfold srcT at ht
  split at ht
  · rename_i tx htx
    split at ht
    · rename_i td htd
      have hund := (hT tx td htd).1
      -- cells behind an address
      have key : ∀ (b off cap n : Nat) (g : Nat → Nat → AC) (e' : TypeId), P.underlying tx = some (.slice e') → (∀ i, i < n → ∀ j, j < d.size → ∃ u, w.cell? ⟨b, off + (i * d.size + j), none⟩ = some u ∧ RelI I w (g i j) u ∧ u.oneCell' = true) → 0 < d.size →
          ∃ news, Src P d.size tx (.slice (some ⟨b, off, none⟩) n cap) n news w ∧ ∀ i, i < n → ∀ j, j < d.size → ∃ u, news[i * d.size + j]? = some u ∧ RelI I w (g i j) u := by
        intro b off cap n g e' hk hc hpos
        have hidx : ∀ q, q < n * d.size → q / d.size < n ∧ q % d.size < d.size ∧ q / d.size * d.size + q % d.size = q := fun q hq => ⟨(Nat.div_lt_iff_lt_mul hpos).2 hq, Nat.mod_lt _ hpos, by have := Nat.div_add_mod q d.size; rw [Nat.mul_comm] at this; exact this⟩
        obtain ⟨f, hf⟩ := choose_cells (R := fun x u => ∃ q, x = g (q / d.size) (q % d.size) ∧ RelI I w x u ∧ u.oneCell' = true) (n := n * d.size) (g := fun q => g (q / d.size) (q % d.size)) (c := fun q => w.cell? ⟨b, off + q, none⟩) (fun q hq => by
          obtain ⟨h1, h2, h3⟩ := hidx q hq
          obtain ⟨u, hu, hr, h1⟩ := hc _ h1 _ h2
          rw [h3] at hu
          exact ⟨u, hu, q, rfl, hr, h1⟩)
        refine ⟨(List.range (n * d.size)).map f, Src.ofSlice w hk ⟨b, off, none⟩ n cap _ (by simp) (fun j u hj => ?_) (fun u hu => ?_), fun i hi j hj => ?_⟩
        · rw [List.getElem?_map] at hj
          simp only [Option.map_eq_some_iff] at hj
          obtain ⟨q, hq, rfl⟩ := hj
          have hlt : j < n * d.size := by have := (List.getElem?_eq_some_iff.1 hq).1; simpa using this
          rw [List.getElem?_range hlt] at hq
          injection hq with hq; subst hq
          rw [addr_add]
          exact (hf _ hlt).1
        · obtain ⟨q, hq, rfl⟩ := List.mem_map.1 hu
          obtain ⟨_, _, _, h⟩ := (hf q (by simpa using hq)).2
          exact h
        · have hmul : (i + 1) * d.size ≤ n * d.size := Nat.mul_le_mul_right _ hi
          rw [Nat.add_mul, Nat.one_mul] at hmul
          have hlt : i * d.size + j < n * d.size := by omega
          refine ⟨f (i * d.size + j), by simp [hlt], ?_⟩
          obtain ⟨q, hq, hr, _⟩ := (hf _ hlt).2
          have e1 : (i * d.size + j) / d.size = i := by
            rw [Nat.mul_comm, Nat.mul_add_div hpos, Nat.div_eq_of_lt hj, Nat.add_zero]
          have e2 : (i * d.size + j) % d.size = j := by
            rw [Nat.mul_comm, Nat.mul_add_mod]; exact Nat.mod_eq_of_lt hj
          rw [e1, e2] at hr
          exact hr
      have key' : ∀ (b off cap n : Nat) (g : Nat → Nat → AC) (e' : TypeId), P.underlying tx = some (.slice e') → (∀ i, i < n → ∀ j, j < d.size → ∃ u, w.cell? ⟨b, off + (i * d.size + j), none⟩ = some u ∧ RelI I w (g i j) u) → 0 < d.size →
          ∃ news, Src P d.size tx (.slice (some ⟨b, off, none⟩) n cap) n news w ∧ ∀ i, i < n → ∀ j, j < d.size → ∃ u, news[i * d.size + j]? = some u ∧ RelI I w (g i j) u := fun b off cap n g e' hk hc hpos => key b off cap n g e' hk (fun i hi j hj => by obtain ⟨u, hu, hr⟩ := hc i hi j hj; exact ⟨u, hu, hr, hr.one'⟩) hpos
      split at ht
      · rename_i e' n0 sz0 g0 hu
        rw [hu] at hund
        simp only [srcOf, Option.some.injEq, Prod.mk.injEq] at hs
        obtain ⟨rfl, rfl, rfl⟩ := hs
        obtain ⟨ad, cap, rfl, hnc, hc⟩ := hv
        by_cases hn : 0 < n0
        · obtain ⟨b, off, rfl, hb, hcell⟩ := hc hn
          subst hsz
          obtain ⟨news, h1, h2⟩ := key' b off cap n0 g0 e' hund hcell hpos
          exact ⟨tx, news, htx, h1, h2⟩
        · have : n0 = 0 := by omega
          subst this
          cases ad with
          | none => exact ⟨tx, [], htx, Src.ofNil w hund cap, fun i hi => absurd hi (by omega)⟩
          | some ad => exact ⟨tx, [], htx, Src.ofSlice w hund ad 0 cap [] (by simp) (fun j u hj => by simp at hj) (fun u hu => by cases hu), fun i hi => absurd hi (by omega)⟩
      · rename_i e' k off n0 hu
        rw [hu] at hund
        obtain ⟨m, N, sz0, g0, hk, hh⟩ := hv
        simp only [srcOf, hk, Option.some.injEq, Prod.mk.injEq] at hs
        obtain ⟨rfl, rfl, rfl⟩ := hs
        rcases hh with ⟨_, _, rfl, _, rfl⟩ | ⟨b, base, cap, hL, rfl, h1, h2, _⟩
        · exact ⟨tx, [], htx, Src.ofNil w hund 0, fun i hi => absurd hi (by omega)⟩
        · rcases hH.arr k m N sz0 g0 hk with ⟨h3, _⟩ | ⟨b', base', C, e, h3, _, hC, _, hcell⟩
          · rw [hL] at h3; cases h3
          · rw [hL] at h3; injection h3 with h3; injection h3 with h3 h3'; subst h3; subst h3'
            subst hsz
            obtain ⟨news, g1, g2⟩ := key' b (base + off * d.size) cap n0 (fun i j => g0 (off + i) j) e' hund (fun i hi j hj => by
              obtain ⟨u, hu, hr⟩ := hcell (off + i) (by omega) j hj
              refine ⟨u, ?_, hr⟩
              rw [cell_of hC, ← hu, Nat.add_mul, Nat.add_assoc, Nat.add_assoc]) hpos
            exact ⟨tx, news, htx, g1, g2⟩
      · rename_i e' ad n0 c0 hu
        rw [hu] at hund
        cases ad with
        | some ad => simp [srcOf] at hs
        | none =>
          cases n0 with
          | succ q => simp [srcOf] at hs
          | zero =>
            simp only [srcOf, Option.some.injEq, Prod.mk.injEq] at hs
            obtain ⟨rfl, rfl, rfl⟩ := hs
            obtain ⟨rfl, _⟩ := hv
            exact ⟨tx, [], htx, Src.ofNil w hund c0, fun i hi => absurd hi (by omega)⟩
      · rename_i b0 hu
        rw [hu] at hund
        simp only [srcOf, Option.some.injEq, Prod.mk.injEq] at hs
        obtain ⟨rfl, rfl, rfl⟩ := hs
        obtain ⟨rfl, _⟩ := hv
        have hd1 : d.size = 1 := by simpa using ht
        rw [hd1]
        refine ⟨tx, byteCells b0, htx, Src.ofString w hund b0, fun i hi j hj => ?_⟩
        have hi' : i < b0.size := hi
        have hj0 : j = 0 := by omega
        subst hj0
        refine ⟨.int .u8 b0[i].toNat, ?_, ?_, rfl⟩
        · have hlen : i < b0.data.toList.length := by simpa using hi'
          simp only [byteCells, Nat.mul_one, Nat.add_zero, List.getElem?_map, List.getElem?_eq_getElem hlen, Option.map_some]
          rfl
        · simp [std, hi']
      · cases ht
    · cases ht
  · cases ht
theorem RelL.drew (hR : RelL w0 I0 L I s a w) : RelL w0 I0 L I s a w.drew := by
  have hK : Keeps [] L I w s.o L I w.drew s.o := ⟨fun b hb => ⟨hb, rfl⟩, fun k _ hg => ⟨rfl, AO.like_refl _ hg⟩, fun k _ hg b x C e hL hC => ⟨C, hC, rfl⟩⟩
  have := hR.step [] hK (fun _ => False) (fun k _ => .inr ⟨rfl, (AO.kill_nil _).symm, fun hg b x hL => ⟨rfl, id⟩⟩) (fun k hk => hk.elim) hR.heap.inj hR.heap.imm hR.only hR.below.drew hR.new
  simpa [AV.kill_nil'] using this
/-- an append that makes a new array -/
theorem RelL.appNew (hR : RelL w0 I0 L I s a w) (k N n sz cap : Nat) (get : Nat → Nat → AC) (olds news : List Value) (z : Array Value) (e : TypeId) (hpos : 0 < sz) (hz : z.size = sz) (ho : olds.length = N * sz) (hn : news.length = n * sz) (hcap : N + n ≤ cap)
    (hget : ∀ i, i < N + n → ∀ j, j < sz → ∃ u, (olds ++ news)[i * sz + j]? = some u ∧ RelI I w (get i j) u) (d : Option Nat) :
    RelL w0 I0 (fun j => if j = k then some (w.heap.size, 0) else L j) I (AM.put (setO (s.kill [k]) k (.arr true (N + n) sz get)) d (.c (.os k 0 (N + n))))
      (a.put d (.slice (some ⟨w.heap.size, 0, none⟩) (N + n) cap)) (w.drew.alloc (.cells ((olds ++ news).toArray ++ Builtin.zeroCells z (cap - (N + n))) e)) := by
  have hsize : ((olds ++ news).toArray ++ Builtin.zeroCells z (cap - (N + n))).size = cap * sz := by
    simp only [Array.size_append, List.size_toArray, List.length_append, ho, hn, size_zeroCells, hz, ← Nat.add_mul]
    congr 1; omega
  refine (hR.drew.fresh k _ e (.arr true (N + n) sz get) ?_).put d (y := .slice (some ⟨w.heap.size, 0, none⟩) (N + n) cap) ?_
  · intro L' o' hK hL' ho' hnI
    unfold ObjOk
    rw [ho']
    refine .inr ⟨w.drew.heap.size, 0, _, e, hL', fun _ => hnI, heap_alloc_new w.drew _, by rw [hsize, Nat.zero_add]; exact Nat.mul_le_mul_right _ hcap, fun i hi j hj => ?_⟩
    obtain ⟨u, hu, hr⟩ := hget i hi j hj
    refine ⟨u, ?_, ?_⟩
    · rw [Nat.zero_add, Array.getElem?_append]
      have hlt : i * sz + j < (olds ++ news).toArray.size := by simpa using (List.getElem?_eq_some_iff.1 hu).1
      rw [if_pos hlt, List.getElem?_toArray]
      exact hu
    · have h2 : RelI I w.drew (get i j) u := RelI.mono (w := w) (w' := w.drew) (I' := I) (fun b hb => ⟨hb, rfl⟩) _ _ hr
      exact h2.mono hK.imm
  · refine ⟨true, N + n, sz, get, by simp [setO, updO], .inr ⟨w.heap.size, 0, cap, by simp, by simp, by omega, hcap, _, e, heap_alloc_new w.drew _, ?_⟩⟩
    rw [hsize]; simp
theorem op_append (hT : TOk P T) (hR : RelL w0 I0 L I s a w) {c : Call} (ho : o.op = .call c) {x y : AV} (hc : c.callee = .builtin .append) (hxy : c.args.toList.map (ev s) = [x, y]) (hok : (appA std T c.argTypes o.dst x y s.o).ok) : OpDone P w0 I0 o a w ((appA std T c.argTypes o.dst x y s.o).st o.dst s) := by
  have hargs := args_rel hR.tmps c.args.toList
  rw [hxy] at hargs
  obtain ⟨xv, hxv, hx⟩ := hargs 0 x rfl
  obtain ⟨yv, hyv, hy⟩ := hargs 1 y rfl
  have hav : c.args.map a.eval = #[xv, yv] := by
    apply Array.ext'
    simp only [Array.toList_map]
    have hlen : c.args.toList.length = 2 := by have := congrArg List.length hxy; simpa using this
    cases hq : c.args.toList with
    | nil => rw [hq] at hlen; cases hlen
    | cons p r =>
      cases r with
      | nil => rw [hq] at hlen; cases hlen
      | cons p' r' =>
        rw [hq] at hlen hxv hyv
        have : r' = [] := by simpa using hlen
        subst this
        simp at hxv hyv
        simp [hxv, hyv]
  have hrunv : ∀ v w', (Builtin.append_ c.argTypes o.type #[xv, yv]).run P w = .ok v w' → (execOp a.eval o).run P w = .ok (.value v) w' := by
    intro v w' h
    rw [builtin_run ho hc, hav]
    simp [builtin, h]
  unfold appA at hok ⊢
  split at hok
  · exact hok.elim
  · rename_i t hat
    simp only [hat]
    split at hok
    · exact hok.elim
    · rename_i d hd
      split at hok
      · exact hok.elim
      · rename_i hst
        split at hok
        · exact hok.elim
        · rename_i n sz get' hsrc
          -- the element's type
          have hel : ∃ e i, P.underlying t = some (.slice e) ∧ P.info? e = some i ∧ i.size = d.size ∧ i.bytes = d.bytes ∧ i.zero = some d.zero := by
            unfold elemOf at hd
            split at hd
            · rename_i td htd
              split at hd
              · rename_i e hu
                obtain ⟨i, h1, h2, h3, h4⟩ := (hT e d hd).2.1
                exact ⟨e, i, by rw [(hT t td htd).1, hu], h1, h2, h3, h4⟩
              · cases hd
            · cases hd
          obtain ⟨e, i, hu, hi, hi1, hi2, hi3⟩ := hel
          have hats : ∀ tx, c.argTypes[1]? = some tx → (Builtin.append_ c.argTypes o.type #[xv, yv]) = (Builtin.append_ #[t, tx] o.type #[xv, yv]) := by
            intro tx htx
            unfold Builtin.append_
            simp [hat, htx]
          -- the two ways
          have grow : ∀ (k N : Nat) (get : Nat → Nat → AC) (ad : Option Addr) (cap : Nat) (olds : List Value) (site : Nat), sz = d.size → 0 < d.size → 0 < d.bytes → (zeroC d).length = d.size → (N + n) * d.bytes ≤ 35184372088832 → cap < N + n → xv = .slice ad N cap → olds.length = N * d.size →
              (Builtin.firstCells i.size N (.slice ad N cap)).run P w.drew = .ok olds.toArray w.drew → (∀ q, q < N → ∀ j, j < d.size → ∃ u, olds[q * d.size + j]? = some u ∧ RelI I w (get q j) u) →
              OpDone P w0 I0 o a w (AM.put (setO (s.kill [k]) k (.arr true (N + n) d.size (joinC N get get'))) o.dst (.c (.os k 0 (N + n)))) := by
            intro k N get ad cap olds _ h1 h2 h3 h4 h5 h6 h7 h8 h9 h10
            subst h1
            obtain ⟨tx, news, htx, hsrc', hnews⟩ := src_rel hR.heap hT hy hst hsrc rfl h2
            have hN : N + n ≤ 35184372088832 := Nat.le_trans (Nat.le_mul_of_pos_right _ h3) h5
            have hsrc2 : Src P i.size tx yv n news w := by rw [hi1]; exact hsrc'
            have hz3 : d.zero.cells.size = d.size := by rw [← h4]; simp [zeroC]
            have hrun := run_append_grow_src w t tx o.type e i d.zero hu hi hi3 ad N cap olds h9 yv n news hsrc2 h6 (by omega) (by rw [hi2]; exact growslice_fits h6 (by omega))
            refine ⟨_, _, _, hrunv _ _ (by rw [hats tx htx, h7]; exact hrun), .inl rfl, _, I, hR.appNew k N n d.size _ (joinC N get get') olds news d.zero.cells e h2 hz3 h8 hsrc'.newsLen (grownCap_ge w (N + n) cap e) (fun q hq j hj => ?_) o.dst⟩
            rw [List.getElem?_append, h8]
            by_cases hqN : q < N
            · have hmul : (q + 1) * d.size ≤ N * d.size := Nat.mul_le_mul_right _ hqN
              rw [Nat.add_mul, Nat.one_mul] at hmul
              rw [if_pos (by omega)]
              obtain ⟨u, hu', hr⟩ := h10 q hqN j hj
              exact ⟨u, hu', by simp only [joinC, if_pos hqN]; exact hr⟩
            · have hmul : N * d.size ≤ q * d.size := Nat.mul_le_mul_right _ (by omega)
              rw [if_neg (by omega)]
              obtain ⟨u, hu', hr⟩ := hnews (q - N) (by omega) j hj
              refine ⟨u, ?_, by simp only [joinC, if_neg hqN]; exact hr⟩
              rw [← hu', Nat.sub_mul]
              congr 1; omega
          have nothing : ∀ (k : Nat) (get : Nat → Nat → AC), sz = d.size → 0 < d.size → xv = .slice none 0 0 → n = 0 →
              OpDone P w0 I0 o a w (AM.put (setO (s.kill [k]) k (.arr true (0 + n) d.size (joinC 0 get get'))) o.dst (.c (.os k 0 (0 + n)))) := by
            intro k get h1 hpos h7 h8
            subst h8
            obtain ⟨tx, news, htx, hsrc', hnews⟩ := src_rel hR.heap hT hy hst hsrc h1 hpos
            have hnil : news = [] := by have := hsrc'.newsLen; simpa using this
            subst hnil
            have hsrc2 : Src P i.size tx yv 0 [] w := by rw [hi1]; exact hsrc'
            have hrun : (Builtin.append_ #[t, tx] o.type #[.slice none 0 0, yv]).run P w = .ok (.slice none 0 0) w := by
              rcases hsrc2.kind with ⟨e', hk⟩ | hk <;> simp [Builtin.append_, run_underlying hu, run_underlying hk, sizeOf, typeInfo, hi, hsrc2.len, hsrc2.cells]
            refine ⟨_, _, _, hrunv _ _ (by rw [hats tx htx, h7]; exact hrun), .inl rfl, fun j => if j = k then none else L j, I, ?_⟩
            have hself : (setO (s.kill [k]) k (.arr true (0 + 0) d.size (joinC 0 get get'))).o k = .arr true (0 + 0) d.size (joinC 0 get get') := by simp [setO, updO]
            have hother : ∀ j, j ≠ k → (setO (s.kill [k]) k (.arr true (0 + 0) d.size (joinC 0 get get'))).o j = (s.o j).kill [k] := fun j hj => by simp [setO, updO, killO, St.kill, hj]
            have hK : Keeps [k] L I w s.o (fun j => if j = k then none else L j) I w (setO (s.kill [k]) k (.arr true (0 + 0) d.size (joinC 0 get get'))).o := by
              refine ⟨fun b hb => ⟨hb, rfl⟩, fun j hj hg => ?_, fun j hj hg b x' C' e' hL hb => ⟨C', hb, rfl⟩⟩
              have hjk : j ≠ k := by rintro rfl; simp at hj
              rw [hother j hjk]
              exact ⟨by simp [hjk], AO.like_kill _ _ hg⟩
            have hst := hR.step [k] hK (fun j => j = k) (fun j hj => .inr ⟨by simp [hj], hother j hj, fun hg b x' hL => ⟨rfl, id⟩⟩)
              (fun j hj => by
                subst hj
                unfold ObjOk
                rw [hself]
                exact .inl ⟨by simp, rfl⟩)
              (fun j j' b x1 x2 hj hj' h1 h2 => by
                have e1 : j ≠ k := by rintro rfl; simp at h1
                have e2 : j' ≠ k := by rintro rfl; simp at h2
                rw [if_neg e1] at h1; rw [if_neg e2] at h2
                rw [hother j e1] at hj; rw [hother j' e2] at hj'
                exact hR.heap.inj j j' b x1 x2 (kill_ne_gone hj) (kill_ne_gone hj') h1 h2)
              hR.heap.imm hR.only hR.below (fun j b x' hj hL => by
                have e1 : j ≠ k := by rintro rfl; simp at hL
                rw [if_neg e1] at hL; rw [hother j e1] at hj
                exact hR.new j b x' (kill_ne_gone hj) hL)
            have hst2 : RelL w0 I0 (fun j => if j = k then none else L j) I (setO (s.kill [k]) k (.arr true (0 + 0) d.size (joinC 0 get get'))) a w := hst
            exact hst2.put o.dst (y := .slice none 0 0) ⟨true, 0 + 0, d.size, _, hself, .inl ⟨by simp, rfl, rfl, rfl, rfl⟩⟩
          split at hok
          · rename_i k off n0
            split at hok
            · rename_i m N sz0 get hk
              split at hok
              · rename_i hsz0
                obtain ⟨rfl, h1, h2, h3, h4, h5⟩ : n0 = N ∧ sz = d.size ∧ 0 < d.size ∧ 0 < d.bytes ∧ (zeroC d).length = d.size ∧ (N + n) * d.bytes ≤ 35184372088832 := hok
                have hsz0' : sz0 = d.size := by simpa using hsz0
                subst hsz0'
                obtain ⟨m', N', sz', get'', hk', hh⟩ := hx
                rw [hk] at hk'; injection hk' with e1 e2 e3 e4; subst e1; subst e2; subst e3; subst e4
                show OpDone P w0 I0 o a w (AM.put (setO (s.kill [k]) k (.arr true (n0 + n) d.size (joinC n0 get get'))) o.dst (.c (.os k 0 (n0 + n))))
                rcases hh with ⟨hL, rfl, _, _, hxe⟩ | ⟨b, base, cap, hL, hxe, h6, h7, C, e', hC, h8⟩
                · by_cases hn : n = 0
                  · exact nothing k get h1 h2 hxe hn
                  · exact grow k 0 get none 0 [] 0 h1 h2 h3 h4 h5 (by omega) hxe (by simp) (run_firstCells_none w.drew i.size 0 0 0) (fun q hq => absurd hq (by omega))
                · rcases hR.heap.arr k true n0 d.size get hk with ⟨h9, _⟩ | ⟨b', base', C', e'', h9, hnI, hC', hfit, hcell⟩
                  · rw [hL] at h9; cases h9
                  · rw [hL] at h9; injection h9 with h9; injection h9 with h9 h9'; subst h9; subst h9'
                    rw [hC] at hC'; injection hC' with hC'; injection hC' with g1 g2; subst g1; subst g2
                    rw [Nat.zero_mul, Nat.add_zero] at hxe
                    rw [Nat.zero_add] at h8
                    by_cases hroom : n0 + n ≤ cap
                    · obtain ⟨tx, news, htx, hsrc', hnews⟩ := src_rel hR.heap hT hy hst hsrc h1 h2
                      have hsrc2 : Src P i.size tx yv n news w := by rw [hi1]; exact hsrc'
                      have hcapm : (n0 + n) * d.size ≤ cap * d.size := Nat.mul_le_mul_right _ hroom
                      rw [Nat.add_mul] at hcapm
                      have hnl := hsrc'.newsLen
                      have hfit2 : base + n0 * d.size + news.length ≤ C.size := by rw [hnl]; omega
                      have hstc := run_storeCells_at P b (base + n0 * d.size) e' news 0 C w hC (by simpa using hfit2) hsrc'.one
                      simp only [Nat.add_zero] at hstc
                      have hgs := row_size C news _ hfit2
                      have hgg := row_get C news _ hfit2
                      revert hstc hgs hgg
                      generalize (C.toList.take (base + n0 * d.size) ++ news ++ C.toList.drop (base + n0 * d.size + news.length)).toArray = C2
                      intro hstc hgs hgg
                      have hrun : (Builtin.append_ #[t, tx] o.type #[.slice (some ⟨b, base, none⟩) n0 cap, yv]).run P w = .ok (.slice (some ⟨b, base, none⟩) (n0 + n) cap) (w.setRow b C2) := by
                        rcases hsrc2.kind with ⟨e3, hk3⟩ | hk3 <;> simp [Builtin.append_, run_underlying hu, run_underlying hk3, sizeOf, typeInfo, hi, hi1, hsrc2.len, hroom, addr_add, hstc] <;>
                          (have hcs := hsrc'.cells; simp [hcs, hstc])
                      refine ⟨_, _, _, hrunv _ _ (by rw [hats tx htx, hxe]; exact hrun), .inl rfl, L, I, ?_⟩
                      have hself : (setO (s.kill [k]) k (.arr true (n0 + n) d.size (joinC n0 get get'))).o k = .arr true (n0 + n) d.size (joinC n0 get get') := by simp [setO, updO]
                      have hother : ∀ j, j ≠ k → (setO (s.kill [k]) k (.arr true (n0 + n) d.size (joinC n0 get get'))).o j = (s.o j).kill [k] := fun j hj => by simp [setO, updO, killO, St.kill, hj]
                      have hnIb := hnI rfl
                      have hkg : s.o k ≠ .gone := by rw [hk]; simp
                      have hne : ∀ j b' x', j ≠ k → s.o j ≠ .gone → L j = some (b', x') → b' ≠ b := fun j b' x' hj hg hLj hbb => hj (hR.heap.inj j k b' x' base hg hkg hLj (by rw [hbb]; exact hL))
                      have hK : Keeps [k] L I w s.o L I (w.setRow b C2) (setO (s.kill [k]) k (.arr true (n0 + n) d.size (joinC n0 get get'))).o := by
                        refine ⟨fun b' hb => ⟨hb, setRow_other w b b' C2 (by rintro rfl; exact hnIb hb)⟩, fun j hj hg => ?_, fun j hj hg b' x' C' e3 hLj hb => ⟨C', ?_, rfl⟩⟩
                        · have hjk : j ≠ k := by rintro rfl; simp at hj
                          rw [hother j hjk]
                          exact ⟨rfl, AO.like_kill _ _ hg⟩
                        · have hjk : j ≠ k := by rintro rfl; simp at hj
                          rw [setRow_other w b b' C2 (hne j b' x' hjk hg hLj)]; exact hb
                      have hstp := hR.step [k] hK (fun j => j = k) (fun j hj => .inr ⟨by simp [hj], hother j hj, fun hg b' x' hLj => ⟨setRow_other w b b' C2 (hne j b' x' hj hg hLj), id⟩⟩)
                        (fun j hj => by
                          subst hj
                          unfold ObjOk
                          rw [hself]
                          refine .inr ⟨b, base, C2, e', hL, fun _ => hnIb, setRow_heap w b C C2 e' (0, 0) hC, by rw [hgs, Nat.add_mul]; omega, fun q hq jj hjj => ?_⟩
                          have hmulq : (q + 1) * d.size ≤ (n0 + n) * d.size := Nat.mul_le_mul_right _ hq
                          rw [Nat.add_mul, Nat.one_mul, Nat.add_mul] at hmulq
                          rw [hgg]
                          by_cases hqN : q < n0
                          · have hmul : (q + 1) * d.size ≤ n0 * d.size := Nat.mul_le_mul_right _ hqN
                            rw [Nat.add_mul, Nat.one_mul] at hmul
                            rw [if_neg (by omega)]
                            obtain ⟨u, hu', hr⟩ := hcell q hqN jj hjj
                            exact ⟨u, hu', by simp only [joinC, if_pos hqN]; exact hr.mono hK.imm⟩
                          · have hmul : n0 * d.size ≤ q * d.size := Nat.mul_le_mul_right _ (by omega)
                            rw [if_pos (by rw [hnl]; omega)]
                            obtain ⟨u, hu', hr⟩ := hnews (q - n0) (by omega) jj hjj
                            refine ⟨u, ?_, by simp only [joinC, if_neg hqN]; exact hr.mono hK.imm⟩
                            rw [← hu', Nat.sub_mul]
                            congr 1; omega)
                        (fun j j' b1 x1 x2 hj hj' h1 h2 => by
                          have f1 : s.o j ≠ .gone := by
                            by_cases e1 : j = k
                            · rw [e1]; exact hkg
                            · rw [hother j e1] at hj; exact kill_ne_gone hj
                          have f2 : s.o j' ≠ .gone := by
                            by_cases e1 : j' = k
                            · rw [e1]; exact hkg
                            · rw [hother j' e1] at hj'; exact kill_ne_gone hj'
                          exact hR.heap.inj j j' b1 x1 x2 f1 f2 h1 h2)
                        (fun b' hb => by have := hR.heap.imm b' hb; simp; omega) hR.only
                        (hR.below.trans ⟨rfl, rfl, rfl, by simp, fun k' hk' => setRow_other w b k' C2 (by have := hR.new k b base hkg hL; omega)⟩)
                        (fun j b' x' hj hLj => by
                          refine hR.new j b' x' ?_ hLj
                          by_cases e1 : j = k
                          · rw [e1]; exact hkg
                          · rw [hother j e1] at hj; exact kill_ne_gone hj)
                      have hst2 : RelL w0 I0 L I (setO (s.kill [k]) k (.arr true (n0 + n) d.size (joinC n0 get get'))) a (w.setRow b C2) := hstp
                      refine hst2.put o.dst (y := .slice (some ⟨b, base, none⟩) (n0 + n) cap) ⟨true, n0 + n, d.size, _, hself, .inr ⟨b, base, cap, hL, by simp, by omega, hroom, C2, e', setRow_heap w b C C2 e' (0, 0) hC, ?_⟩⟩
                      rw [Nat.zero_add, hgs]; exact h8
                    · have hcapm : n0 * d.size ≤ cap * d.size := Nat.mul_le_mul_right _ h7
                      have hol : ((C.toList.drop base).take (n0 * d.size)).length = n0 * d.size := by simp; omega
                      have hget0 : ∀ q, q < n0 * d.size → ((C.toList.drop base).take (n0 * d.size))[q]? = C[base + q]? := by
                        intro q hq
                        rw [List.getElem?_take, if_pos hq, List.getElem?_drop, Array.getElem?_toList]
                      refine grow k n0 get (some ⟨b, base, none⟩) cap ((C.toList.drop base).take (n0 * d.size)) 0 h1 h2 h3 h4 h5 (by omega) hxe hol ?_ (fun q hq j hj => ?_)
                      · refine run_firstCells_some w.drew i.size n0 ⟨b, base, none⟩ n0 cap _ (by rw [hol, hi1]) (fun j v hj => ?_)
                        have hlt : j < n0 * d.size := by have := (List.getElem?_eq_some_iff.1 hj).1; rwa [hol] at this
                        rw [hget0 j hlt] at hj
                        rw [addr_add]
                        have : w.drew.cell? ⟨b, base + j, none⟩ = w.cell? ⟨b, base + j, none⟩ := rfl
                        rw [this, cell_of hC]
                        exact hj
                      · have hmul : (q + 1) * d.size ≤ n0 * d.size := Nat.mul_le_mul_right _ hq
                        rw [Nat.add_mul, Nat.one_mul] at hmul
                        obtain ⟨u, hu', hr⟩ := hcell q hq j hj
                        exact ⟨u, by rw [hget0 _ (by omega)]; exact hu', hr⟩
              · exact hok.elim
            · exact hok.elim
          · rename_i n0 c0
            split at hok
            · obtain ⟨h1, h2, h3, h4, h5⟩ : sz = d.size ∧ 0 < d.size ∧ 0 < d.bytes ∧ (zeroC d).length = d.size ∧ (0 + n) * d.bytes ≤ 35184372088832 := hok
              have hxe : xv = .slice none 0 0 := hx.1
              show OpDone P w0 I0 o a w (AM.put (setO (s.kill [site o.dst]) (site o.dst) (.arr true (0 + n) d.size (joinC 0 (fun _ _ => .junk) get'))) o.dst (.c (.os (site o.dst) 0 (0 + n))))
              by_cases hn : n = 0
              · exact nothing (site o.dst) _ h1 h2 hxe hn
              · exact grow (site o.dst) 0 _ none 0 [] 0 h1 h2 h3 h4 h5 (by omega) hxe (by simp) (run_firstCells_none w.drew i.size 0 0 0) (fun q hq => absurd hq (by omega))
            · exact hok.elim
          · exact hok.elim
end
end Go.Proofs.Ytcfmllknnfoghaa.AM
