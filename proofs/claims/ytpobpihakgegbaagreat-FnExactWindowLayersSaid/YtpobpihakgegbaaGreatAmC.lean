/-
  THE ABSTRACT MACHINE, THIRD PART: calls. No condition.
-/
import Derived.Test.YtpobpihakgegbaaGreatAmB
import Derived.Laws.Cover3
namespace Go.Proofs.YtpobpihakgegbaaGreat.AM
open Go Go.Proofs Go.RowKit
set_option linter.unusedVariables false
set_option linter.unusedSimpArgs false
set_option maxRecDepth 100000

structure CallD where
 args : List AV
 o0 : List (Nat × AO)
 r : AV
 o1 : List (Nat × AO)
 fl : Bool
 σ : Ren := []
 τ : Ren := []
def Ole : AO → AO → Prop
 | .var l, .var l' => l = l'
 | .arr m rs n sz g, .arr m' rs' n' sz' g' => (m'.w = true → m.w = true) ∧ (∀ c, m' = .cap c → m = .cap c) ∧ (rs.all (rs'.contains ·) = true ∨ ∀ i, i < n → ∀ j, j < sz → ∀ k ∈ (g' i j).ref, k ∈ rs') ∧ n = n' ∧ sz = sz' ∧ ∀ i, i < n → ∀ j, j < sz → g i j = g' i j
 | _, _ => False
def lentR (σ : Ren) (o : Nat → AO) (args : List AV) : List Nat :=
 let R := (args.flatMap AV.refs).filter fun k => (σ.back k).isNone
 R ++ R.flatMap fun k => deepO (o k)
def AC.frz : AC → AC
 | .ow n sz g => .bs n sz fun i j => (g i j).cp
 | x => x
def AO.frz : AO → AO
 | .arr _ rs n sz get => .arr .ro rs n sz fun i j => (get i j).frz
 | x => x
def isVar : AO → Bool
 | .var _ => true
 | _ => false
def isArr : AO → Bool
 | .arr .. => true
 | _ => false
def frzL (o : Nat → AO) : List Nat → List (Nat × AO)
 | [] => []
 | k :: r => (k, (o k).frz) :: frzL o r
def consumed (d : CallD) : List Nat := d.σ.filterMap fun p => match lookO d.o1 p.1 with | .gone => some p.2 | _ => none
def newIds (d : CallD) : List Nat := d.τ.filterMap fun p => if p.1 % 2 = 0 then some p.2 else none
def callKills (o : Nat → AO) (args : List AV) (d : CallD) : List Nat := consumed d ++ newIds d ++ if d.fl then [] else (lentR d.σ o args).filter fun k => isVar (o k)
def renL (f : Nat → Option Nat) (τ : Ren) : List (Nat × AO) → List (Nat × AO)
 | [] => []
 | (k, x) :: r => match Ren.to τ k with
  | some q => (q, x.ren f) :: renL f τ r
  | none => renL f τ r
def callUpds (s : St) (args : List AV) (d : CallD) : List (Nat × AO) :=
 renL (Ren.to d.τ) d.τ d.o1 ++ if d.fl then [] else frzL (s.kill (callKills s.o args d)).o ((lentR d.σ s.o args).filter fun k => isArr (s.o k))
def callRes (s : St) (args : List AV) (d : CallD) : Res := ⟨True, d.r.ren (Ren.to d.τ), callKills s.o args d, callUpds s args d⟩
def keysOf (l : List (Nat × AO)) : List Nat := l.map (·.1)
def closedO (ks : List Nat) : List (Nat × AO) → Bool
 | [] => true
 | (_, x) :: r => ((deepO x).all fun k => ks.contains k) && closedO ks r
def nodupB : List Nat → Bool
 | [] => true
 | x :: r => !r.contains x && nodupB r
def likeB (o0 o1 : List (Nat × AO)) : List Nat → Prop
 | [] => True
 | k :: r => (k % 2 = 1 → (lookO o0 k).like (lookO o1 k)) ∧ likeB o0 o1 r
def gives0 (s : St) (σ : Ren) : List (Nat × AO) → Prop
 | [] => True
 | (k, x) :: r => (match Ren.to σ k with | some a => Ole (s.o a) (x.ren (Ren.to σ)) | none => False) ∧ gives0 s σ r
def rwO : List (Nat × AO) → Bool
 | [] => true
 | (_, .arr m _ _ _ _) :: r => m.w && rwO r
 | (_, .var _) :: r => rwO r
 | (_, .gone) :: r => false
structure Fits (s : St) (args : List AV) (d : CallD) : Prop where
 vals : AV.les (args.map (AV.map (AC.give (Ren.back d.σ) s.o))) d.args
 objs : gives0 s d.σ d.o0
 rw : rwO d.o0 = true
 keys : (keysOf d.o0 == d.σ.map (·.1) && nodupB (d.σ.map (·.1)) && nodupB (d.σ.map (·.2)) && (d.σ.map (·.1)).all (fun k => k % 2 == 1) && closedO (keysOf d.o0) d.o0) = true
 keys1 : (keysOf d.o1 == d.τ.map (·.1) && nodupB (d.τ.map (·.1)) && nodupB (d.τ.map (·.2)) && closedO (keysOf d.o1) d.o1 && rwO d.o1 && d.r.refs.all (fun k => (keysOf d.o1).contains k)) = true
 new : (d.τ.all fun p => (p.1 % 2 == 1 && Ren.to d.σ p.1 == some p.2) || (p.1 % 2 == 0 && p.2 % 2 == 0 && !(lentR d.σ s.o args).contains p.2)) = true
 like : likeB d.o0 d.o1 (keysOf d.o1)
 apart : ((lentR d.σ s.o args).all fun k => (Ren.back d.σ k).isNone && (isVar (s.o k) || isArr (s.o k))) = true
section
variable {P : Program} {T : TT} {w0 w w' : World} {I0 : Fr} {I I' : Nat → Prop} {L L' : Lay} {s : St} {a : Act} {o : Oper} {ob o' : Obs}

theorem op_any (hT : TOk P T) (hR : RelL w0 I0 L I s a w) (hok : (evalOp std T o s).ok) : OpDone P w0 I0 o a w ((evalOp std T o s).st o.dst s) := by
 cases ho : o.op with
 | move x => have := op_move (P := P) hR (x := x) (.inl ho); simpa [evalOp, ho, Res.give, Res.st, St.kill, updL] using this
 | assign x => have := op_move (P := P) hR (x := x) (.inr ho); simpa [evalOp, ho, Res.give, Res.st, St.kill, updL] using this
 | pick c x y => exact op_pick hR ho std hok
 | alloc e => exact op_alloc hT hR ho hok
 | box e x => exact op_box hR ho hok
 | build t ps => exact op_build hT hR ho hok
 | buildSlice t n ps => exact op_buildSlice hT hR ho hok
 | load t x => exact op_load hT hR ho hok
 | store t x y => exact op_store hT hR ho hok
 | nilCheck x => exact op_nilCheck hR ho hok
 | binOp op t x y t' => exact op_bin hT hR ho hok
 | unOp op t x => exact op_un hR ho hok
 | convert t t' x => exact op_convert hT hR ho hok
 | makeFunc fn f cs =>
  cases fn with
  | func g => exact op_makeFunc hR ho hok
  | _ => simp [evalOp, ho, Res.bad] at hok
 | slice t x lo hi mx => exact op_sliceS hT hR ho (op_slice3 hT hR ho) hok
 | fieldAddr t x f => exact op_fieldAddr hT hR ho hok
 | field t x f => exact op_field hT hR ho hok
 | indexAddr t x i => exact op_indexAddr hT hR ho hok
 | index t x i => exact op_index hT hR ho hok
 | extract x i => exact op_extract hR ho hok
 | call c => exact op_builtin hT hR ho (fun x y hc hxy h => op_append hT hR ho hc hxy h) hok
 | makeSlice t x y => exact op_make hT hR ho hok
 | _ => simp [evalOp, ho, Res.bad] at hok
end
section
variable {P : Program} {T : TT} {w0 w w' : World} {I0 : Fr} {I I' : Nat → Prop} {L L' : Lay} {s : St} {a : Act} {o : Oper} {ob o' : Obs}
def giveL (L : Lay) (σ : Ren) : Lay := fun id => match id with
 | .r k => (Ren.to σ k).bind fun a => L (.r a)
 | .s k i j => (Ren.to σ k).bind fun a => L (.s a i j)
def lentI (L : Lay) (I : Nat → Prop) (o : Nat → AO) (R : List Nat) (b : Nat) : Prop := I b ∨ ∃ id x, id.root ∈ R ∧ obj o id ≠ .gone ∧ L id = some (b, x)
theorem to_mem : ∀ (σ : Ren) (k a : Nat), Ren.to σ k = some a → (k, a) ∈ σ
 | [], k, a, h => by cases h
 | (p, q) :: r, k, a, h => by
  unfold Ren.to at h
  split at h
  ·rename_i hk; subst hk; injection h with h; subst h; exact List.mem_cons_self
  ·exact List.mem_cons_of_mem _ (to_mem r k a h)
theorem back_mem : ∀ (σ : Ren) (k a : Nat), Ren.back σ a = some k → (k, a) ∈ σ
 | [], k, a, h => by cases h
 | (p, q) :: r, k, a, h => by
  unfold Ren.back at h
  split at h
  ·rename_i hk; subst hk; injection h with h; subst h; exact List.mem_cons_self
  ·exact List.mem_cons_of_mem _ (back_mem r k a h)
theorem nodupB_spec : ∀ {l : List Nat}, nodupB l = true → l.Nodup
 | [], _ => List.nodup_nil
 | x :: r, h => by
  simp only [nodupB, Bool.and_eq_true, Bool.not_eq_true', List.contains_eq_mem, decide_eq_false_iff_not] at h
  exact List.nodup_cons.2 ⟨h.1, nodupB_spec h.2⟩
theorem mem_to : ∀ (σ : Ren) (k a : Nat), (σ.map (·.1)).Nodup → (k, a) ∈ σ → Ren.to σ k = some a
 | [], k, a, _, h => by cases h
 | (p, q) :: r, k, a, hn, h => by
  rw [List.map_cons, List.nodup_cons] at hn
  unfold Ren.to
  rcases List.mem_cons.1 h with h' | h'
  ·injection h' with h1 h2; subst h1; subst h2; simp
  ·have : k ≠ p := by rintro rfl; exact hn.1 (List.mem_map.2 ⟨_, h', rfl⟩)
   rw [if_neg this]
   exact mem_to r k a hn.2 h'
theorem mem_back : ∀ (σ : Ren) (k a : Nat), (σ.map (·.2)).Nodup → (k, a) ∈ σ → Ren.back σ a = some k
 | [], k, a, _, h => by cases h
 | (p, q) :: r, k, a, hn, h => by
  rw [List.map_cons, List.nodup_cons] at hn
  unfold Ren.back
  rcases List.mem_cons.1 h with h' | h'
  ·injection h' with h1 h2; subst h1; subst h2; simp
  ·have : a ≠ q := by rintro rfl; exact hn.1 (List.mem_map.2 ⟨_, h', rfl⟩)
   rw [if_neg this]
   exact mem_back r k a hn.2 h'
theorem lookO_mem : ∀ (l : List (Nat × AO)) (k : Nat), lookO l k ≠ .gone → (k, lookO l k) ∈ l
 | [], k, h => (h rfl).elim
 | (j, x) :: r, k, h => by
  unfold lookO at h ⊢
  split
  ·rename_i hk; subst hk; simp
  ·rename_i hk; rw [if_neg hk] at h; exact List.mem_cons_of_mem _ (lookO_mem r k h)
theorem ren_ow (f : Nat → Option Nat) (x : AC) : isOw (x.ren f) = isOw x := by
 cases x with
 | os k a b => simp only [AC.ren]; cases f k <;> rfl
 | ptr k a => simp only [AC.ren]; cases f k <;> rfl
 | ep k a b => simp only [AC.ren]; cases f k <;> rfl
 | _ => rfl
theorem ren_fix (f : Nat → Option Nat) : ∀ (x : AC), x.ref = [] → x.ren f = x := by
 intro x
 induction x with
 | fn g n caps ih =>
  intro h
  simp only [AC.ren]
  congr 1
  funext j
  by_cases hj : j < n
  ·rw [if_pos hj]
   simp only [AC.ref, List.flatMap_eq_nil_iff] at h
   exact ih j (h j (by simpa using hj))
  ·rw [if_neg hj]
 | os k a b => intro h; cases h
 | ptr k a => intro h; cases h
 | ep k a b => intro h; cases h
 | _ => intro _; rfl
theorem ren_ref (f : Nat → Option Nat) : ∀ (x : AC), ∀ k ∈ (x.ren f).ref, ∃ q ∈ x.ref, f q = some k := by
 intro x
 induction x with
 | fn g n caps ih =>
  intro k hk
  simp only [AC.ren, AC.ref, List.mem_flatMap] at hk ⊢
  obtain ⟨j, hj, hk⟩ := hk
  rw [if_pos (by simpa using hj)] at hk
  obtain ⟨q, hq, hf⟩ := ih j k hk
  exact ⟨q, ⟨j, hj, hq⟩, hf⟩
 | os q a b =>
  intro k hk
  simp only [AC.ren] at hk
  cases hf : f q with
  | none => rw [hf] at hk; cases hk
  | some z => rw [hf] at hk; simp only [AC.ref, List.mem_singleton] at hk ⊢; subst hk; exact ⟨q, rfl, hf⟩
 | ptr q a =>
  intro k hk
  simp only [AC.ren] at hk
  cases hf : f q with
  | none => rw [hf] at hk; cases hk
  | some z => rw [hf] at hk; simp only [AC.ref, List.mem_singleton] at hk ⊢; subst hk; exact ⟨q, rfl, hf⟩
 | ep q a b =>
  intro k hk
  simp only [AC.ren] at hk
  cases hf : f q with
  | none => rw [hf] at hk; cases hk
  | some z => rw [hf] at hk; simp only [AC.ref, List.mem_singleton] at hk ⊢; subst hk; exact ⟨q, rfl, hf⟩
 | _ => intro k hk; cases hk
theorem ren_same (f : Nat → Option Nat) : ∀ (x : AC), (∀ k ∈ x.ref, f k = some k) → x.ren f = x := by
 intro x
 induction x with
 | fn g n caps ih =>
  intro h
  simp only [AC.ren]
  congr 1
  funext j
  by_cases hj : j < n
  ·rw [if_pos hj]
   exact ih j fun k hk => h k (by simp only [AC.ref, List.mem_flatMap]; exact ⟨j, by simpa using hj, hk⟩)
  ·rw [if_neg hj]
 | os k a b => intro h; simp only [AC.ren, h k (by simp [AC.ref])]
 | ptr k a => intro h; simp only [AC.ren, h k (by simp [AC.ref])]
 | ep k a b => intro h; simp only [AC.ren, h k (by simp [AC.ref])]
 | _ => intro _; rfl
theorem Turn.ren (f : Nat → Option Nat) : Turn (AC.ren f) (fun rs => rs.filterMap f) (fun rs => rs.all fun k => f k == some k) :=
 ⟨rfl, fun rs h x hx => ren_same f x fun k hk => by simpa using List.all_eq_true.1 h k (hx k hk), ren_ow f, fun x rs h k hk => by
  obtain ⟨q, hq, hf⟩ := ren_ref f x k hk
  exact List.mem_filterMap.2 ⟨q, h q hq, hf⟩⟩
theorem RelC.mono (h : ∀ b, I b → I' b) : ∀ (x : AC) (y : Value), RelC L I w ob x y → RelC L I' w ob x y := by
 intro x
 induction x with
 | fn g n caps ih =>
  intro y hh
  obtain ⟨cs, h1, h2, h3⟩ := hh
  refine ⟨cs, h1, h2, fun j hj => ?_⟩
  obtain ⟨u, hu, hr⟩ := h3 j hj
  exact ⟨u, hu, ih j u hr⟩
 | bs n sz g => intro y hh; exact RelI.mono (fun b hb => ⟨h b hb, rfl⟩) _ _ hh
 | bp n g => intro y hh; exact RelI.mono (fun b hb => ⟨h b hb, rfl⟩) _ _ hh
 | _ => intro y hh; exact hh
theorem RelX.mono (h : ∀ b, I b → I' b) {id : Id} {i j : Nat} {x : AC} {y : Value} (hx : RelX L I w ob id i j x y) : RelX L I' w ob id i j x y := by
 unfold RelX at hx ⊢
 split
 ·exact hx
 ·rename_i hno
  split at hx
  ·exact (hno _ _ _ _ rfl rfl).elim
  ·exact RelC.mono h _ _ hx
structure Same (L : Lay) (o : Obs) (id : Id) (L' : Lay) (o' : Obs) (id' : Id) : Prop where
 lay : L' id' = L id
 like : (o id).like (o' id')
theorem Hdr.same {id id' : Id} (h : Same L ob id L' o' id') {off n : Nat} {y : Value} : Hdr L w ob id off n y → Hdr L' w o' id' off n y :=
 Hdr.step ⟨h.lay, h.like, fun b x C e _ hC => ⟨C, hC, rfl⟩⟩
theorem Same.refs {k q : Nat} (h : Same L ob (.r k) L' o' (.r q)) : (∀ off n y, Hdr L w ob (.r k) off n y → Hdr L' w o' (.r q) off n y) ∧ (∀ x y, RelC L I w ob (.ptr k x) y → RelC L' I' w o' (.ptr q x) y) ∧ (∀ i j y, RelC L I w ob (.ep k i j) y → RelC L' I' w o' (.ep q i j) y) := by
 obtain ⟨h1, h2⟩ := h
 refine ⟨fun off n y => Hdr.same ⟨h1, h2⟩, fun x y => ?_, fun i j y => ?_⟩
 ·rintro ⟨l, b, g1, g2, g3⟩
  rw [g1] at h2
  cases hb : o' (.r q) with
  | var l' => exact ⟨l', b, hb, by rw [h1]; exact g2, g3⟩
  | gone => rw [hb] at h2; exact h2.elim
  | arr => rw [hb] at h2; exact h2.elim
 ·rintro ⟨m, rs, n, sz, g, b, base, g1, g2, g3⟩
  rw [g1] at h2
  cases hb : o' (.r q) with
  | var l' => rw [hb] at h2; exact h2.elim
  | gone => rw [hb] at h2; exact h2.elim
  | arr m' rs' n' sz' g' =>
   rw [hb] at h2
   obtain ⟨rfl, rfl, _⟩ := h2
   exact ⟨m', rs', n, sz, g', b, base, hb, by rw [h1]; exact g2, g3⟩
theorem RelC.ren_fwd {f : Nat → Option Nat} (h : ∀ k q, f k = some q → Same L ob (.r k) L' o' (.r q)) :
  ∀ (x : AC) (y : Value), (∀ k ∈ x.ref, (f k).isSome) → RelC L I w ob x y → RelC L' I w o' (x.ren f) y := by
 intro x
 induction x with
 | fn g n caps ih =>
  intro y hr
  rintro ⟨cs, h1, h2, h3⟩
  refine ⟨cs, h1, h2, fun j hj => ?_⟩
  obtain ⟨u, hu, hrr⟩ := h3 j hj
  exact ⟨u, hu, by simp only [if_pos hj]; exact ih j u (fun k hk => hr k (by simp only [AC.ref, List.mem_flatMap]; exact ⟨j, by simpa using hj, hk⟩)) hrr⟩
 | os k a b =>
  intro y hr hh
  obtain ⟨q, hq⟩ := Option.isSome_iff_exists.1 (hr k (by simp [AC.ref]))
  simp only [AC.ren, hq]
  exact ((h k q hq).refs (I := I) (I' := I)).1 a b y hh
 | ptr k a =>
  intro y hr hh
  obtain ⟨q, hq⟩ := Option.isSome_iff_exists.1 (hr k (by simp [AC.ref]))
  simp only [AC.ren, hq]
  exact ((h k q hq).refs (w := w) (I := I)).2.1 a y hh
 | ep k a b =>
  intro y hr hh
  obtain ⟨q, hq⟩ := Option.isSome_iff_exists.1 (hr k (by simp [AC.ref]))
  simp only [AC.ren, hq]
  exact ((h k q hq).refs (w := w) (I := I)).2.2 a b y hh
 | _ => intro y _ hh; exact hh
theorem RelC.ren_bwd {f : Nat → Option Nat} (h : ∀ k q, f k = some q → Same L' o' (.r q) L ob (.r k)) :
  ∀ (x : AC) (y : Value), (∀ k ∈ x.ref, (f k).isSome) → RelC L' I w o' (x.ren f) y → RelC L I w ob x y := by
 intro x
 induction x with
 | fn g n caps ih =>
  intro y hr
  rintro ⟨cs, h1, h2, h3⟩
  refine ⟨cs, h1, h2, fun j hj => ?_⟩
  obtain ⟨u, hu, hrr⟩ := h3 j hj
  simp only [if_pos hj] at hrr
  exact ⟨u, hu, ih j u (fun k hk => hr k (by simp only [AC.ref, List.mem_flatMap]; exact ⟨j, by simpa using hj, hk⟩)) hrr⟩
 | os k a b =>
  intro y hr hh
  obtain ⟨q, hq⟩ := Option.isSome_iff_exists.1 (hr k (by simp [AC.ref]))
  simp only [AC.ren, hq] at hh
  exact ((h k q hq).refs (I := I) (I' := I)).1 a b y hh
 | ptr k a =>
  intro y hr hh
  obtain ⟨q, hq⟩ := Option.isSome_iff_exists.1 (hr k (by simp [AC.ref]))
  simp only [AC.ren, hq] at hh
  exact ((h k q hq).refs (w := w) (I := I)).2.1 a y hh
 | ep k a b =>
  intro y hr hh
  obtain ⟨q, hq⟩ := Option.isSome_iff_exists.1 (hr k (by simp [AC.ref]))
  simp only [AC.ren, hq] at hh
  exact ((h k q hq).refs (w := w) (I := I)).2.2 a b y hh
 | _ => intro y _ hh; exact hh
theorem lentIn_rel {R : List Nat} (hH : HRel L I w (obj s.o)) {k i j : Nat} (hk : k ∈ R) {x : AC} {y : Value} (h : RelX L I w (obj s.o) (.r k) i j x y) (hx : ∀ n sz g, x = .ow n sz g → obj s.o (.s k i j) = .arr .rw [] n sz fun i j => (g i j).cp) : RelI (lentI L I s.o R) w x.lentIn y := by
 have hmono : ∀ (x : AC) y, RelI I w x y → RelI (lentI L I s.o R) w x y := fun x y h => RelI.mono (fun b hb => ⟨.inl hb, rfl⟩) x y h
 cases x with
 | v x => exact h
 | bs n sz g => exact hmono _ _ h
 | bp n g => exact hmono _ _ h
 | junk => exact h
 | os => exact h.one'
 | ptr => exact h.one'
 | ep => exact h.one'
 | fn => exact h.one'
 | ow n sz g =>
  have hob := hx n sz g rfl
  obtain ⟨m, rs, N, sz', g', ho, hh⟩ := h
  rw [hob] at ho; injection ho with e1 e2 e3 e4 e5; subst e1; subst e2; subst e3; subst e4
  rcases hh with ⟨_, rfl, _, _, ⟨_, rfl⟩, _⟩ | ⟨b, base, cap, hL, rfl, h1, h2, _⟩ | ⟨hq1, hq2, _⟩
  ·exact ⟨_, 0, rfl, by omega, fun h => absurd h (by omega)⟩
  rotate_left
  ·omega
  ·obtain ⟨hO, hrs⟩ := hH.arr hob
   rcases hO with ⟨h3, _⟩ | ⟨b', base', C, e, h3, _, hC, _, hc⟩
   ·rw [hL] at h3; cases h3
   ·rw [hL] at h3; injection h3 with h3; injection h3 with h3 h3'; subst h3; subst h3'
    refine ⟨_, cap, rfl, by omega, fun hn => ⟨b, base + 0 * sz, rfl, .inr ⟨.s k i j, base, hk, by rw [hob]; simp, hL⟩, fun p hp q hq => ?_⟩⟩
    obtain ⟨u, hu, hr⟩ := hc p hp q hq
    refine ⟨u, by rw [cell_of hC, ← hu, Nat.zero_mul, Nat.add_zero], ?_⟩
    have h4 := hr.toC
    have h5 : RelI I w (g p q).cp u := RelC.toI _ _ (by have := hrs p hp q hq; exact List.eq_nil_iff_forall_not_mem.2 fun z hz => by simpa using this z hz) h4
    refine hmono _ _ ?_
    revert h5
    cases g p q <;> intro h5 <;> exact h5
theorem lentIn2_rel {R : List Nat} (hH : HRel L I w (obj s.o)) {k : Nat} (hk : k ∈ R) {off n : Nat} {y : Value} (h : Hdr L w (obj s.o) (.r k) off n y) :
  RelI (lentI L I s.o R) w (match s.o k with | .arr _ _ _ sz' get' => .bs n sz' fun i' j' => (get' (off + i') j').lentIn | _ => .junk) y := by
 have hone := h.one'
 obtain ⟨m, rs, N, sz, get, ho, hh⟩ := h
 have ho' : s.o k = .arr m rs N sz get := ho
 rw [ho']
 rcases hh with ⟨_, _, rfl, _, ⟨_, rfl⟩, _⟩ | ⟨b, base, cap, hL, rfl, h1, h2, _⟩ | ⟨_, rfl, _, _, cap, rfl⟩
 ·exact ⟨_, 0, rfl, by omega, fun h => absurd h (by omega)⟩
 rotate_left
 ·exact ⟨_, cap, rfl, by omega, fun h => absurd h (by omega)⟩
 ·obtain ⟨hO, hrs⟩ := hH.arr ho
  rcases hO with ⟨h3, _⟩ | ⟨b', base', C, e, h3, _, hC, _, hc⟩
  ·rw [hL] at h3; cases h3
  ·rw [hL] at h3; injection h3 with h3; injection h3 with h3 h3'; subst h3; subst h3'
   refine ⟨_, cap, rfl, by omega, fun hn => ⟨b, base + off * sz, rfl, .inr ⟨.r k, base, hk, by rw [ho]; simp, hL⟩, fun p hp q hq => ?_⟩⟩
   obtain ⟨u, hu, hr⟩ := hc (off + p) (by omega) q hq
   refine ⟨u, by rw [cell_of hC, ← hu, Nat.add_mul, Nat.add_assoc, Nat.add_assoc], lentIn_rel hH hk hr fun n' sz' g hg => ?_⟩
   simp only [obj, ho', if_pos (show off + p < N ∧ q < sz by omega), hg, subO']
theorem give_rel {R : List Nat} {σ : Ren} {oc : Obs} (hH : HRel L I w (obj s.o)) (hσ : ∀ k q, Ren.back σ k = some q → Same L (obj s.o) (.r k) (giveL L σ) oc (.r q)) : ∀ (x : AC) (y : Value), (∀ k ∈ x.ref, Ren.back σ k = none → k ∈ R ∧ ∀ q ∈ deepO (s.o k), q ∈ R) → RelC L I w (obj s.o) x y → RelC (giveL L σ) (lentI L I s.o R) w oc (x.give (Ren.back σ) s.o) y := by
 have hmono : ∀ (x : AC) y, RelI I w x y → RelI (lentI L I s.o R) w x y := fun x y h => RelI.mono (fun b hb => ⟨.inl hb, rfl⟩) x y h
 intro x
 induction x with
 | v x => intro y _ h; exact h
 | bs n sz g => intro y _ h; exact hmono _ _ h
 | bp n g => intro y _ h; exact hmono _ _ h
 | junk => intro y _ h; exact h
 | ow n sz g => intro y _ h; exact h
 | fn f n caps ih =>
  intro y hr h
  obtain ⟨cs, h1, h2, h3⟩ := h
  refine ⟨cs, h1, h2, fun j hj => ?_⟩
  obtain ⟨u, hu, hrr⟩ := h3 j hj
  refine ⟨u, hu, ?_⟩
  simp only [if_pos hj]
  exact ih j u (fun k hk => hr k (by simp only [AC.ref, List.mem_flatMap]; exact ⟨j, by simpa using hj, hk⟩)) hrr
 | os k off n =>
  intro y hr h
  simp only [AC.give]
  cases hb : Ren.back σ k with
  | some q => exact Hdr.same (hσ k q hb) h
  | none =>
   obtain ⟨hk, hd⟩ := hr k (by simp [AC.ref]) hb
   have hone := h.one'
   obtain ⟨m, rs, N, sz, get, ho, hh⟩ := h
   have ho' : s.o k = .arr m rs N sz get := ho
   simp only [ho'] at hd ⊢
   rcases hh with ⟨_, _, rfl, _, ⟨_, rfl⟩, _⟩ | ⟨b, base, cap, hL, rfl, h1, h2, _⟩ | ⟨_, rfl, _, _, cap, rfl⟩
   ·exact ⟨_, 0, rfl, by omega, fun h => absurd h (by omega)⟩
   rotate_left
   ·exact ⟨_, cap, rfl, by omega, fun h => absurd h (by omega)⟩
   ·obtain ⟨hO, hrs⟩ := hH.arr ho
    rcases hO with ⟨h3, _⟩ | ⟨b', base', C, e, h3, _, hC, _, hc⟩
    ·rw [hL] at h3; cases h3
    ·rw [hL] at h3; injection h3 with h3; injection h3 with h3 h3'; subst h3; subst h3'
     refine ⟨_, cap, rfl, by omega, fun hn => ⟨b, base + off * sz, rfl, .inr ⟨.r k, base, hk, by rw [ho]; simp, hL⟩, fun p hp q hq => ?_⟩⟩
     obtain ⟨u, hu, hrr⟩ := hc (off + p) (by omega) q hq
     refine ⟨u, by rw [cell_of hC, ← hu, Nat.add_mul, Nat.add_assoc, Nat.add_assoc], ?_⟩
     have hgen : ∀ x, get (off + p) q = x → (∀ a b c, x ≠ .os a b c) → RelI (lentI L I s.o R) w x.lentIn u := fun x hx hno => by
      rw [hx] at hrr
      refine lentIn_rel hH hk hrr fun n' sz' g hg => ?_
      simp only [obj, ho', if_pos (show off + p < N ∧ q < sz by omega), hx, hg, subO']
     simp only
     cases hg : get (off + p) q with
     | os k' off' n' =>
      rw [hg] at hrr
      have hk' := hrs (off + p) (by omega) q hq k' (by rw [hg]; simp [AC.ref])
      simp only [List.contains_eq_mem, hk', decide_true, if_true]
      exact lentIn2_rel hH (hd k' hk') hrr
     | _ => exact hgen _ hg (by intro a b c hh; cases hh)
 | ptr k off =>
  intro y hr h
  simp only [AC.give]
  cases hb : Ren.back σ k with
  | some q => exact (Same.refs (w := w) (I := I) (hσ k q hb)).2.1 off y h
  | none =>
   obtain ⟨hk, hd⟩ := hr k (by simp [AC.ref]) hb
   obtain ⟨l, b, ho, hL, rfl⟩ := h
   have ho' : s.o k = .var l := ho
   simp only [ho'] at hd ⊢
   obtain ⟨b', C, e, h3, _, hC, hsz, hc⟩ := hH.var ho
   rw [hL] at h3; injection h3 with h3; injection h3 with h3 h3'; subst h3
   refine ⟨b, off, rfl, .inr ⟨.r k, 0, hk, by rw [ho]; simp, hL⟩, fun j hj => ?_⟩
   have hlt : off + j < l.length := by omega
   obtain ⟨u, hu, hrr⟩ := hc (off + j) l[off + j] (by simp [hlt])
   refine ⟨u, by rw [cell_of hC]; exact hu, ?_⟩
   have e1 : l.getD (off + j) .junk = l[off + j] := by rw [List.getD_eq_getElem?_getD, List.getElem?_eq_getElem hlt]; rfl
   simp only
   rw [e1]
   have hmem : l[off + j] ∈ l := List.getElem_mem hlt
   revert hrr hmem
   generalize l[off + j] = x
   intro hrr hmem
   cases x with
   | os k' off' n' =>
    have hk' : k' ∈ l.flatMap AC.ref := List.mem_flatMap.2 ⟨_, hmem, by simp [AC.ref]⟩
    simp only [List.contains_eq_mem, hk', decide_true, if_true]
    exact lentIn2_rel hH (hd k' hk') hrr
   | v x => exact hrr
   | bs n sz g => exact hmono _ _ hrr
   | bp n g => exact hmono _ _ hrr
   | junk => exact hrr
   | ptr => exact hrr.one'
   | ep => exact hrr.one'
   | fn => exact hrr.one'
   | ow n sz g => exact hrr.one'
 | ep k i j =>
  intro y hr h
  simp only [AC.give]
  cases hb : Ren.back σ k with
  | some q => exact (Same.refs (w := w) (I := I) (hσ k q hb)).2.2 i j y h
  | none => exact h.one'
end
theorem Ole.like {x y : AO} (h : Ole x y) : x.like y := by
 cases x with
 | gone => exact h.elim
 | var l => cases y <;> first | exact h.elim | (have : l = _ := h; subst this; rfl)
 | arr m rs n sz g => cases y <;> first | exact h.elim | exact ⟨h.2.2.2.1, h.2.2.2.2.1, h.2.1⟩
theorem map_like {x : AO} {φ : AC → AC} {ψ : List Nat → List Nat} {χ : List Nat → Bool} (h : x ≠ .gone) : (x.map φ ψ χ).like x := by
 cases x with
 | gone => exact (h rfl).elim
 | var l => simp [AO.like, AO.map]
 | arr m rs n sz g => rw [AO.map_arr]; simp [AO.like]
theorem like_trans {x y z : AO} (h : x.like y) (h' : y.like z) : x.like z := by
 cases x with
 | gone => exact h.elim
 | var l => cases y <;> first | exact h.elim | (cases z <;> first | exact h'.elim | exact Eq.trans h h')
 | arr m rs n sz g =>
  cases y with
  | gone => exact h.elim
  | var => exact h.elim
  | arr => cases z <;> first | exact h'.elim | exact ⟨h.1.trans h'.1, h.2.1.trans h'.2.1, fun c hc => h.2.2 c (h'.2.2 c hc)⟩
theorem renmap {rs : List Nat} {m : Md} {n sz : Nat} {get : Nat → Nat → AC} {φ : AC → AC} {ψ : List Nat → List Nat} {χ : List Nat → Bool} (T : Turn φ ψ χ) (hrs : ∀ i, i < n → ∀ j, j < sz → ∀ k ∈ (get i j).ref, k ∈ rs) :
  ∃ rs' get', (AO.arr m rs n sz get).map φ ψ χ = .arr m rs' n sz get' ∧ (∀ i, i < n → ∀ j, j < sz → get' i j = φ (get i j)) ∧ (∀ i, i < n → ∀ j, j < sz → ∀ k ∈ (get' i j).ref, k ∈ rs') := by
 refine ⟨_, _, AO.map_arr, ?_, ?_⟩
 ·cases hχ : χ rs with
  | true => exact fun i hi j hj => (T.same rs hχ _ (hrs i hi j hj)).symm
  | false => exact fun i hi j hj => rfl
 ·cases hχ : χ rs with
  | true => exact fun i hi j hj => hrs i hi j hj
  | false => exact fun i hi j hj => T.rs _ _ (hrs i hi j hj)
section
variable {P : Program} {T : TT} {w0 w w' : World} {I0 : Fr} {I I' : Nat → Prop} {L L' : Lay} {s : St} {a : Act} {o : Oper} {ob o' : Obs}
structure Given (s : St) (σ : Ren) (o0 : List (Nat × AO)) (R : List Nat) : Prop where
 to : ∀ k, lookO o0 k ≠ .gone → ∃ a, Ren.to σ k = some a ∧ Ole (s.o a) ((lookO o0 k).ren (Ren.to σ))
 live : ∀ k a, Ren.to σ k = some a → lookO o0 k ≠ .gone
 inj : ∀ k k' a, Ren.to σ k = some a → Ren.to σ k' = some a → k = k'
 back : ∀ k a, Ren.back σ a = some k → Ren.to σ k = some a
 back' : ∀ k a, Ren.to σ k = some a → Ren.back σ a = some k
 closed : ∀ k, ∀ q ∈ deepO (lookO o0 k), (Ren.to σ q).isSome
 rw : ∀ k m rs n sz get, lookO o0 k = .arr m rs n sz get → m.w = true
 wf : ∀ k m rs n sz get, lookO o0 k = .arr m rs n sz get → ∀ i, i < n → ∀ j, j < sz → ∀ q ∈ (get i j).ref, q ∈ rs
 apart : ∀ k a, Ren.to σ k = some a → a ∉ R
 odd : ∀ k a, Ren.to σ k = some a → k % 2 = 1
theorem Given.same {σ : Ren} {o0 : List (Nat × AO)} {R : List Nat} (G : Given s σ o0 R) {k a : Nat} (h : Ren.to σ k = some a) : Same L (obj s.o) (.r a) (giveL L σ) (obj (lookO o0)) (.r k) := by
 obtain ⟨a', h1, h2⟩ := G.to k (G.live k a h)
 rw [h] at h1; injection h1 with h1; subst h1
 refine ⟨by simp [giveL, h], ?_⟩
 show (s.o a).like (lookO o0 k)
 exact like_trans h2.like (map_like (G.live k a h))
theorem Given.sub {σ : Ren} {o0 : List (Nat × AO)} {R : List Nat} (G : Given s σ o0 R) {k a : Nat} (h : Ren.to σ k = some a) (i j : Nat) : obj (lookO o0) (.s k i j) = obj s.o (.s a i j) := by
 obtain ⟨a', h1, h2⟩ := G.to k (G.live k a h)
 rw [h] at h1; injection h1 with h1; subst h1
 simp only [obj]
 cases hx : lookO o0 k with
 | gone => exact (G.live k a h hx).elim
 | var l =>
  rw [hx] at h2
  cases hs : s.o a with
  | gone => rfl
  | var l' => rfl
  | arr => rw [hs] at h2; exact h2.elim
 | arr m rs n sz get =>
  rw [hx] at h2
  obtain ⟨rs', get', e1, e2, _⟩ := renmap (Turn.ren (Ren.to σ)) (m := m) (G.wf k m rs n sz get hx)
  have e1' : (AO.arr m rs n sz get).ren (Ren.to σ) = .arr m rs' n sz get' := e1
  rw [e1'] at h2
  cases hs : s.o a with
  | gone => rw [hs] at h2; exact h2.elim
  | var l' => rw [hs] at h2; exact h2.elim
  | arr m0 rs0 n0 sz0 g0 =>
   rw [hs] at h2
   obtain ⟨_, _, _, rfl, rfl, hg⟩ := h2
   simp only
   split
   ·rename_i hlt
    rw [hg i hlt.1 j hlt.2, e2 i hlt.1 j hlt.2]
    cases hgx : get i j with
    | ow p q r => rw [ren_fix _ _ (by simp [AC.ref])]
    | _ =>
     have h1 := ren_ow (Ren.to σ) (get i j)
     rw [hgx] at h1
     rw [subO'_not h1]; rfl
   ·rfl
theorem Given.hrel {σ : Ren} {o0 : List (Nat × AO)} {R : List Nat} (G : Given s σ o0 R) (hH : HRel L I w (obj s.o)) : HRel (giveL L σ) (lentI L I s.o R) w (obj (lookO o0)) := by
 have hnl : ∀ id b x, (∃ k, Ren.to σ k = some id.root) → obj s.o id ≠ .gone → L id = some (b, x) → ¬ I b → ¬ lentI L I s.o R b := by
  rintro id b x ⟨k, hk⟩ hg hL hnI (h | ⟨id0, z, h1, h2, h3⟩)
  ·exact hnI h
  ·have := hH.inj id id0 b x z hg h2 hL h3
   subst this
   exact G.apart k _ hk h1
 have hbwd : ∀ (x : AC) (y : Value), (∀ k ∈ x.ref, (Ren.to σ k).isSome) → RelC L I w (obj s.o) (x.ren (Ren.to σ)) y → RelC (giveL L σ) (lentI L I s.o R) w (obj (lookO o0)) x y := fun x y hr h =>
  RelC.mono (fun b hb => .inl hb) x y (RelC.ren_bwd (fun k q hkq => G.same hkq) x y hr h)
 refine ⟨fun id => ?_, fun id id' b x x' hg hg' hL hL' => ?_, ?_, hH.glo.mono fun b hb => ⟨.inl hb, rfl⟩⟩
 ·cases id with
  | r k =>
   by_cases hlive : lookO o0 k = .gone
   ·unfold ObjOk; rw [show obj (lookO o0) (.r k) = _ from hlive]; trivial
   ·obtain ⟨a, ha, hO⟩ := G.to k hlive
    cases hx : lookO o0 k with
    | gone => exact (hlive hx).elim
    | var l =>
     rw [hx] at hO
     unfold ObjOk
     rw [show obj (lookO o0) (.r k) = _ from hx]
     cases hs : s.o a with
     | gone => rw [hs] at hO; exact hO.elim
     | arr => rw [hs] at hO; exact hO.elim
     | var l' =>
      rw [hs] at hO
      have hl : l' = l.map (AC.ren (Ren.to σ)) := hO
      obtain ⟨b, C, e, h1, h2, h3, h4, h5⟩ := hH.var (id := .r a) hs
      refine ⟨b, C, e, by simp [giveL, ha, h1], hnl (.r a) b 0 ⟨k, ha⟩ (by show s.o a ≠ .gone; rw [hs]; simp) h1 h2, h3, by rw [h4, hl]; simp, fun i x hx' => ?_⟩
      obtain ⟨u, hu, hr⟩ := h5 i (x.ren (Ren.to σ)) (by rw [hl, List.getElem?_map, hx']; rfl)
      exact ⟨u, hu, hbwd x u (fun q hq => G.closed k q (by rw [hx]; exact List.mem_flatMap.2 ⟨x, List.mem_of_getElem? hx', hq⟩)) hr⟩
    | arr m rs n sz get =>
     rw [hx] at hO
     have hwf := G.wf k m rs n sz get hx
     have hmw := G.rw k m rs n sz get hx
     obtain ⟨rs', get', e1, e2, _⟩ := renmap (Turn.ren (Ren.to σ)) (m := m) hwf
     have e1' : (AO.arr m rs n sz get).ren (Ren.to σ) = .arr m rs' n sz get' := e1
     rw [e1'] at hO
     unfold ObjOk
     rw [show obj (lookO o0) (.r k) = _ from hx]
     cases hs : s.o a with
     | gone => rw [hs] at hO; exact hO.elim
     | var l' => rw [hs] at hO; exact hO.elim
     | arr m0 rs0 n0 sz0 g0 =>
      rw [hs] at hO
      obtain ⟨hm, hmc, _, rfl, rfl, hg⟩ := hO
      obtain ⟨h1, h2⟩ := hH.arr (id := .r a) hs
      refine ⟨?_, hwf⟩
      rcases h1 with ⟨h3, h4, h5⟩ | ⟨b, base, C, e, h3, h4, h5, h6, h7⟩
      ·exact .inl ⟨by simp [giveL, ha, h3], h4, fun c hc => h5 c (hmc c hc)⟩
      ·refine .inr ⟨b, base, C, e, by simp [giveL, ha, h3], fun hw => hnl (.r a) b base ⟨k, ha⟩ (by show s.o a ≠ .gone; rw [hs]; simp) h3 (h4 (hm hw)), h5, h6, fun i hi j hj => ?_⟩
       obtain ⟨u, hu, hr⟩ := h7 i hi j hj
       refine ⟨u, hu, ?_⟩
       rw [hg i hi j hj, e2 i hi j hj] at hr
       cases hxo : isOw (get i j) with
       | false => exact RelX.of (hbwd _ _ (fun q hq => G.closed k q (by rw [hx]; exact hwf i hi j hj q hq)) hr.toC) hxo
       | true =>
        cases hgx : get i j with
        | ow p q r =>
         rw [hgx, ren_fix _ _ (by simp [AC.ref])] at hr
         refine Hdr.same (id := .s a i j) (id' := .s k i j) ⟨by simp [giveL, ha], ?_⟩ hr
         rw [G.sub ha]
         refine AO.like_refl _ ?_
         obtain ⟨_, _, _, _, _, ho, _⟩ := hr
         rw [ho]; simp
        | _ => rw [hgx] at hxo; cases hxo
  | s k i j =>
   by_cases hlive : obj (lookO o0) (.s k i j) = .gone
   ·unfold ObjOk; rw [hlive]; trivial
   ·obtain ⟨m, rs, n, sz, get, p, q, g, hk, _⟩ := obj_s hlive
    obtain ⟨a, ha, _⟩ := G.to k (by rw [hk]; simp)
    have hsub := G.sub ha i j
    rw [hsub] at hlive
    obtain ⟨m2, rs2, n2, sz2, get2, p2, q2, g2, _, _, _, _, h3⟩ := obj_s hlive
    obtain ⟨h4, h5⟩ := hH.arr h3
    unfold ObjOk
    rw [hsub, h3]
    refine ⟨?_, h5⟩
    rcases h4 with ⟨h6, h7⟩ | ⟨b, base, C, e, h6, h7, h8, h9, h10⟩
    ·exact .inl ⟨by simp [giveL, ha, h6], h7⟩
    ·refine .inr ⟨b, base, C, e, by simp [giveL, ha, h6], fun hw => hnl (.s a i j) b base ⟨k, ha⟩ hlive h6 (h7 hw), h8, h9, fun i' hi' j' hj' => ?_⟩
     obtain ⟨u, hu, hr⟩ := h10 i' hi' j' hj'
     refine ⟨u, hu, RelX.of ?_ (isOw_cp _)⟩
     have hnil : (g2 i' j').cp.ref = [] := List.eq_nil_iff_forall_not_mem.2 fun z hz => by simpa using h5 i' hi' j' hj' z hz
     exact RelC.mono (fun b hb => .inl hb) _ _ (RelI.toC _ _ (RelC.toI _ _ hnil hr.toC))
 ·have key : ∀ id b x, obj (lookO o0) id ≠ .gone → giveL L σ id = some (b, x) → ∃ a, Ren.to σ id.root = some a ∧ (match id with | .r k => L (.r a) = some (b, x) ∧ obj s.o (.r a) ≠ .gone | .s k i j => L (.s a i j) = some (b, x) ∧ obj s.o (.s a i j) ≠ .gone) := by
   intro id b x hg hL
   cases id with
   | r k =>
    obtain ⟨a, ha, hO⟩ := G.to k hg
    refine ⟨a, ha, by simpa [giveL, ha] using hL, ?_⟩
    intro hs
    have hs' : s.o a = .gone := hs
    rw [hs'] at hO; exact hO.elim
   | s k i j =>
    obtain ⟨m, rs, n, sz, get, p, q, g, hk, _⟩ := obj_s hg
    obtain ⟨a, ha, _⟩ := G.to k (by rw [hk]; simp)
    refine ⟨a, ha, by simpa [giveL, ha] using hL, ?_⟩
    rw [← G.sub ha i j]; exact hg
  obtain ⟨a1, h1, h2⟩ := key id b x hg hL
  obtain ⟨a2, h3, h4⟩ := key id' b x' hg' hL'
  cases id with
  | r k =>
   cases id' with
   | r k' =>
    have := hH.inj _ _ b x x' h2.2 h4.2 h2.1 h4.1
    injection this with this; subst this
    rw [G.inj k k' a1 h1 h3]
   | s k' i' j' => have := hH.inj _ _ b x x' h2.2 h4.2 h2.1 h4.1; cases this
  | s k i j =>
   cases id' with
   | r k' => have := hH.inj _ _ b x x' h2.2 h4.2 h2.1 h4.1; cases this
   | s k' i' j' =>
    have := hH.inj _ _ b x x' h2.2 h4.2 h2.1 h4.1
    injection this with e1 e2 e3; subst e1; subst e2; subst e3
    have e : k = k' := G.inj k k' a1 h1 h3
    rw [e]
 ·rintro b (hb | ⟨id, x, h1, h2, h3⟩)
  ·exact hH.imm b hb
  ·exact (hH.lt h2 h3).1
theorem Given.owned {σ : Ren} {o0 : List (Nat × AO)} {R : List Nat} (G : Given s σ o0 R) {b : Nat} (h : Owned (giveL L σ) (obj (lookO o0)) b) : ∃ id x k, Ren.to σ k = some id.root ∧ obj s.o id ≠ .gone ∧ L id = some (b, x) := by
 obtain ⟨id, x, hg, hL⟩ := h
 cases id with
 | r k =>
  obtain ⟨a, ha, hO⟩ := G.to k hg
  refine ⟨.r a, x, k, ha, ?_, by simpa [giveL, ha] using hL⟩
  intro hs
  have hs' : s.o a = .gone := hs
  rw [hs'] at hO; exact hO.elim
 | s k i j =>
  obtain ⟨m, rs, n, sz, get, p, q, g, hk, _⟩ := obj_s hg
  obtain ⟨a, ha, _⟩ := G.to k (by rw [hk]; simp)
  refine ⟨.s a i j, x, k, ha, by rw [← G.sub ha i j]; exact hg, by simpa [giveL, ha] using hL⟩
theorem lookO_nodup : ∀ (l : List (Nat × AO)) (k : Nat) (x : AO), (l.map (·.1)).Nodup → (k, x) ∈ l → lookO l k = x
 | [], k, x, _, h => by cases h
 | (j, y) :: r, k, x, hn, h => by
  rw [List.map_cons, List.nodup_cons] at hn
  unfold lookO
  rcases List.mem_cons.1 h with h' | h'
  ·injection h' with h1 h2; subst h1; subst h2; simp
  ·have : k ≠ j := by rintro rfl; exact hn.1 (List.mem_map.2 ⟨_, h', rfl⟩)
   rw [if_neg this]
   exact lookO_nodup r k x hn.2 h'
theorem gives0_mem : ∀ (l : List (Nat × AO)) {σ : Ren}, gives0 s σ l → ∀ k x, (k, x) ∈ l → ∃ a, Ren.to σ k = some a ∧ Ole (s.o a) (x.ren (Ren.to σ))
 | [], σ, _, k, x, h => by cases h
 | (j, y) :: r, σ, hh, k, x, h => by
  rcases List.mem_cons.1 h with h' | h'
  ·injection h' with h1 h2; subst h1; subst h2
   have h3 := hh.1
   cases ht : Ren.to σ k with
   | none => rw [ht] at h3; exact h3.elim
   | some a => rw [ht] at h3; exact ⟨a, rfl, h3⟩
  ·exact gives0_mem r hh.2 k x h'
theorem rwO_mem : ∀ (l : List (Nat × AO)), rwO l = true → ∀ k x, (k, x) ∈ l → x ≠ .gone ∧ ∀ m rs n sz get, x = .arr m rs n sz get → m.w = true
 | [], _, k, x, h => by cases h
 | (j, y) :: r, hh, k, x, h => by
  have hr : rwO r = true := by
   cases y <;> simp [rwO] at hh <;> first | exact hh | exact hh.2
  rcases List.mem_cons.1 h with h' | h'
  ·injection h' with h1 h2; subst h1; subst h2
   cases x with
   | gone => simp [rwO] at hh
   | var l => exact ⟨by simp, fun m rs n sz get he => by cases he⟩
   | arr m rs n sz g =>
    simp [rwO] at hh
    exact ⟨by simp, fun m' rs' n' sz' get' he => by injection he with e1; subst e1; exact hh.1⟩
  ·exact rwO_mem r hr k x h'
theorem wfO_mem : ∀ (l : List (Nat × AO)), wfO l → ∀ k m rs n sz get, (k, AO.arr m rs n sz get) ∈ l → ∀ i, i < n → ∀ j, j < sz → ∀ q ∈ (get i j).ref, q ∈ rs
 | [], _, k, m, rs, n, sz, get, h => by cases h
 | (j, y) :: r, hh, k, m, rs, n, sz, get, h => by
  have hr : wfO r := by
   cases y with
   | gone => exact hh
   | var l => exact hh
   | arr m rs n sz g => exact hh.2
  rcases List.mem_cons.1 h with h' | h'
  ·injection h' with h1 h2; subst h1; subst h2
   exact hh.1
  ·exact wfO_mem r hr k m rs n sz get h'
theorem closedO_mem : ∀ (ks : List Nat) (l : List (Nat × AO)), closedO ks l = true → ∀ k x, (k, x) ∈ l → ∀ q ∈ deepO x, q ∈ ks
 | ks, [], _, k, x, h => by cases h
 | ks, (j, y) :: r, hh, k, x, h => by
  simp only [closedO, Bool.and_eq_true] at hh
  rcases List.mem_cons.1 h with h' | h'
  ·injection h' with h1 h2; subst h1; subst h2
   intro q hq
   have := List.all_eq_true.1 hh.1 q hq
   simpa using this
  ·exact closedO_mem ks r hh.2 k x h'
theorem to_isSome : ∀ (σ : Ren) (k : Nat), k ∈ σ.map (·.1) → (Ren.to σ k).isSome
 | [], k, h => by simp at h
 | (p, q) :: r, k, h => by
  unfold Ren.to
  split
  ·rfl
  ·rename_i hk
   exact to_isSome r k (by rw [List.map_cons, List.mem_cons] at h; exact h.resolve_left hk)
theorem Fits.given {args : List AV} {d : CallD} (F : Fits s args d) (hwf : wfO d.o0) : Given s d.σ d.o0 (lentR d.σ s.o args) := by
 have hk := F.keys
 simp only [Bool.and_eq_true, beq_iff_eq] at hk
 obtain ⟨⟨⟨⟨k1, k2⟩, k3⟩, k4⟩, k5⟩ := hk
 have n1 := nodupB_spec k2
 have n2 := nodupB_spec k3
 have n0 : (d.o0.map (·.1)).Nodup := by have : keysOf d.o0 = d.o0.map (·.1) := rfl; rw [← this, k1]; exact n1
 have hmem : ∀ k a, Ren.to d.σ k = some a → (k, lookO d.o0 k) ∈ d.o0 := by
  intro k a h
  have h1 := to_mem _ _ _ h
  have h2 : k ∈ keysOf d.o0 := by rw [k1]; exact List.mem_map.2 ⟨_, h1, rfl⟩
  obtain ⟨⟨k', x⟩, h3, h4⟩ := List.mem_map.1 h2
  simp at h4; subst h4
  rw [lookO_nodup _ _ _ n0 h3]; exact h3
 refine ⟨fun k hg => gives0_mem _ F.objs k _ (lookO_mem _ _ hg), fun k a h => (rwO_mem _ F.rw _ _ (hmem k a h)).1, fun k k' a h h' => ?_, fun k a h => mem_to _ _ _ n1 (back_mem _ _ _ h), fun k a h => mem_back _ _ _ n2 (to_mem _ _ _ h), fun k q hq => ?_,
  fun k m rs n sz get h => (rwO_mem _ F.rw k _ (lookO_mem _ _ (by rw [h]; simp))).2 _ _ _ _ _ h, fun k m rs n sz get h => wfO_mem _ hwf k m rs n sz get (by rw [← h]; exact lookO_mem _ _ (by rw [h]; simp)), fun k a h hR => ?_, fun k a h => ?_⟩
 ·have e1 := mem_back _ _ _ n2 (to_mem _ _ _ h)
  have e2 := mem_back _ _ _ n2 (to_mem _ _ _ h')
  rw [e1] at e2; injection e2
 ·by_cases hg : lookO d.o0 k = .gone
  ·rw [hg] at hq; cases hq
  ·have := closedO_mem _ _ k5 k _ (lookO_mem _ _ hg) q hq
   rw [k1] at this
   exact to_isSome _ _ this
 ·have h1 := List.all_eq_true.1 F.apart a hR
  rw [mem_back _ _ _ n2 (to_mem _ _ _ h)] at h1
  simp at h1
 ·have := List.all_eq_true.1 k4 k (List.mem_map.2 ⟨_, to_mem _ _ _ h, rfl⟩)
  simpa using this
end
def idTo (k : Nat) : Id → Id
 | .r _ => .r k
 | .s _ i j => .s k i j
theorem idTo_root (k : Nat) (id : Id) : (idTo k id).root = k := by cases id <;> rfl
theorem idTo_inj {k : Nat} {id id' : Id} (h : idTo k id = idTo k id') (hr : id.root = id'.root) : id = id' := by
 cases id with
 | r q =>
  cases id' with
  | r q' => have e : q = q' := hr; rw [e]
  | s => cases h
 | s q i j =>
  cases id' with
  | r q' => cases h
  | s q' i' j' => have e : q = q' := hr; injection h with _ h1 h2; rw [e, h1, h2]
def backL (L L' : Lay) (τ : Ren) : Lay := fun id => match Ren.back τ id.root with
 | some k => L' (idTo k id)
 | none => L id
theorem renL_mem {f : Nat → Option Nat} {τ : Ren} : ∀ (l : List (Nat × AO)) (e : Nat × AO), e ∈ renL f τ l ↔ ∃ k x q, (k, x) ∈ l ∧ Ren.to τ k = some q ∧ e = (q, x.ren f)
 | [], e => by simp [renL]
 | (j, y) :: r, e => by
  have ih := renL_mem (f := f) (τ := τ) r e
  unfold renL
  cases hj : Ren.to τ j with
  | none =>
   simp only [ih]
   constructor
   ·rintro ⟨k, x, q, h1, h2, h3⟩; exact ⟨k, x, q, List.mem_cons_of_mem _ h1, h2, h3⟩
   ·rintro ⟨k, x, q, h1, h2, h3⟩
    rcases List.mem_cons.1 h1 with h4 | h4
    ·injection h4 with e1 e2; subst e1; rw [hj] at h2; cases h2
    ·exact ⟨k, x, q, h4, h2, h3⟩
  | some p =>
   simp only [List.mem_cons, ih]
   constructor
   ·rintro (h | ⟨k, x, q, h1, h2, h3⟩)
    ·exact ⟨j, y, p, .inl rfl, hj, h⟩
    ·exact ⟨k, x, q, .inr h1, h2, h3⟩
   ·rintro ⟨k, x, q, h1, h2, h3⟩
    rcases h1 with h4 | h4
    ·injection h4 with e1 e2; subst e1; subst e2; rw [hj] at h2; injection h2 with h2; subst h2; exact .inl h3
    ·exact .inr ⟨k, x, q, h4, h2, h3⟩
theorem frzL_mem {o : Nat → AO} : ∀ (l : List Nat) (e : Nat × AO), e ∈ frzL o l ↔ ∃ k ∈ l, e = (k, (o k).frz)
 | [], e => by simp [frzL]
 | k :: r, e => by simp [frzL, frzL_mem r e]
section
variable {P : Program} {T : TT} {w0 w w' : World} {I0 : Fr} {I I' : Nat → Prop} {L L' : Lay} {s : St} {a : Act} {o : Oper} {ob o' : Obs}
theorem flatC_rel {x : AC} {y : Value} (hf : x.flat) (h : RelC L I w ob x y) : RelC L I' w ob x y := by
 cases x <;> first | exact h | exact hf.elim
theorem flat1_rel {x : AV} {y : Value} (hf : x.flat1) (h : Rel1 (RelC L I w ob) x y) : Rel1 (RelC L I' w ob) x y := by
 cases x with
 | c x => exact flatC_rel hf h
 | agg l =>
  obtain ⟨ys, rfl, hs, hc⟩ := h
  refine ⟨ys, rfl, hs, fun i x hx => ?_⟩
  obtain ⟨u, hu, hr⟩ := hc i x hx
  exact ⟨u, hu, flatC_rel (hf x (List.mem_of_getElem? hx)) hr⟩
 | tup l => exact h.elim
 | any => exact h.elim
theorem flatV_rel {x : AV} {y : Value} (hf : x.flat) (h : RelV (RelC L I w ob) x y) : RelV (RelC L I' w ob) x y := by
 cases x with
 | c x => exact flat1_rel (x := .c x) hf h
 | agg l => exact flat1_rel (x := .agg l) hf h
 | tup l =>
  obtain ⟨ys, rfl, hs, hc⟩ := h
  refine ⟨ys, rfl, hs, fun i x hx => ?_⟩
  obtain ⟨u, hu, hr⟩ := hc i x hx
  exact ⟨u, hu, flat1_rel (hf x (List.mem_of_getElem? hx)) hr⟩
 | any => trivial
theorem flatO_mem : ∀ (l : List (Nat × AO)), flatO l → ∀ k x, (k, x) ∈ l → x.flat
 | [], _, k, x, h => by cases h
 | (j, y) :: r, hh, k, x, h => by
  rcases List.mem_cons.1 h with h' | h'
  ·injection h' with h1 h2; subst h1; subst h2; exact hh.1
  ·exact flatO_mem r hh.2 k x h'
theorem likeB_mem {o0 o1 : List (Nat × AO)} : ∀ (l : List Nat), likeB o0 o1 l → ∀ k ∈ l, k % 2 = 1 → (lookO o0 k).like (lookO o1 k)
 | [], _, k, h => by cases h
 | j :: r, hh, k, h => by
  rcases List.mem_cons.1 h with h' | h'
  ·subst h'; exact hh.1
  ·exact likeB_mem r hh.2 k h'
theorem RelV.ren_fwd {f : Nat → Option Nat} (h : ∀ k q, f k = some q → Same L ob (.r k) L' o' (.r q)) {x : AV} {y : Value} (hr : ∀ k ∈ x.refs, (f k).isSome) (hv : RelV (RelC L I w ob) x y) : RelV (RelC L' I w o') (x.ren f) y := by
 have h1 : ∀ (x : AV) (y : Value), (∀ k ∈ x.refs1, (f k).isSome) → Rel1 (RelC L I w ob) x y → Rel1 (RelC L' I w o') (x.map1 (AC.ren f)) y := by
  intro x y hr hv
  cases x with
  | c x => exact RelC.ren_fwd h x y hr hv
  | agg l =>
   obtain ⟨ys, rfl, hs, hc⟩ := hv
   refine ⟨ys, rfl, by simpa using hs, fun i x hx => ?_⟩
   simp only [List.getElem?_map, Option.map_eq_some_iff] at hx
   obtain ⟨x0, hx0, rfl⟩ := hx
   obtain ⟨u, hu, hrr⟩ := hc i x0 hx0
   exact ⟨u, hu, RelC.ren_fwd h x0 u (fun k hk => hr k (List.mem_flatMap.2 ⟨x0, List.mem_of_getElem? hx0, hk⟩)) hrr⟩
  | tup l => exact hv.elim
  | any => exact hv.elim
 cases x with
 | c x => exact h1 (.c x) y hr hv
 | agg l => exact h1 (.agg l) y hr hv
 | tup l =>
  obtain ⟨ys, rfl, hs, hc⟩ := hv
  refine ⟨ys, rfl, by simpa using hs, fun i x hx => ?_⟩
  simp only [List.getElem?_map, Option.map_eq_some_iff] at hx
  obtain ⟨x0, hx0, rfl⟩ := hx
  obtain ⟨u, hu, hrr⟩ := hc i x0 hx0
  exact ⟨u, hu, h1 x0 u (fun k hk => hr k (by simp only [AV.refs, List.mem_flatMap]; exact ⟨x0, List.mem_of_getElem? hx0, hk⟩)) hrr⟩
 | any => trivial
theorem frz_isOw (x : AC) : isOw x.frz = false := by cases x <;> rfl
theorem frz_ref (x : AC) : x.frz.ref = x.ref := by cases x <;> rfl
theorem RelL.called (hR : RelL w0 I0 L I s a w) {args : List AV} {d : CallD} (F : Fits s args d) (hwf : wfO d.o0) (hfl : d.fl = true → d.r.flat ∧ flatO d.o1) {v : Value}
  (hI1 : ∀ b, lentI L I s.o (lentR d.σ s.o args) b → I' b) (hI2 : ∀ b, I' b → b < w.heap.size → lentI L I s.o (lentR d.σ s.o args) b ∨ Owned (giveL L d.σ) (obj (lookO d.o0)) b)
  (hH : HRel L' I' w' (obj (lookO d.o1))) (hv : RelV (RelC L' I' w' (obj (lookO d.o1))) d.r v) (hkept : ∀ k, k % 2 = 1 → lookO d.o1 k ≠ .gone → L' (.r k) = giveL L d.σ (.r k) ∧ SameRow w w' (giveL L d.σ (.r k)))
  (hnew : ∀ id b x, obj (lookO d.o1) id ≠ .gone → L' id = some (b, x) → w.heap.size ≤ b ∨ Owned (giveL L d.σ) (obj (lookO d.o0)) b) (hbel : BelowE (Owned (giveL L d.σ) (obj (lookO d.o0))) w w') :
  ∃ L2 I2, RelL w0 I0 L2 I2 ⟨(s.kill (callRes s args d).kills).t, updL (callRes s args d).upds (s.kill (callRes s args d).kills).o⟩ a w' ∧ RelV (RelC L2 I2 w' (obj (updL (callRes s args d).upds (s.kill (callRes s args d).kills).o))) (callRes s args d).val v := by
 have G := F.given hwf
 obtain ⟨R, hRe⟩ : ∃ R, R = lentR d.σ s.o args := ⟨_, rfl⟩
 rw [← hRe] at G hI1 hI2
 -- names
 have hk1 := F.keys1
 simp only [Bool.and_eq_true, beq_iff_eq] at hk1
 obtain ⟨⟨⟨⟨⟨k1, k2⟩, k3⟩, k4⟩, k5⟩, k6⟩ := hk1
 have n1 := nodupB_spec k2
 have n2 := nodupB_spec k3
 have n0 : (d.o1.map (·.1)).Nodup := by have : keysOf d.o1 = d.o1.map (·.1) := rfl; rw [← this, k1]; exact n1
 have τmem : ∀ k q, Ren.to d.τ k = some q ↔ (k, q) ∈ d.τ := fun k q => ⟨to_mem _ _ _, mem_to _ _ _ n1⟩
 have τback : ∀ k q, Ren.back d.τ q = some k ↔ (k, q) ∈ d.τ := fun k q => ⟨back_mem _ _ _, mem_back _ _ _ n2⟩
 have τo1 : ∀ k q, (k, q) ∈ d.τ → (k, lookO d.o1 k) ∈ d.o1 ∧ lookO d.o1 k ≠ .gone := by
  intro k q h
  have h2 : k ∈ keysOf d.o1 := by rw [k1]; exact List.mem_map.2 ⟨_, h, rfl⟩
  obtain ⟨⟨k', x⟩, h3, h4⟩ := List.mem_map.1 h2
  simp at h4; subst h4
  have h5 := lookO_nodup _ _ _ n0 h3
  rw [h5]; exact ⟨h3, (rwO_mem _ k5 _ _ h3).1⟩
 have o1τ : ∀ k, lookO d.o1 k ≠ .gone → ∃ q, (k, q) ∈ d.τ := by
  intro k h
  have h2 : k ∈ keysOf d.o1 := List.mem_map.2 ⟨_, lookO_mem _ _ h, rfl⟩
  rw [k1] at h2
  obtain ⟨⟨k', q⟩, h3, h4⟩ := List.mem_map.1 h2
  simp at h4; subst h4
  exact ⟨q, h3⟩
 have hcl : ∀ k, ∀ q ∈ deepO (lookO d.o1 k), (Ren.to d.τ q).isSome := by
  intro k q hq
  by_cases hg : lookO d.o1 k = .gone
  ·rw [hg] at hq; cases hq
  ·have := closedO_mem _ _ k4 k _ (lookO_mem _ _ hg) q hq
   rw [k1] at this
   exact to_isSome _ _ this
 have hnw : ∀ k q, (k, q) ∈ d.τ → (k % 2 = 1 ∧ Ren.to d.σ k = some q) ∨ (k % 2 = 0 ∧ q % 2 = 0 ∧ q ∉ R) := by
  intro k q h
  have h1 := List.all_eq_true.1 F.new (k, q) h
  simp only [Bool.or_eq_true, Bool.and_eq_true, beq_iff_eq, Bool.not_eq_true', List.contains_eq_mem, decide_eq_false_iff_not, ← hRe] at h1
  rcases h1 with ⟨h1, h2⟩ | ⟨⟨h1, h2⟩, h3⟩
  ·exact .inl ⟨h1, h2⟩
  ·exact .inr ⟨h1, h2, h3⟩
 -- what ends
 obtain ⟨ks, hks⟩ : ∃ ks, ks = (callRes s args d).kills := ⟨_, rfl⟩
 have hksm : ∀ q, q ∈ ks ↔ (∃ k, (k, q) ∈ d.σ ∧ lookO d.o1 k = .gone) ∨ (∃ k, (k, q) ∈ d.τ ∧ k % 2 = 0) ∨ (d.fl = false ∧ q ∈ R ∧ isVar (s.o q) = true) := by
  intro q
  rw [hks]
  simp only [callRes, callKills, List.mem_append, consumed, newIds, List.mem_filterMap]
  constructor
  ·rintro ((⟨⟨k, z⟩, h1, h2⟩ | ⟨⟨k, z⟩, h1, h2⟩) | h)
   ·simp only at h2
    cases hg : lookO d.o1 k with
    | gone => rw [hg] at h2; injection h2 with h2; subst h2; exact .inl ⟨k, h1, hg⟩
    | var l => rw [hg] at h2; cases h2
    | arr => rw [hg] at h2; cases h2
   ·simp only at h2
    split at h2
    ·rename_i he; injection h2 with h2; subst h2; exact .inr (.inl ⟨k, h1, he⟩)
    ·cases h2
   ·split at h
    ·cases h
    ·rename_i hfalse
     rw [List.mem_filter, ← hRe] at h
     exact .inr (.inr ⟨by simpa using hfalse, h.1, h.2⟩)
  ·rintro (⟨k, h1, h2⟩ | ⟨k, h1, h2⟩ | ⟨h1, h2, h3⟩)
   ·exact .inl (.inl ⟨(k, q), h1, by simp only [h2]⟩)
   ·exact .inl (.inr ⟨(k, q), h1, by simp only [h2, if_true]⟩)
   ·right
    rw [if_neg (by rw [h1]; simp), List.mem_filter, ← hRe]
    exact ⟨h2, h3⟩
 rw [← hks]
 obtain ⟨o2, ho2⟩ : ∃ o2, o2 = updL (callRes s args d).upds (s.kill ks).o := ⟨_, rfl⟩
 rw [← ho2]
 have hko : (s.kill ks).o = killO ks s.o := by rw [kill_t]
 have hkt : (s.kill ks).t = s.t.map (AV.map (AC.kill ks)) := by rw [kill_t]; rfl
 have hRk : ∀ q ∈ R, isArr (s.o q) = true → q ∉ ks := by
  intro q hq ha hk
  rcases (hksm q).1 hk with ⟨k, h1, _⟩ | ⟨k, h1, h2⟩ | ⟨_, _, h3⟩
  ·exact G.apart k q (mem_to _ _ _ (by have := F.keys; simp only [Bool.and_eq_true] at this; exact nodupB_spec this.1.1.1.2) h1) hq
  ·rcases hnw k q h1 with ⟨h3, _⟩ | ⟨_, _, h3⟩
   ·omega
   ·exact h3 hq
  ·cases hs : s.o q with
   | gone => rw [hs] at ha; cases ha
   | var l => rw [hs] at ha; cases ha
   | arr => rw [hs] at h3; cases h3
 have hτR : ∀ k q, (k, q) ∈ d.τ → q ∉ R := by
  intro k q h hq
  rcases hnw k q h with ⟨_, h3⟩ | ⟨_, _, h3⟩
  ·exact G.apart k q h3 hq
  ·exact h3 hq
 have hupm : ∀ e : Nat × AO, e ∈ (callRes s args d).upds ↔ (∃ k q, (k, q) ∈ d.τ ∧ e = (q, (lookO d.o1 k).ren (Ren.to d.τ))) ∨ (d.fl = false ∧ ∃ q ∈ R, isArr (s.o q) = true ∧ e = (q, ((s.kill ks).o q).frz)) := by
  intro e
  simp only [callRes, callUpds, List.mem_append, renL_mem]
  constructor
  ·rintro (⟨k, x, q, h1, h2, h3⟩ | h)
   ·left
    refine ⟨k, q, to_mem _ _ _ h2, ?_⟩
    rw [lookO_nodup _ _ _ n0 h1]; exact h3
   ·right
    split at h
    ·cases h
    ·rename_i hfalse
     rw [frzL_mem] at h
     obtain ⟨q, hq, he⟩ := h
     rw [List.mem_filter, ← hRe] at hq
     refine ⟨by simpa using hfalse, q, hq.1, hq.2, ?_⟩
     rw [he, hks]; rfl
  ·rintro (⟨k, q, h1, h2⟩ | ⟨h1, q, h2, h3, h4⟩)
   ·exact .inl ⟨k, lookO d.o1 k, q, (τo1 k q h1).1, (τmem k q).2 h1, h2⟩
   ·right
    rw [if_neg (by rw [h1]; simp), frzL_mem]
    refine ⟨q, by rw [List.mem_filter, ← hRe]; exact ⟨h2, h3⟩, ?_⟩
    rw [h4, hks]; rfl
 have hoτ : ∀ k q, (k, q) ∈ d.τ → o2 q = (lookO d.o1 k).ren (Ren.to d.τ) := by
  intro k q h
  obtain ⟨e, he, h1, h2⟩ := updL_mem (callRes s args d).upds (s.kill ks).o q (List.mem_map.2 ⟨_, (hupm _).2 (.inl ⟨k, q, h, rfl⟩), rfl⟩)
  rw [ho2, h2]
  rcases (hupm e).1 he with ⟨k', q', h3, rfl⟩ | ⟨_, q', h3, _, rfl⟩
  ·simp at h1; subst h1
   have e1 := (τback k q).2 h
   have e2 := (τback k' q).2 h3
   rw [e1] at e2; injection e2 with e2; subst e2; rfl
  ·simp at h1; subst h1
   exact (hτR k q h h3).elim
 have hoR : ∀ q, d.fl = false → q ∈ R → isArr (s.o q) = true → o2 q = ((s.o q).kill ks).frz := by
  intro q hf hq ha
  obtain ⟨e, he, h1, h2⟩ := updL_mem (callRes s args d).upds (s.kill ks).o q (List.mem_map.2 ⟨_, (hupm _).2 (.inr ⟨hf, q, hq, ha, rfl⟩), rfl⟩)
  rw [ho2, h2]
  rcases (hupm e).1 he with ⟨k', q', h3, rfl⟩ | ⟨_, q', h3, _, rfl⟩
  ·simp at h1; subst h1
   exact (hτR k' q h3 hq).elim
  ·simp at h1; subst h1
   have := hRk q hq ha
   simp [hko, killO, this]
 have hoO : ∀ q, (∀ k, (k, q) ∉ d.τ) → ¬ (d.fl = false ∧ q ∈ R ∧ isArr (s.o q) = true) → o2 q = killO ks s.o q := by
  intro q h1 h2
  rw [ho2, updL_other, hko]
  intro hm
  obtain ⟨e, he, h3⟩ := List.mem_map.1 hm
  rcases (hupm e).1 he with ⟨k', q', h4, rfl⟩ | ⟨h5, q', h4, h6, rfl⟩
  ·simp at h3; subst h3; exact h1 k' h4
  ·simp at h3; subst h3; exact h2 ⟨h5, h4, h6⟩
 -- where things lie
 obtain ⟨L2, hL2⟩ : ∃ L2, L2 = backL L L' d.τ := ⟨_, rfl⟩
 have hL2τ : ∀ k q id, (k, q) ∈ d.τ → id.root = q → L2 id = L' (idTo k id) := fun k q id h hr => by rw [hL2]; simp only [backL, hr, (τback k q).2 h]
 have hL2o : ∀ id : Id, (∀ k, (k, id.root) ∉ d.τ) → L2 id = L id := fun id h => by
  rw [hL2]; simp only [backL]
  cases hb : Ren.back d.τ id.root with
  | none => rfl
  | some k => exact (h k ((τback k _).1 hb)).elim
 obtain ⟨I2, hI2e⟩ : ∃ I2 : Nat → Prop, I2 = if d.fl then I else I' := ⟨_, rfl⟩
 have hII2 : ∀ b, I b → I2 b := fun b hb => by
  rw [hI2e]
  split
  ·exact hb
  ·exact hI1 b (.inl hb)
 have hI2I : ∀ b, I2 b → I' b := fun b hb => by
  rw [hI2e] at hb
  split at hb
  ·exact hI1 b (.inl hb)
  ·exact hb
 -- blocks
 have hown : ∀ b, Owned (giveL L d.σ) (obj (lookO d.o0)) b → ∃ id x k, Ren.to d.σ k = some id.root ∧ obj s.o id ≠ .gone ∧ L id = some (b, x) := fun b h => G.owned h
 have hownI : ∀ b, Owned (giveL L d.σ) (obj (lookO d.o0)) b → ¬ lentI L I s.o R b := by
  intro b ⟨id, x, hg, hL⟩ hl
  have hc := G.hrel hR.heap
  have h0 := hc.ok id
  unfold ObjOk at h0
  cases hx : obj (lookO d.o0) id with
  | gone => exact hg hx
  | var l =>
   rw [hx] at h0
   obtain ⟨b', C, e, h1, h2, _⟩ := h0
   rw [hL] at h1; injection h1 with h1; injection h1 with h1 _; subst h1
   exact h2 hl
  | arr m rs n sz get =>
   rw [hx] at h0
   have hmw : m.w = true := by
    cases id with
    | r k => exact G.rw k _ _ _ _ _ hx
    | s k i j =>
     obtain ⟨_, _, _, _, _, _, _, _, _, _, _, _, h3⟩ := obj_s hg
     rw [h3] at hx; injection hx with e1; subst e1; rfl
   rcases h0.1 with ⟨h1, _⟩ | ⟨b', base, C, e, h1, h2, _⟩
   ·rw [hL] at h1; cases h1
   ·rw [hL] at h1; injection h1 with h1; injection h1 with h1 _; subst h1
    exact h2 hmw hl
 have hblk : ∀ (id : Id) b x, obj s.o id ≠ .gone → L id = some (b, x) → (∀ k, Ren.to d.σ k ≠ some id.root) → w'.heap[b]? = w.heap[b]? := by
  intro id b x hg hL hno
  refine hbel.block b (hR.heap.lt hg hL).1 fun hw => ?_
  obtain ⟨id0, z, k, h1, h2, h3⟩ := hown b hw
  have := hR.heap.inj id id0 b x z hg h2 hL h3
  subst this
  exact hno k h1
 have hσk : ∀ q, q ∉ ks → (∀ k, (k, q) ∉ d.τ) → ∀ k, Ren.to d.σ k ≠ some q := by
  intro q h1 h2 k h3
  by_cases hg : lookO d.o1 k = .gone
  ·exact h1 ((hksm q).2 (.inl ⟨k, to_mem _ _ _ h3, hg⟩))
  ·obtain ⟨q', hq'⟩ := o1τ k hg
   rcases hnw k q' hq' with ⟨_, h4⟩ | ⟨h4, _, _⟩
   ·rw [h3] at h4; injection h4 with h4; subst h4; exact h2 k hq'
   ·have := G.odd k q h3; omega
 -- what is kept
 have hkeep : ∀ q, q ∉ ks → s.o q ≠ .gone → Kept L w (obj s.o) (.r q) L2 w' (obj o2) (.r q) := by
  intro q hq hg
  by_cases hτ : ∃ k, (k, q) ∈ d.τ
  ·obtain ⟨k, hk⟩ := hτ
   rcases hnw k q hk with ⟨h1, h2⟩ | ⟨h1, _, _⟩
   ·obtain ⟨h3, h4⟩ := hkept k h1 (τo1 k q hk).2
    have hgl : giveL L d.σ (.r k) = L (.r q) := by simp [giveL, h2]
    refine ⟨?_, ?_, fun b x C e hL hC => ?_⟩
    ·rw [hL2τ k q (.r q) hk rfl]; show L' (.r k) = _; rw [h3, hgl]
    ·show (s.o q).like (o2 q)
     rw [hoτ k q hk]
     refine like_trans (G.same (L := L) h2).like (like_trans (likeB_mem _ F.like k ?_ h1) (AO.like_map _ _ _ _ (τo1 k q hk).2))
     exact List.mem_map.2 ⟨_, (τo1 k q hk).1, rfl⟩
    ·rw [hgl] at h4; exact h4 b x C e hL hC
   ·exact (hq ((hksm q).2 (.inr (.inl ⟨k, hk, h1⟩)))).elim
  ·have hτ' : ∀ k, (k, q) ∉ d.τ := fun k hk => hτ ⟨k, hk⟩
   refine ⟨hL2o (.r q) hτ', ?_, fun b x C e hL hC => ⟨C, by rw [hblk (.r q) b x hg hL (hσk q hq hτ')]; exact hC, rfl⟩⟩
   show (s.o q).like (o2 q)
   by_cases hf : d.fl = false ∧ q ∈ R ∧ isArr (s.o q) = true
   ·rw [hoR q hf.1 hf.2.1 hf.2.2]
    have h1 := AO.like_map (s.o q) (AC.kill ks) id (without ks) hg
    refine like_trans h1 ?_
    have ha := hf.2.2
    cases hs : s.o q with
    | gone => rw [hs] at ha; cases ha
    | var l => rw [hs] at ha; cases ha
    | arr m rs n sz g => rw [AO.kill, AO.map_arr]; simp [AO.frz, AO.like]
   ·rw [hoO q hτ' hf]
    simp only [killO]
    rw [if_neg (by simpa using hq)]
    exact AO.like_map _ _ _ _ hg
 have hK : Keeps ks L I w (obj s.o) L2 I2 w' (obj o2) := ⟨fun b hb => ⟨hII2 b hb, hbel.block b (hR.heap.imm b hb) fun hw => hownI b hw (.inl hb)⟩, fun k hk hg => hkeep k (by simpa using hk) hg⟩
 have M := hK.moves
 -- behind the call's names
 have hsame : ∀ k q, Ren.to d.τ k = some q → Same L' (obj (lookO d.o1)) (.r k) L2 (obj o2) (.r q) := by
  intro k q h
  have hm := (τmem k q).1 h
  refine ⟨hL2τ k q (.r q) hm rfl, ?_⟩
  show (lookO d.o1 k).like (o2 q)
  rw [hoτ k q hm]
  exact AO.like_map _ _ _ _ (τo1 k q hm).2
 have hfwd : ∀ (x : AC) (y : Value), (∀ k ∈ x.ref, (Ren.to d.τ k).isSome) → RelC L' I2 w' (obj (lookO d.o1)) x y → RelC L2 I2 w' (obj o2) (x.ren (Ren.to d.τ)) y := fun x y hr h => RelC.ren_fwd hsame x y hr h
 have hsubτ : ∀ k q i j, (k, q) ∈ d.τ → obj o2 (.s q i j) = obj (lookO d.o1) (.s k i j) := by
  intro k q i j h
  have h1 := hoτ k q h
  simp only [obj, h1]
  cases hx : lookO d.o1 k with
  | gone => rfl
  | var l => rfl
  | arr m rs n sz get =>
   have hwf1 := (hH.arr (id := .r k) hx).2
   obtain ⟨rs', get', e1, e2, _⟩ := renmap (Turn.ren (Ren.to d.τ)) (m := m) hwf1
   have e1' : (AO.arr m rs n sz get).ren (Ren.to d.τ) = .arr m rs' n sz get' := e1
   rw [e1']
   simp only
   split
   ·rename_i hlt
    rw [e2 i hlt.1 j hlt.2]
    cases hgx : get i j with
    | ow p q r => rw [ren_fix _ _ (by simp [AC.ref])]
    | _ =>
     have h2 := ren_ow (Ren.to d.τ) (get i j)
     rw [hgx] at h2
     rw [subO'_not h2]; rfl
   ·rfl
 have hImm : ∀ k q i j (x : AC) (y : Value), (k, q) ∈ d.τ → (∃ m rs n sz get, lookO d.o1 k = .arr m rs n sz get ∧ i < n ∧ j < sz ∧ x = get i j) ∨ (∃ l, lookO d.o1 k = .var l ∧ x ∈ l) → RelC L' I' w' (obj (lookO d.o1)) x y → RelC L' I2 w' (obj (lookO d.o1)) x y := by
  intro k q i j x y hm hx h
  rw [hI2e]
  split
  ·rename_i hf
   have hfo := flatO_mem _ (hfl hf).2 k _ (τo1 k q hm).1
   rcases hx with ⟨m, rs, n, sz, get, h1, h2, h3, rfl⟩ | ⟨l, h1, h2⟩
   ·rw [h1] at hfo; exact flatC_rel (hfo i h2 j h3) h
   ·rw [h1] at hfo; exact flatC_rel (hfo x h2) h
  ·exact h
 have hobjok : ∀ k q id, (k, q) ∈ d.τ → id.root = q → ObjOk L2 I2 w' (obj o2) id := by
  intro k q id hm hr
  cases id with
  | r q' =>
   have e : q' = q := hr
   subst e
   have h0 := hH.ok (.r k)
   unfold ObjOk at h0 ⊢
   rw [show obj o2 (.r q') = _ from hoτ k q' hm]
   rw [show obj (lookO d.o1) (.r k) = lookO d.o1 k from rfl] at h0
   rw [hL2τ k q' (.r q') hm rfl, show idTo k (.r q') = .r k from rfl]
   cases hx : lookO d.o1 k with
   | gone => exact ((τo1 k q' hm).2 hx).elim
   | var l =>
    rw [hx] at h0
    obtain ⟨b, C, e, h1, h2, h3, h4, h5⟩ := h0
    refine ⟨b, C, e, h1, fun hb => h2 (hI2I b hb), h3, by simpa using h4, fun i x hx' => ?_⟩
    simp only [List.getElem?_map, Option.map_eq_some_iff] at hx'
    obtain ⟨x0, hx0, rfl⟩ := hx'
    obtain ⟨u, hu, hrr⟩ := h5 i x0 hx0
    refine ⟨u, hu, hfwd x0 u (fun z hz => hcl k z (by rw [hx]; exact List.mem_flatMap.2 ⟨x0, List.mem_of_getElem? hx0, hz⟩)) (hImm k q' 0 0 x0 u hm (.inr ⟨l, hx, List.mem_of_getElem? hx0⟩) hrr)⟩
   | arr m rs n sz get =>
    rw [hx] at h0
    obtain ⟨h0, hwf1⟩ := h0
    obtain ⟨rs', get', e1, e2, e3⟩ := renmap (Turn.ren (Ren.to d.τ)) (m := m) hwf1
    have e1' : (AO.arr m rs n sz get).ren (Ren.to d.τ) = .arr m rs' n sz get' := e1
    rw [e1']
    refine ⟨?_, fun i hi j hj z hz => ?_⟩
    ·rcases h0 with h1 | ⟨b, base, C, e, h1, h2, h3, h4, h5⟩
     ·exact .inl h1
     ·refine .inr ⟨b, base, C, e, h1, fun hw hb => h2 hw (hI2I b hb), h3, h4, fun i hi j hj => ?_⟩
      obtain ⟨u, hu, hrr⟩ := h5 i hi j hj
      refine ⟨u, hu, ?_⟩
      rw [e2 i hi j hj]
      cases hxo : isOw (get i j) with
      | false => exact RelX.of (hfwd _ _ (fun z hz => hcl k z (by rw [hx]; exact hwf1 i hi j hj z hz)) (hImm k q' i j _ u hm (.inl ⟨m, rs, n, sz, get, hx, hi, hj, rfl⟩) hrr.toC)) (by rw [ren_ow]; exact hxo)
      | true =>
       cases hgx : get i j with
       | ow p z r =>
        rw [hgx] at hrr
        rw [ren_fix _ _ (by simp [AC.ref])]
        refine Hdr.same (id := .s k i j) (id' := .s q' i j) ⟨hL2τ k q' (.s q' i j) hm rfl, ?_⟩ hrr
        rw [hsubτ k q' i j hm]
        refine AO.like_refl _ ?_
        obtain ⟨_, _, _, _, _, ho, _⟩ := hrr
        rw [ho]; simp
       | _ => rw [hgx] at hxo; cases hxo
    ·exact e3 i hi j hj z hz
  | s q' i j =>
   have e : q' = q := hr
   subst e
   have h0 := hH.ok (.s k i j)
   by_cases hg : obj (lookO d.o1) (.s k i j) = .gone
   ·unfold ObjOk; rw [hsubτ k q' i j hm, hg]; trivial
   ·obtain ⟨m, rs, n, sz, get, p, z, g, h1, h2, h3, h4, h5⟩ := obj_s hg
    obtain ⟨h6, h7⟩ := hH.arr h5
    unfold ObjOk
    rw [hsubτ k q' i j hm, h5, hL2τ k q' (.s q' i j) hm rfl, show idTo k (.s q' i j) = .s k i j from rfl]
    refine ⟨?_, h7⟩
    rcases h6 with h8 | ⟨b, base, C, e, h8, h9, h10, h11, h12⟩
    ·exact .inl h8
    ·refine .inr ⟨b, base, C, e, h8, fun hw hb => h9 hw (hI2I b hb), h10, h11, fun i' hi' j' hj' => ?_⟩
     obtain ⟨u, hu, hrr⟩ := h12 i' hi' j' hj'
     refine ⟨u, hu, RelX.of ?_ (isOw_cp _)⟩
     have hnil : (g i' j').cp.ref = [] := List.eq_nil_iff_forall_not_mem.2 fun z hz => by simpa using h7 i' hi' j' hj' z hz
     have h13 : RelC L' I2 w' (obj (lookO d.o1)) (g i' j').cp u := by
      rw [hI2e]
      split
      ·rename_i hf
       have hfo := flatO_mem _ (hfl hf).2 k _ (τo1 k q' hm).1
       rw [h1] at hfo
       have hfx := hfo i h2 j h3
       rw [h4] at hfx
       obtain ⟨xv, hxv⟩ := hfx i' hi' j' hj'
       rw [hxv] at hrr ⊢
       exact hrr.toC
      ·exact hrr.toC
     exact RelI.toC _ _ (RelC.toI _ _ hnil h13)
 have hfroz : ∀ q id, d.fl = false → q ∈ R → isArr (s.o q) = true → id.root = q → ObjOk L2 I2 w' (obj o2) id := by
  intro q id hf hq ha hr
  have hτ' : ∀ k, (k, q) ∉ d.τ := fun k hk => hτR k q hk hq
  have hqk := hRk q hq ha
  have hno : ∀ k, Ren.to d.σ k ≠ some q := fun k hk => G.apart k q hk hq
  cases hs : s.o q with
  | gone => rw [hs] at ha; cases ha
  | var l => rw [hs] at ha; cases ha
  | arr m rs n sz get =>
   have hor := hoR q hf hq ha
   rw [hs] at hor
   obtain ⟨h0, hwf1⟩ := hR.heap.arr (id := .r q) hs
   obtain ⟨rs', get', e1, e2, e3⟩ := renmap (Turn.kill ks) (m := m) hwf1
   have e1' : (AO.arr m rs n sz get).kill ks = .arr m rs' n sz get' := e1
   rw [e1'] at hor
   have hor' : o2 q = .arr .ro rs' n sz fun i j => (get' i j).frz := hor
   cases id with
   | s q' i j =>
    have e : q' = q := hr
    subst e
    unfold ObjOk
    have : obj o2 (.s q' i j) = .gone := AO.bare_gone (by rw [hor']; intro i _ j _; exact frz_isOw _)
    rw [this]; trivial
   | r q' =>
    have e : q' = q := hr
    subst e
    unfold ObjOk
    rw [show obj o2 (.r q') = _ from hor', hL2o (.r q') hτ']
    refine ⟨?_, fun i hi j hj z hz => ?_⟩
    ·rcases h0 with ⟨h1, h2, h3⟩ | ⟨b, base, C, e, h1, h2, h3, h4, h5⟩
     ·exact .inl ⟨h1, h2, fun c hc => by cases hc⟩
     ·refine .inr ⟨b, base, C, e, h1, (fun hw => by cases hw), by rw [hblk (.r q') b base (by show s.o q' ≠ .gone; rw [hs]; simp) h1 hno]; exact h3, h4, fun i hi j hj => ?_⟩
      obtain ⟨u, hu, hrr⟩ := h5 i hi j hj
      refine ⟨u, hu, RelX.of ?_ (frz_isOw _)⟩
      simp only
      rw [e2 i hi j hj]
      cases hxo : isOw (get i j) with
      | false =>
       have h6 := M _ _ hrr.toC
       have h7 := isOw_kill ks (get i j)
       rw [hxo] at h7
       revert h6 h7
       generalize (get i j).kill ks = x
       intro h6 h7
       cases x <;> first | exact h6 | cases h7
      | true =>
       cases hgx : get i j with
       | ow p z g =>
        rw [hgx] at hrr
        show RelI I2 w' (.bs p z fun i j => (g i j).cp) u
        have hsub : obj s.o (.s q' i j) = .arr .rw [] p z fun i j => (g i j).cp := by simp only [obj, hs, if_pos (show i < n ∧ j < sz from ⟨hi, hj⟩), hgx, subO']
        obtain ⟨m2, rs2, N2, sz2, get2, ho, hh⟩ := hrr
        rw [hsub] at ho; injection ho with e1 e2 e3 e4 e5; subst e1; subst e2; subst e3; subst e4
        rcases hh with ⟨_, rfl, _, _, ⟨_, rfl⟩, _⟩ | ⟨b2, base2, cap, hLs, rfl, g1, g2, _⟩ | ⟨hq1, hq2, _⟩
        ·exact ⟨_, 0, rfl, by omega, fun h => absurd h (by omega)⟩
        rotate_left
        ·omega
        ·obtain ⟨h8, h9⟩ := hR.heap.arr hsub
         rcases h8 with ⟨h8, _⟩ | ⟨b3, base3, C3, e3', h8, _, hC3, _, hc3⟩
         ·rw [hLs] at h8; cases h8
         ·rw [hLs] at h8; injection h8 with h8; injection h8 with h8 h8'; subst h8; subst h8'
          have hlive : obj s.o (.s q' i j) ≠ .gone := by rw [hsub]; simp
          have hC3' : w'.heap[b2]? = some (.cells C3 (eT e3') (frz e3' C3)) := by rw [hblk (.s q' i j) b2 base2 hlive hLs hno]; exact hC3
          refine ⟨_, cap, rfl, by omega, fun hn => ⟨b2, base2 + 0 * z, rfl, ?_, fun p' hp' j' hj' => ?_⟩⟩
          ·rw [hI2e, if_neg (by rw [hf]; simp)]
           exact hI1 b2 (.inr ⟨.s q' i j, base2, hq, hlive, hLs⟩)
          ·obtain ⟨u', hu', hr'⟩ := hc3 p' hp' j' hj'
           refine ⟨u', by rw [cell_of hC3', ← hu', Nat.zero_mul, Nat.add_zero], ?_⟩
           have hnil : (g p' j').cp.ref = [] := List.eq_nil_iff_forall_not_mem.2 fun z hz => by simpa using h9 p' hp' j' hj' z hz
           exact RelI.mono hK.imm _ _ (RelC.toI _ _ hnil hr'.toC)
       | _ => rw [hgx] at hxo; cases hxo
    ·simp only at hz
     rw [frz_ref] at hz
     exact e3 i hi j hj z hz
 -- who is alive
 have hlive : ∀ id : Id, obj o2 id ≠ .gone → (∃ k, (k, id.root) ∈ d.τ ∧ obj (lookO d.o1) (idTo k id) ≠ .gone ∧ L2 id = L' (idTo k id)) ∨ ((∀ k, (k, id.root) ∉ d.τ) ∧ obj s.o id ≠ .gone ∧ L2 id = L id ∧ id.root ∉ ks) := by
  intro id hg
  by_cases hτ : ∃ k, (k, id.root) ∈ d.τ
  ·obtain ⟨k, hk⟩ := hτ
   refine .inl ⟨k, hk, ?_, hL2τ k _ id hk rfl⟩
   cases id with
   | r q => exact (τo1 k q hk).2
   | s q i j => rw [hsubτ k q i j hk] at hg; exact hg
  ·have hτ' : ∀ k, (k, id.root) ∉ d.τ := fun k hk => hτ ⟨k, hk⟩
   have hnk : id.root ∉ ks := by
    intro hk
    apply hg
    have : o2 id.root = .gone := by
     by_cases hf : d.fl = false ∧ id.root ∈ R ∧ isArr (s.o id.root) = true
     ·exact (hRk _ hf.2.1 hf.2.2 hk).elim
     ·rw [hoO _ hτ' hf]; simp [killO, hk]
    cases id with
    | r q => exact this
    | s q i j => simp only [obj]; rw [show o2 q = .gone from this]
   refine .inr ⟨hτ', ?_, hL2o id hτ', hnk⟩
   by_cases hf : d.fl = false ∧ id.root ∈ R ∧ isArr (s.o id.root) = true
   ·have hor := hoR _ hf.1 hf.2.1 hf.2.2
    cases id with
    | r q =>
     intro hs
     have h1 := hf.2.2
     have hs' : s.o q = .gone := hs
     rw [show s.o (Id.r q).root = _ from hs'] at h1; cases h1
    | s q i j =>
     exfalso; apply hg
     refine AO.bare_gone ?_
     rw [show o2 q = _ from hor]
     show ((s.o q).kill ks).frz.bare
     cases hs : (s.o q).kill ks with
     | gone => trivial
     | var l => trivial
     | arr m rs n sz g => intro i _ j _; exact frz_isOw _
   ·have hoo := hoO _ hτ' hf
    simp only [killO] at hoo
    rw [if_neg (by simpa using hnk)] at hoo
    cases id with
    | r q =>
     have h1 : o2 q ≠ .gone := hg
     rw [show o2 q = _ from hoo] at h1
     exact AO.map_gone h1
    | s q i j =>
     rw [obj_map (Turn.kill ks) (show o2 q = (s.o q).map (AC.kill ks) id (without ks) from hoo) i j] at hg
     exact hg
 have hL'own : ∀ (id : Id) b x, obj (lookO d.o1) id ≠ .gone → L' id = some (b, x) → ∀ id0 z, obj s.o id0 ≠ .gone → L id0 = some (b, z) → (∀ k, (k, id0.root) ∉ d.τ) → id0.root ∉ ks → False := by
  intro id b x hg hL id0 z hg0 hL0 h1 h2
  rcases hnew id b x hg hL with h3 | h3
  ·have := (hR.heap.lt hg0 hL0).1; omega
  ·obtain ⟨id1, z1, k, h4, h5, h6⟩ := hown b h3
   have := hR.heap.inj id0 id1 b z z1 hg0 h5 hL0 h6
   subst this
   exact hσk _ h2 h1 k h4
 have hst := hR.step (Turn.kill ks) M (o' := o2) (fun q => (∃ k, (k, q) ∈ d.τ) ∨ (d.fl = false ∧ q ∈ R ∧ isArr (s.o q) = true))
  (fun q hq => by
   rw [not_or] at hq
   have hτ' : ∀ k, (k, q) ∉ d.τ := fun k hk => hq.1 ⟨k, hk⟩
   have hoo := hoO q hτ' hq.2
   by_cases hqk : q ∈ ks
   ·left; rw [hoo]; simp [killO, hqk]
   ·right
    simp only [killO] at hoo
    rw [if_neg (by simpa using hqk)] at hoo
    refine ⟨hoo, fun id hr hg => ⟨hL2o id (by rw [hr]; exact hτ'), fun b x hL => ⟨hblk id b x hg hL (by rw [hr]; exact hσk q hqk hτ'), fun hnI hI2b => ?_⟩⟩⟩
    rw [hI2e] at hI2b
    split at hI2b
    ·exact hnI hI2b
    ·rename_i hf
     have hf' : d.fl = false := by simpa using hf
     rcases hI2 b hI2b (hR.heap.lt hg hL).1 with h1 | h1
     ·rcases h1 with h1 | ⟨id0, z, h2, h3, h4⟩
      ·exact hnI h1
      ·have := hR.heap.inj id id0 b x z hg h3 hL h4
       subst this
       rw [hr] at h2
       have hap := List.all_eq_true.1 F.apart q (by rw [← hRe]; exact h2)
       simp only [Bool.and_eq_true, Bool.or_eq_true] at hap
       rcases hap.2 with h5 | h5
       ·exact hqk ((hksm q).2 (.inr (.inr ⟨hf', h2, h5⟩)))
       ·exact hq.2 ⟨hf', h2, h5⟩
     ·obtain ⟨id1, z1, k, h4, h5, h6⟩ := hown b h1
      have := hR.heap.inj id id1 b x z1 hg h5 hL h6
      subst this
      exact hσk _ (by rw [hr]; exact hqk) (by rw [hr]; exact hτ') k h4)
  (fun q hq id hr => by
   rcases hq with ⟨k, hk⟩ | ⟨h1, h2, h3⟩
   ·exact hobjok k q id hk hr
   ·exact hfroz q id h1 h2 h3 hr)
  (fun id id' b x x' hg hg' hL hL' => by
   rcases hlive id hg with ⟨k, h1, h2, h3⟩ | ⟨h1, h2, h3, h4⟩
   ·rcases hlive id' hg' with ⟨k', g1, g2, g3⟩ | ⟨g1, g2, g3, g4⟩
    ·rw [h3] at hL; rw [g3] at hL'
     have he := hH.inj _ _ b x x' h2 g2 hL hL'
     have hkk : k = k' := by have := congrArg Id.root he; rwa [idTo_root, idTo_root] at this
     subst hkk
     have hrr : id.root = id'.root := by
      have e1 := (τmem k _).2 h1
      have e2 := (τmem k _).2 g1
      rw [e1] at e2; injection e2
     exact idTo_inj he hrr
    ·rw [h3] at hL; rw [g3] at hL'
     exact (hL'own _ b x h2 hL id' x' g2 hL' g1 g4).elim
   ·rcases hlive id' hg' with ⟨k', g1, g2, g3⟩ | ⟨g1, g2, g3, g4⟩
    ·rw [h3] at hL; rw [g3] at hL'
     exact (hL'own _ b x' g2 hL' id x h2 hL h1 h4).elim
    ·rw [h3] at hL; rw [g3] at hL'
     exact hR.heap.inj id id' b x x' h2 g2 hL hL')
  (fun b hb => hH.imm b (hI2I b hb)) (fun x hx => ⟨hII2 _ (hR.heap.glo x hx).1, (hH.glo x hx).2⟩) hII2
  (fun b hb hlt => by
   rw [hI2e] at hb
   split at hb
   ·exact hR.only b hb hlt
   ·rcases hI2 b hb (Nat.lt_of_lt_of_le hlt hR.below.size) with h1 | h1
    ·rcases h1 with h1 | ⟨id0, z, h2, h3, h4⟩
     ·exact hR.only b h1 hlt
     ·rcases hR.new id0 b z h3 h4 with h5 | h5
      ·omega
      ·exact .inr h5
    ·obtain ⟨id1, z1, k, h4, h5, h6⟩ := hown b h1
     rcases hR.new id1 b z1 h5 h6 with h7 | h7
     ·omega
     ·exact .inr h7)
  (hR.below.go hbel fun b hb => by
   obtain ⟨id1, z1, k, h4, h5, h6⟩ := hown b hb
   exact hR.new id1 b z1 h5 h6)
  (fun id b x hg hL => by
   rcases hlive id hg with ⟨k, h1, h2, h3⟩ | ⟨h1, h2, h3, h4⟩
   ·rw [h3] at hL
    rcases hnew _ b x h2 hL with h5 | h5
    ·left; exact Nat.le_trans hR.below.size h5
    ·obtain ⟨id1, z1, k, h6, h7, h8⟩ := hown b h5
     exact hR.new id1 b z1 h7 h8
   ·rw [h3] at hL; exact hR.new id b x h2 hL)
  (fun q hq hg => by
   rcases hlive (.r q) hg with ⟨k, h1, h2, h3⟩ | ⟨h1, h2, h3, h4⟩
   ·have h1' : (k, q) ∈ d.τ := h1
    rcases hnw k q h1' with ⟨g1, g2⟩ | ⟨_, g2, _⟩
    ·obtain ⟨g3, g4⟩ := hkept k g1 (τo1 k q h1').2
     have hgl : giveL L d.σ (.r k) = L (.r q) := by simp [giveL, g2]
     have hsg : s.o q ≠ .gone := by
      obtain ⟨a', e1, e2⟩ := G.to k (G.live k q g2)
      rw [g2] at e1; injection e1 with e1; subst e1
      intro hs; rw [hs] at e2; exact e2.elim
     obtain ⟨g5, g6⟩ := hR.kept q hq hsg
     have h3' : L2 (.r q) = L' (.r k) := h3
     rw [hgl] at g3 g4
     refine ⟨by rw [h3', g3, g5], g6.trans ?_⟩
     rw [← g5]; exact g4
    ·omega
   ·obtain ⟨g5, g6⟩ := hR.kept q hq h2
    refine ⟨by rw [h3, g5], g6.trans (SameRow.of fun b x hL => hblk (.r q) b x h2 (g5.trans hL) (hσk q h4 h1))⟩)
 refine ⟨L2, I2, ?_, ?_⟩
 ·rw [hkt]; exact hst
 ·show RelV _ (d.r.ren (Ren.to d.τ)) v
  have hv2 : RelV (RelC L' I2 w' (obj (lookO d.o1))) d.r v := by
   rw [hI2e]
   split
   ·rename_i hf; exact flatV_rel (hfl hf).1 hv
   ·exact hv
  refine RelV.ren_fwd hsame (fun k hk => ?_) hv2
  have := List.all_eq_true.1 k6 k hk
  rw [k1] at this
  exact to_isSome _ _ (by simpa using this)
end
def boolOf : AV → Option Bool
 | .c (.v (.bool b)) => some b
 | _ => none
def yld (ops : List Oper) (s : St) (j : Nat) : Option (Nat × Bool) :=
 match ops[j]? with
 | some o => match o.dst with
  | some d => match boolOf (s.t.getD d (.tup [])) with
   | some b => some (d, b)
   | none => none
  | none => none
 | none => none
def deadG (ops : List Oper) (s : St) (j : Nat) : Bool :=
 match ops[j]? with
 | some o => match o.dst with
  | some d => match s.t.getD d (.tup []) with
   | .tup [] => true
   | _ => false
  | none => false
 | none => false
def brP (b : Bool) (p q : Unit → Prop) : Prop := match b with | true => p () | false => q ()
def brW (want b : Bool) (p q : Unit → Prop) : Prop := match want with | true => brP b p q | false => brP b q p
theorem brP_mk {b : Bool} {p q : Unit → Prop} (h1 : b = true → p ()) (h2 : b = false → q ()) : brP b p q := by
 cases b
 ·exact h2 rfl
 ·exact h1 rfl
theorem brW_yes {want b : Bool} {p q : Unit → Prop} (h : brW want b p q) (e : b = want) : p () := by
 subst e
 cases b <;> exact h
theorem brW_no {want b : Bool} {p q : Unit → Prop} (h : brW want b p q) (e : b = !want) : q () := by
 subst e
 cases want <;> exact h
def setTB (s : St) (d : Nat) (b : Bool) : St := ⟨s.t.set d (.c (.v (.bool b))), s.o⟩
def callOf (o : Oper) (s : St) : Option (FuncId × List AV) :=
 match o.op with
 | .call c => match c.callee with
  | .value x => match ev s x with
   | .c (.fn f n caps) => some (f, c.args.toList.map (ev s) ++ (List.range n).map fun j => .c (caps j))
   | _ => none
  | _ => none
 | _ => none
def s2bOf (T : TT) (o : Oper) (s : St) : Option ByteArray := match o.op with
 | .convert src dst x => match (T src), (T dst), ev s x with
  | some ds, some dt, .c (.v (.string b)) => match ds.und, dt.und with
   | .string, .slice e => match (T e) with
    | some de => match de.und with
     | .int .u8 => some b
     | _ => none
    | none => none
   | _, _ => none
  | _, _, _ => none
 | _ => none
def nilOf (T : TT) (o : Oper) (s : St) : Option (Nat × Bool) :=
 match o.op with
 | .binOp .eql t x y _ => match T t with
  | some d => match d.und, ev s x, ev s y with
   | .slice _, .c (.bs n _ _), .c (.v (.slice none 0 0)) => some (n, false)
   | .slice _, .c (.os _ _ n), .c (.v (.slice none 0 0)) => some (n, false)
   | _, _, _ => none
  | none => none
 | .binOp .neq t x y _ => match T t with
  | some d => match d.und, ev s x, ev s y with
   | .slice _, .c (.bs n _ _), .c (.v (.slice none 0 0)) => some (n, true)
   | .slice _, .c (.os _ _ n), .c (.v (.slice none 0 0)) => some (n, true)
   | _, _, _ => none
  | none => none
 | _ => none
def isSub (o : Oper) (v : AV) : Bool := match o.op with
 | .slice _ _ _ _ _ => match v with
  | .c (.bs _ _ _) => true
  | _ => false
 | _ => false
def wkE (o : Oper) (v : AV) (u : List (Nat × AO)) (K : AV → List (Nat × AO) → Prop) : Prop := match isSub o v with
 | true => ∃ v', v.le v' ∧ K v' u
 | false => wkV v u K
theorem wkE_iff {o : Oper} {v : AV} {u : List (Nat × AO)} {K : AV → List (Nat × AO) → Prop} (h : wkE o v u K) : ∃ v' u', v.le v' ∧ Wk u u' ∧ K v' u' := by
 unfold wkE at h
 split at h
 ·obtain ⟨v', h1, h2⟩ := h
  exact ⟨v', u, h1, Wk.refl u, h2⟩
 ·obtain ⟨u', h1, h2⟩ := wkV_iff h
  exact ⟨v, u', AV.le_refl v, h1, h2⟩
section
variable (A : Prims) (P : Program) (T : TT)
def wpOne (o : Oper) (s : St) (K : St → Prop) : Prop :=
 match callOf o s with
 | some (f, args) => ∃ d : CallD, Fun P f d.args d.o0 d.r d.o1 d.fl ∧ Fits s args d ∧ wkV (callRes s args d).val (callRes s args d).upds fun v u => K (Res.st { callRes s args d with val := v, upds := u } o.dst s)
 | none => match nilOf T o s with
  | some (n, b) => (n = 0 → K (put s o.dst (.c (.v (.bool (!b)))))) ∧ K (put s o.dst (.c (.v (.bool b))))
  | none => match s2bOf T o s with
   | some b => wkV (bytRes o.dst (A.slen b) fun i _ => .v (.int .u8 (A.sat b i))).val (bytRes o.dst (A.slen b) fun i _ => .v (.int .u8 (A.sat b i))).upds fun v u => K (Res.st { bytRes o.dst (A.slen b) (fun i _ => .v (.int .u8 (A.sat b i))) with val := v, upds := u } o.dst s)
   | none => (evalOp A T o s).ok ∧ wkE o (evalOp A T o s).val (evalOp A T o s).upds fun v u => K (Res.st { evalOp A T o s with val := v, upds := u } o.dst s)
def wpOps (all : List Oper) : List Oper → St → (St → Prop) → Prop
 | [], s, K => K s
 | o :: r, s, K => match o.guard with
  | none => wpOne A P T o s fun s' => wpOps all r s' K
  | some (j, want) => match deadG all s j with
   | true => wpOps all r (put s o.dst (.tup [])) K
   | false => match yld all s j with
    | some (d, b) => brW want b (fun _ => wpOne A P T o (setTB s d want) fun s' => wpOps all r s' K) (fun _ => wpOps all r (put (setTB s d (!want)) o.dst (.tup [])) K)
    | none => False
def iter (f : St → (Exit → St → Prop) → Prop) : Nat → St → (Exit → St → Prop) → Prop
 | 0, _, _ => False
 | n + 1, s, K => f s fun e s' => match e with
  | .normal => ∃ s'', s'.le s'' ∧ iter f n s'' K
  | e => K e s'
def tmpOf : Operand → Option Nat
 | .tmp t => some t
 | _ => none
def setB (s : St) (c : Operand) (b : Bool) : St := match tmpOf c with | some t => setTB s t b | none => s
end
section
variable {P : Program} {T : TT} {w0 w w' : World} {I0 : Fr} {I I' : Nat → Prop} {L L' : Lay} {s : St} {a : Act} {o : Oper} {ob o' : Obs}
theorem done_wp (h : OpDone P w0 I0 o a w s) {next : Act → World → Prop} {Q : Exit → Act → World → Prop} (hn : ∀ a' w', Rel w0 I0 s a' w' → next a' w') : o.wp P a w next Q := by
 obtain ⟨r, y, w', hrun, hr, hrel⟩ := h
 unfold Oper.wp
 rw [hrun]
 rcases hr with rfl | ⟨rfl, rfl⟩
 ·exact hn _ _ hrel
 ·exact hn _ _ hrel
theorem RelL.eqv (hR : RelL w0 I0 L I s a w) {o2 : Nat → AO} (he : ∀ k, (s.o k).eqv (o2 k)) : ∃ L2, RelL w0 I0 L2 I ⟨s.t, o2⟩ a w := by
 have harr : ∀ {k m rs N sz get}, s.o k = .arr m rs N sz get → ∃ get', o2 k = .arr m rs N sz get' ∧ ∀ i, i < N → ∀ j, j < sz → (get i j).wk (get' i j) := by
  intro k m rs N sz get hk
  have := he k
  rw [hk] at this
  cases ho : o2 k with
  | gone => rw [ho] at this; exact this.elim
  | var => rw [ho] at this; exact this.elim
  | arr m' rs' n' sz' g' =>
   rw [ho] at this
   obtain ⟨rfl, rfl, rfl, rfl, hg⟩ := this
   exact ⟨g', rfl, hg⟩
 have hvar : ∀ {k l}, s.o k = .var l → o2 k = .var l := by
  intro k l hk
  have := he k
  rw [hk] at this
  cases ho : o2 k with
  | gone => rw [ho] at this; exact this.elim
  | arr => rw [ho] at this; exact this.elim
  | var l' => rw [ho] at this; have e : l = l' := this; rw [e]
 have hgn : ∀ {k}, s.o k = .gone → o2 k = .gone := by
  intro k hk
  have := he k
  rw [hk] at this
  cases ho : o2 k with
  | gone => rfl
  | arr => rw [ho] at this; exact this.elim
  | var l' => rw [ho] at this; exact this.elim
 have hgone : ∀ k, o2 k ≠ .gone → s.o k ≠ .gone := fun k hk hs => hk (hgn hs)
 have hlike : ∀ k, s.o k ≠ .gone → (s.o k).like (o2 k) := by
  intro k hk
  cases hs : s.o k with
  | gone => exact (hk hs).elim
  | var l => rw [hvar hs]; rfl
  | arr m rs n sz g => obtain ⟨g', ho, _⟩ := harr hs; rw [ho]; exact ⟨rfl, rfl, fun c h => h⟩
 obtain ⟨L2, hL2⟩ : ∃ L2 : Lay, L2 = fun id => match id with | .r q => L (.r q) | .s q i j => (match s.o q with | .arr _ _ _ _ get => if isOw (get i j) = true then L (.s q i j) else none | _ => L (.s q i j)) := ⟨_, rfl⟩
 have hLr : ∀ q, L2 (.r q) = L (.r q) := fun q => by rw [hL2]
 have hLk : ∀ {k m rs N sz get}, s.o k = .arr m rs N sz get → ∀ i j, isOw (get i j) = true → L2 (.s k i j) = L (.s k i j) := fun hk i j hx => by rw [hL2]; simp only [hk, hx, if_true]
 have hLn : ∀ {k m rs N sz get}, s.o k = .arr m rs N sz get → ∀ i j, isOw (get i j) = false → L2 (.s k i j) = none := fun hk i j hx => by rw [hL2]; simp [hk, hx]
 have hLx : ∀ id b x, L2 id = some (b, x) → L id = some (b, x) := by
  intro id b x h
  cases id with
  | r q => rw [hLr] at h; exact h
  | s q i j =>
   cases hs : s.o q with
   | gone => rw [hL2] at h; simp only [hs] at h; exact h
   | var l => rw [hL2] at h; simp only [hs] at h; exact h
   | arr m rs N sz get =>
    cases hx : isOw (get i j) with
    | true => rw [hLk hs i j hx] at h; exact h
    | false => rw [hLn hs i j hx] at h; cases h
 have hcell : ∀ {x y : AC}, x.wk y → isOw x = true → y = x := by
  intro x y h hx
  rcases h with h1 | ⟨h1, _⟩
  ·exact h1
  ·rw [h1] at hx; cases hx
 have hsubT : ∀ {k m rs N sz get}, s.o k = .arr m rs N sz get → ∀ i j, isOw (get i j) = true → obj o2 (.s k i j) = obj s.o (.s k i j) := by
  intro k m rs N sz get hk i j hx
  obtain ⟨get', ho, hw⟩ := harr hk
  by_cases hlt : i < N ∧ j < sz
  ·simp only [obj, ho, hk, if_pos hlt, hcell (hw i hlt.1 j hlt.2) hx]
  ·simp only [obj, ho, hk, if_neg hlt]
 have hsubG : ∀ {k m rs N sz get}, s.o k = .arr m rs N sz get → ∀ i j, isOw (get i j) = false → obj s.o (.s k i j) = .gone := by
  intro k m rs N sz get hk i j hx
  simp only [obj, hk]
  split
  ·exact subO'_not hx
  ·rfl
 have hsubF : ∀ {k m rs N sz get}, s.o k = .arr m rs N sz get → ∀ i j, isOw (get i j) = false → obj o2 (.s k i j) = .gone ∨ ∃ z g, obj o2 (.s k i j) = .arr .rw [] 0 z g := by
  intro k m rs N sz get hk i j hx
  obtain ⟨get', ho, hw⟩ := harr hk
  by_cases hlt : i < N ∧ j < sz
  ·rcases hw i hlt.1 j hlt.2 with h1 | ⟨h1, z, g, h2 | h2⟩
   ·refine .inl ?_
    simp only [obj, ho, if_pos hlt, h1]; exact subO'_not hx
   ·exact .inr ⟨z, fun i j => (g i j).cp, by simp only [obj, ho, if_pos hlt, h2, subO']⟩
   ·refine .inl ?_
    simp only [obj, ho, if_pos hlt, h2, subO']
  ·refine .inl ?_
   simp only [obj, ho, if_neg hlt]
 have hnoS : ∀ k i j, (∀ m rs N sz get, s.o k ≠ .arr m rs N sz get) → obj o2 (.s k i j) = .gone := by
  intro k i j h
  simp only [obj]
  cases hs : s.o k with
  | gone => rw [hgn hs]
  | var l => rw [hvar hs]
  | arr m rs N sz get => exact (h _ _ _ _ _ hs).elim
 have hlive : ∀ id : Id, obj o2 id ≠ .gone → (obj s.o id ≠ .gone ∧ L2 id = L id) ∨ L2 id = none := by
  intro id hid
  cases id with
  | r q => exact .inl ⟨hgone q hid, hLr q⟩
  | s q i j =>
   cases hs : s.o q with
   | gone => exact (hid (hnoS q i j (by intro _ _ _ _ _ h; rw [hs] at h; cases h))).elim
   | var l => exact (hid (hnoS q i j (by intro _ _ _ _ _ h; rw [hs] at h; cases h))).elim
   | arr m rs N sz get =>
    cases hx : isOw (get i j) with
    | true => rw [hsubT hs i j hx] at hid; exact .inl ⟨hid, hLk hs i j hx⟩
    | false => exact .inr (hLn hs i j hx)
 have hK : Keeps [] L I w (obj s.o) L2 I w (obj o2) :=
  ⟨fun b hb => ⟨hb, rfl⟩, fun q hq hgq => ⟨hLr q, hlike q hgq, fun b x C e hL hC => ⟨C, hC, rfl⟩⟩⟩
 have M := hK.moves
 refine ⟨L2, ?_⟩
 have := hR.step (Turn.kill []) M (o' := o2) (fun q => True) (fun q hq => (hq trivial).elim) (fun q hq id hr => ?_) ?_ hR.heap.imm hR.heap.glo (fun b hb => hb) hR.only hR.below ?_ ?_
 ·have e0 : AV.map (AC.kill []) = id := AV.kill_nil'
  rw [e0, List.map_id] at this
  exact this
 ·cases id with
  | r q' =>
   have e : q' = q := hr
   subst e
   unfold ObjOk
   rw [show obj o2 (.r q') = o2 q' from rfl, hLr]
   cases hs : s.o q' with
   | gone => rw [hgn hs]; trivial
   | var l =>
    rw [hvar hs]
    obtain ⟨b, C, e, g1, g2, g3, g4, g5⟩ := hR.heap.var (id := .r q') hs
    exact ⟨b, C, e, g1, g2, g3, g4, fun i x hx => by obtain ⟨u, hu, hr⟩ := g5 i x hx; have := M _ _ hr; rw [AC.kill_nil] at this; exact ⟨u, hu, this⟩⟩
   | arr m rs N sz get =>
    obtain ⟨get', ho, hw⟩ := harr hs
    rw [ho]
    have hO := hR.heap.arr (id := .r q') hs
    refine ⟨?_, fun a ha b hb z hz => ?_⟩
    ·rcases hO.1 with h1 | ⟨b, base, C, e, h1, h2, h3, h4, h5⟩
     ·exact .inl h1
     ·refine .inr ⟨b, base, C, e, h1, h2, h3, h4, fun a ha c hc => ?_⟩
      obtain ⟨u, hu, hr⟩ := h5 a ha c hc
      refine ⟨u, hu, ?_⟩
      rcases hw a ha c hc with e1 | ⟨e1, z, g, e2 | e2⟩
      ·rw [e1]
       have := RelX.map (Turn.kill []) M (id := .r q') (i := a) (j := c) (fun k' hk' hg2 => ?_) hr
       ·rwa [AC.kill_nil] at this
       ·injection hk' with hk'; subst hk'
        cases hx : isOw (get a c) with
        | true => exact ⟨hLk hs a c hx, by rw [hsubT hs a c hx]; exact AO.like_refl _ hg2, fun b x C e hL hC => ⟨C, hC, rfl⟩⟩
        | false => exact (hg2 (hsubG hs a c hx)).elim
      ·rw [e2]
       rw [e1] at hr
       have hu0 : u = .slice none 0 0 := hr.1
       subst hu0
       have hx : isOw (get a c) = false := by rw [e1]; rfl
       refine ⟨.rw, [], 0, z, fun i j => (g i j).cp, ?_, .inl ⟨hLn hs a c hx, rfl, rfl, rfl, ⟨_, rfl⟩, fun c hc => by cases hc⟩⟩
       simp only [obj, ho, if_pos (And.intro ha hc), e2, subO']
      ·rw [e2]
       rw [e1] at hr
       have hu0 : u = .slice none 0 0 := hr.1
       subst hu0
       exact ⟨none, 0, rfl, Nat.le_refl _, fun h => by omega⟩
    ·rcases hw a ha b hb with e1 | ⟨e1, z', g, e2 | e2⟩
     ·rw [e1] at hz; exact hO.2 a ha b hb z hz
     ·rw [e2] at hz; cases hz
     ·rw [e2] at hz; cases hz
  | s q' a b =>
   have e : q' = q := hr
   subst e
   cases hs : s.o q' with
   | gone => unfold ObjOk; rw [hnoS q' a b (by intro _ _ _ _ _ h; rw [hs] at h; cases h)]; trivial
   | var l => unfold ObjOk; rw [hnoS q' a b (by intro _ _ _ _ _ h; rw [hs] at h; cases h)]; trivial
   | arr m rs N sz get =>
    cases hx : isOw (get a b) with
    | true =>
     by_cases hgo : obj o2 (.s q' a b) = .gone
     ·unfold ObjOk; rw [hgo]; trivial
     ·have hgo' : obj s.o (.s q' a b) ≠ .gone := by rw [hsubT hs a b hx] at hgo; exact hgo
      refine (hR.heap.ok (.s q' a b)).map (Turn.kill []) M ?_ (fun _ => hLk hs a b hx) (fun _ b x _ => ⟨rfl, fun h => h⟩) (fun _ _ _ h => by cases h)
      rw [hsubT hs a b hx]
      exact (AO.kill_nil _).symm
    | false =>
     rcases hsubF hs a b hx with f1 | ⟨z, g, f1⟩
     ·unfold ObjOk; rw [f1]; trivial
     ·unfold ObjOk
      rw [f1]
      exact ⟨.inl ⟨hLn hs a b hx, rfl, fun c hc => by cases hc⟩, fun i hi => absurd hi (by omega)⟩
 ·intro id id' b x x' g1 g2 g3 g4
  rcases hlive id g1 with ⟨h1, h2⟩ | h1
  ·rcases hlive id' g2 with ⟨h3, h4⟩ | h3
   ·rw [h2] at g3; rw [h4] at g4; exact hR.heap.inj id id' b x x' h1 h3 g3 g4
   ·rw [h3] at g4; cases g4
  ·rw [h1] at g3; cases g3
 ·intro id b x g1 g2
  rcases hlive id g1 with ⟨h1, h2⟩ | h1
  ·rw [h2] at g2; exact hR.new id b x h1 g2
  ·rw [h1] at g2; cases g2
 ·intro q hq g1
  rw [hLr]
  exact hR.kept q hq (hgone q g1)
theorem Wk.upd : ∀ {u u' : List (Nat × AO)}, Wk u u' → ∀ (o o2 : Nat → AO), (∀ k, (o k).eqv (o2 k)) → ∀ k, (updL u o k).eqv (updL u' o2 k)
 | [], [], _, o, o2, h, k => h k
 | (k, x) :: r, (k', x') :: r', h, o, o2, he, q => by
  obtain ⟨rfl, h2, h3⟩ := h
  refine Wk.upd h3 _ _ (fun j => ?_) q
  simp only [updO]
  split
  ·exact h2
  ·exact he j
 | [], _ :: _, h, _, _, _, _ => h.elim
 | _ :: _, [], h, _, _, _, _ => h.elim
theorem Rel.wk {r : Res} {u : List (Nat × AO)} (h : Wk r.upds u) {d : Option Nat} (hR : Rel w0 I0 (r.st d s) a w) : Rel w0 I0 (Res.st { r with upds := u } d s) a w := by
 obtain ⟨L, I, hR⟩ := hR
 obtain ⟨L2, h1⟩ := hR.eqv (o2 := updL u (s.kill r.kills).o) (fun k => by
  have := Wk.upd h (s.kill r.kills).o (s.kill r.kills).o (fun k => AO.eqv_refl _) k
  unfold Res.st AM.put
  cases d <;> exact this)
 refine ⟨L2, I, ?_⟩
 unfold Res.st AM.put at h1 ⊢
 cases d <;> exact h1
theorem Rel.leV {r : Res} {v : AV} (h : r.val.le v) {d : Option Nat} (hR : Rel w0 I0 (r.st d s) a w) : Rel w0 I0 (Res.st { r with val := v } d s) a w := by
 obtain ⟨L, I, hR⟩ := hR
 refine ⟨L, I, ?_⟩
 unfold Res.st AM.put at hR ⊢
 cases d with
 | none => exact hR
 | some d =>
  refine ⟨hR.heap, ⟨by simpa using hR.tmps.1, fun i x hx => ?_⟩, hR.defers, hR.below, hR.old, hR.only, hR.new, hR.kept⟩
  by_cases hi : i = d
  ·subst hi
   have hlt := (List.getElem?_eq_some_iff.1 hx).1
   rw [List.length_set] at hlt
   rw [List.getElem?_set_self (by simpa using hlt)] at hx
   injection hx with hx; subst hx
   obtain ⟨u, hu, hr⟩ := hR.tmps.2 i r.val (by rw [List.getElem?_set_self (by simpa using hlt)])
   exact ⟨u, hu, h _ _ _ _ _ hr⟩
  ·rw [List.getElem?_set_ne (Ne.symm hi)] at hx
   exact hR.tmps.2 i x (by rw [List.getElem?_set_ne (Ne.symm hi)]; exact hx)
theorem call_sound (hR : Rel w0 I0 s a w) {f : FuncId} {args : List AV} {d : CallD} (hc : callOf o s = some (f, args)) (hf : Fun P f d.args d.o0 d.r d.o1 d.fl) (F : Fits s args d)
  {next : Act → World → Prop} {Q : Exit → Act → World → Prop} (hn : ∀ a' w', Rel w0 I0 ((callRes s args d).st o.dst s) a' w' → next a' w') : o.wp P a w next Q := by
 obtain ⟨L, I, hR⟩ := hR
 obtain ⟨⟨fn, hfn, hname, hbody⟩, ⟨hwf, hfl⟩, hcall⟩ := hf
 unfold callOf at hc
 split at hc
 ·rename_i c ho
  split at hc
  ·rename_i x hx
   split at hc
   ·rename_i f' n caps hev
    injection hc with hc
    injection hc with h1 h2
    subst h1
    have hx' := ev_rel hR.tmps x
    rw [hev] at hx'
    obtain ⟨cs, hcs, hsize, hcaps⟩ := hx'
    -- the arguments
    have hargs : ∀ (i : Nat) q, args[i]? = some q → ∃ u, ((c.args.map a.eval) ++ cs)[i]? = some u ∧ RelV (RelC L I w (obj s.o)) q u := by
     intro i q hq
     subst h2
     rw [List.getElem?_append] at hq
     rw [Array.getElem?_append]
     simp only [List.length_map] at hq
     simp only [Array.size_map]
     have hlen : c.args.toList.length = c.args.size := by simp
     split at hq
     ·rename_i hi
      rw [if_pos (by omega)]
      obtain ⟨u, hu, hr⟩ := args_rel hR.tmps c.args.toList i q hq
      refine ⟨u, ?_, hr⟩
      rw [← hu, ← Array.toList_map, Array.getElem?_toList]
     ·rename_i hi
      rw [if_neg (by omega)]
      simp only [List.getElem?_map, Option.map_eq_some_iff] at hq
      obtain ⟨j, hj, rfl⟩ := hq
      have hjn : i - c.args.toList.length < n := by
       have := (List.getElem?_eq_some_iff.1 hj).1
       simpa using this
      rw [List.getElem?_range hjn] at hj
      injection hj with hj; subst hj
      obtain ⟨u, hu, hr⟩ := hcaps _ hjn
      exact ⟨u, by rw [← hlen]; exact hu, hr⟩
    have hlen : ((c.args.map a.eval) ++ cs).size = args.length := by
     subst h2
     simp [hsize]
    have G := F.given hwf
    have hHc := G.hrel hR.heap
    have hgive : ∀ x ∈ args, ∀ y, RelV (RelC L I w (obj s.o)) x y → RelV (RelC (giveL L d.σ) (lentI L I s.o (lentR d.σ s.o args)) w (obj (lookO d.o0))) (x.map (AC.give (Ren.back d.σ) s.o)) y := by
     intro x hxm y hxy
     have h1 : ∀ z ∈ x.refs, Ren.back d.σ z = none → z ∈ lentR d.σ s.o args ∧ ∀ q ∈ deepO (s.o z), q ∈ lentR d.σ s.o args := by
      intro z hz hb
      have hm : z ∈ (args.flatMap AV.refs).filter fun k => (Ren.back d.σ k).isNone := List.mem_filter.2 ⟨List.mem_flatMap.2 ⟨x, hxm, hz⟩, by rw [hb]; rfl⟩
      exact ⟨List.mem_append_left _ hm, fun q hq => List.mem_append_right _ (List.mem_flatMap.2 ⟨z, hm, hq⟩)⟩
     have hc1 : ∀ (c : AC) (y : Value), (∀ z ∈ c.ref, z ∈ x.refs) → RelC L I w (obj s.o) c y → RelC (giveL L d.σ) (lentI L I s.o (lentR d.σ s.o args)) w (obj (lookO d.o0)) (c.give (Ren.back d.σ) s.o) y := fun c y hz hr =>
      give_rel hR.heap (fun k q hkq => G.same (G.back q k hkq)) c y (fun z hz' hb => h1 z (hz z hz') hb) hr
     have hc2 : ∀ (x' : AV) (y : Value), (∀ z ∈ x'.refs1, z ∈ x.refs) → Rel1 (RelC L I w (obj s.o)) x' y → Rel1 (RelC (giveL L d.σ) (lentI L I s.o (lentR d.σ s.o args)) w (obj (lookO d.o0))) (x'.map1 (AC.give (Ren.back d.σ) s.o)) y := by
      intro x' y hz hr
      cases x' with
      | c c => exact hc1 c y hz hr
      | agg l =>
       obtain ⟨ys, rfl, hs, hcc⟩ := hr
       refine ⟨ys, rfl, by simpa using hs, fun i q hq => ?_⟩
       simp only [List.getElem?_map, Option.map_eq_some_iff] at hq
       obtain ⟨q0, hq0, rfl⟩ := hq
       obtain ⟨u, hu, hrr⟩ := hcc i q0 hq0
       exact ⟨u, hu, hc1 q0 u (fun z hz' => hz z (List.mem_flatMap.2 ⟨q0, List.mem_of_getElem? hq0, hz'⟩)) hrr⟩
      | tup l => exact hr.elim
      | any => exact hr.elim
     cases x with
     | c c => exact hc2 (.c c) y (fun z hz => hz) hxy
     | agg l => exact hc2 (.agg l) y (fun z hz => hz) hxy
     | tup l =>
      obtain ⟨ys, rfl, hs, hcc⟩ := hxy
      refine ⟨ys, rfl, by simpa using hs, fun i q hq => ?_⟩
      simp only [List.getElem?_map, Option.map_eq_some_iff] at hq
      obtain ⟨q0, hq0, rfl⟩ := hq
      obtain ⟨u, hu, hrr⟩ := hcc i q0 hq0
      exact ⟨u, hu, hc2 q0 u (fun z hz' => by simp only [AV.refs, List.mem_flatMap]; exact ⟨q0, List.mem_of_getElem? hq0, hz'⟩) hrr⟩
     | any => trivial
    have hles : ∀ (l q : List AV) (vs : List Value), AV.les l q → (∀ (i : Nat) x, l[i]? = some x → ∃ u, vs[i]? = some u ∧ RelV (RelC (giveL L d.σ) (lentI L I s.o (lentR d.σ s.o args)) w (obj (lookO d.o0))) x u) → q.length = l.length ∧ ∀ (i : Nat) x, q[i]? = some x → ∃ u, vs[i]? = some u ∧ RelV (RelC (giveL L d.σ) (lentI L I s.o (lentR d.σ s.o args)) w (obj (lookO d.o0))) x u := by
     intro l
     induction l with
     | nil => intro q vs h1 h2; cases q with | nil => exact ⟨rfl, h2⟩ | cons y q => exact h1.elim
     | cons x l ih =>
      intro q vs h1 h2
      cases q with
      | nil => exact h1.elim
      | cons y q =>
       cases vs with
       | nil => obtain ⟨u, hu, _⟩ := h2 0 x rfl; simp at hu
       | cons v vs =>
        obtain ⟨g1, g2⟩ := ih q vs h1.2 (fun i x hx => by have := h2 (i + 1) x (by simpa using hx); simpa using this)
        refine ⟨by simp [g1], fun i x' hx => ?_⟩
        cases i with
        | zero =>
         simp at hx; subst hx
         obtain ⟨u, hu, hr⟩ := h2 0 x rfl
         exact ⟨u, hu, h1.1 _ _ _ _ u hr⟩
        | succ i => obtain ⟨u, hu, hh⟩ := g2 i x' (by simpa using hx); exact ⟨u, by simpa using hu, hh⟩
    obtain ⟨g3, g4⟩ := hles _ _ ((c.args.map a.eval) ++ cs).toList F.vals (fun i x hx => by
     simp only [List.getElem?_map, Option.map_eq_some_iff] at hx
     obtain ⟨x0, hx0, rfl⟩ := hx
     obtain ⟨u, hu, hr⟩ := hargs i x0 hx0
     exact ⟨u, by rw [Array.getElem?_toList]; exact hu, hgive x0 (List.mem_of_getElem? hx0) u hr⟩)
    have hcalls := hcall ((c.args.map a.eval) ++ cs) w _ _ hHc ⟨by rw [g3, List.length_map]; exact hlen, fun i x hx => by
     obtain ⟨u, hu, hr⟩ := g4 i x hx
     exact ⟨u, by rw [← Array.getElem?_toList]; exact hu, hr⟩⟩
    have hrun : (execOp a.eval o).run P w = .ok (.enter f' ((c.args.map a.eval) ++ cs)) w := by
     simp only [execOp, ho, resolve, hx, Deferred.ofValue, hcs]
     simp only [Sem.run_bind, Sem.run_pure, Result.andThen_ok, invoke, callFunc, run_program, hfn, hname, hbody, Bool.false_eq_true, if_false]
     simp
    unfold Oper.wp
    rw [hrun]
    refine hcalls.mono fun e w'' he => ?_
    obtain ⟨v, I', L', rfl, p1, p2, p3, p4, p5, p6, p7⟩ := he
    obtain ⟨L2, I2, q1, q2⟩ := hR.called F hwf hfl p1 p2 p3 p4 p5 p6 p7
    exact hn _ _ ⟨L2, I2, q1.put o.dst q2⟩
   ·cases hc
  ·cases hc
 ·cases hc
theorem nil_sound (hT : TOk P T) (hR : Rel w0 I0 s a w) {n : Nat} {b : Bool} (h : nilOf T o s = some (n, b)) {K : St → Prop} (h1 : n = 0 → K (put s o.dst (.c (.v (.bool (!b)))))) (h2 : K (put s o.dst (.c (.v (.bool b)))))
  {next : Act → World → Prop} {Q : Exit → Act → World → Prop} (hn : ∀ s' a' w', Rel w0 I0 s' a' w' → K s' → next a' w') : o.wp P a w next Q := by
 obtain ⟨L, I, hR⟩ := hR
 have key : ∀ (op : BinOp) (t : TypeId) (x y : Operand) (t' : TypeId) (d : TD) (e : TypeId) (ad : Option Addr) (l c : Nat), o.op = .binOp op t x y t' → T t = some d → d.und = .slice e → a.eval x = .slice ad l c → a.eval y = .slice none 0 0 → (op = .eql ∧ b = false ∨ op = .neq ∧ b = true) → (ad = none → n = 0) → o.wp P a w next Q := by
  intro op t x y t' d e ad l c ho hd hu hx hy hop hnil
  have hu1 : P.underlying t = some (.slice e) := by rw [(hT t d hd).1, hu]
  have he := run_equal_slice_nil (P := P) w t e ad l c hu1
  have hrun : (execOp a.eval o).run P w = .ok (.value (.bool (if ad.isNone = true then !b else b))) w := by
   rcases hop with ⟨rfl, rfl⟩ | ⟨rfl, rfl⟩
   ·simp only [execOp, ho, hx, hy]
    cases ad <;> simp [binOp, eqGuard, he]
   ·have := run_neq_slice_nil (P := P) w t e ad l c hu1
    simp only [execOp, ho, hx, hy]
    cases ad <;> simp [this, eqGuard]
  unfold Oper.wp
  rw [hrun]
  cases ad with
  | none => exact hn _ _ _ ⟨L, I, hR.put o.dst (x := .c (.v (.bool (!b)))) (y := .bool (!b)) ⟨rfl, rfl⟩⟩ (h1 (hnil rfl))
  | some ad => exact hn _ _ _ ⟨L, I, hR.put o.dst (x := .c (.v (.bool b))) (y := .bool b) ⟨rfl, rfl⟩⟩ h2
 have hbs : ∀ {x : Operand} {n sz : Nat} {g : Nat → Nat → AC}, ev s x = .c (.bs n sz g) → ∃ ad c, a.eval x = .slice ad n c ∧ (ad = none → n = 0) := by
  intro x n sz g hx
  have := ev_rel hR.tmps x
  rw [hx] at this
  obtain ⟨ad, cap, hy, _, hc⟩ := this
  refine ⟨ad, cap, hy, fun hn => ?_⟩
  rcases Nat.eq_zero_or_pos n with h | h
  ·exact h
  ·obtain ⟨b, off, h3, _⟩ := hc h; rw [hn] at h3; cases h3
 have hos : ∀ {x : Operand} {k off n : Nat}, ev s x = .c (.os k off n) → ∃ ad c, a.eval x = .slice ad n c ∧ (ad = none → n = 0) := by
  intro x k off n hx
  have := ev_rel hR.tmps x
  rw [hx] at this
  obtain ⟨m, rs, N, sz, get, _, hh⟩ := this
  rcases hh with ⟨_, _, h3, _, ⟨ad0, hy⟩, _⟩ | ⟨b, base, cap, _, hy, _⟩ | ⟨_, h3, _, ad0, cap, hy⟩
  rotate_right
  ·exact ⟨ad0, cap, by rw [hy, h3], fun _ => h3⟩
  ·exact ⟨ad0, 0, by rw [hy, h3], fun _ => h3⟩
  ·exact ⟨_, cap, hy, fun h => by cases h⟩
 have hnl : ∀ {y : Operand}, ev s y = .c (.v (.slice none 0 0)) → a.eval y = .slice none 0 0 := fun h => val_of (ev_rel hR.tmps _) h
 unfold nilOf at h
 split at h
 ·rename_i t x y t' ho
  split at h
  ·rename_i d hd
   split at h
   ·rename_i e n' sz g hu hx hy
    injection h with h; injection h with e1 e2; subst e1; subst e2
    obtain ⟨ad, c, hxe, hz⟩ := hbs hx
    exact key _ t x y t' d e ad _ c ho hd hu hxe (hnl hy) (.inl ⟨rfl, rfl⟩) hz
   ·rename_i e k off n' hu hx hy
    injection h with h; injection h with e1 e2; subst e1; subst e2
    obtain ⟨ad, c, hxe, hz⟩ := hos hx
    exact key _ t x y t' d e ad _ c ho hd hu hxe (hnl hy) (.inl ⟨rfl, rfl⟩) hz
   ·cases h
  ·cases h
 ·rename_i t x y t' ho
  split at h
  ·rename_i d hd
   split at h
   ·rename_i e n' sz g hu hx hy
    injection h with h; injection h with e1 e2; subst e1; subst e2
    obtain ⟨ad, c, hxe, hz⟩ := hbs hx
    exact key _ t x y t' d e ad _ c ho hd hu hxe (hnl hy) (.inr ⟨rfl, rfl⟩) hz
   ·rename_i e k off n' hu hx hy
    injection h with h; injection h with e1 e2; subst e1; subst e2
    obtain ⟨ad, c, hxe, hz⟩ := hos hx
    exact key _ t x y t' d e ad _ c ho hd hu hxe (hnl hy) (.inr ⟨rfl, rfl⟩) hz
   ·cases h
  ·cases h
 ·cases h
theorem wpOne_sound (hT : TOk P T) (hR : Rel w0 I0 s a w) {K : St → Prop} (h : wpOne std P T o s K) {next : Act → World → Prop} {Q : Exit → Act → World → Prop} (hn : ∀ s' a' w', Rel w0 I0 s' a' w' → K s' → next a' w') : o.wp P a w next Q := by
 unfold wpOne at h
 split at h
 ·rename_i f args hc
  obtain ⟨d, h1, h2, h3⟩ := h
  obtain ⟨u, h4, h5⟩ := wkV_iff h3
  exact call_sound hR hc h1 h2 fun a' w' hr => hn _ _ _ (Rel.wk h4 hr) h5
 ·split at h
  ·rename_i n b hnil
   exact nil_sound hT hR hnil h.1 h.2 hn
  ·split at h
   ·rename_i b hb
    obtain ⟨u, h4, h5⟩ := wkV_iff h
    obtain ⟨L, I, hR⟩ := hR
    unfold s2bOf at hb
    split at hb
    ·rename_i src dst x ho
     split at hb
     ·rename_i ds dt b' g1 g2 g3
      split at hb
      ·rename_i e q1 q2
       split at hb
       ·rename_i de q3
        split at hb
        ·rename_i q4
         injection hb with hb
         subst hb
         exact done_wp (s2b_sound hT hR ho g1 q1 g2 q2 q3 q4 g3) fun a' w' hr => hn _ _ _ (Rel.wk h4 hr) h5
        ·cases hb
       ·cases hb
      ·cases hb
     ·cases hb
    ·cases hb
   ·obtain ⟨v, u, h3, h4, h5⟩ := wkE_iff h.2
    have hR0 := hR
    obtain ⟨L, I, hR⟩ := hR
    exact done_wp (op_any hT hR h.1) fun a' w' hr => hn _ _ _ (Rel.wk (r := { evalOp std T o s with val := v }) h4 (Rel.leV h3 hr)) h5
end
end Go.Proofs.YtpobpihakgegbaaGreat.AM
