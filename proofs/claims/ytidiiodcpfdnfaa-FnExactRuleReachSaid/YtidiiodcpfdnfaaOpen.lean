/-
  OPENING an argument that is a struct (of whatever depth): its value is its cells, one for each plain field, each of which reads by itself. Over any program.
-/
import Derived.WalkKit
import Derived.ProofKit
import Derived.OpenShut
import Derived.Deep.Slices
import Derived.Deep.Fields
namespace Go.Proofs.Ytidiiodcpfdnfaa
open Go.ChangeShapes Go.WideShapes Go.RowKit Go.Deep

/-- one cell that reads by itself as a value of the type k -/
def CellOk {H : Type} (enc : TypeId × Value → H) (P : Program) (w : World) (base : Nat) (spare : Nat → Bool) (held : Bool) (k : TypeId) (v : Value) : Prop :=
  ∃ n y, DataW.trod enc P w base spare held n k [v] = some y
/-- the types of a type's cells -/
def flat (P : Program) : Nat → TypeId → List TypeId
  | 0, t => [t]
  | n + 1, t => match P.underlying t with
    | some (.struct fs) => fs.toList.flatMap fun f => flat P n f.type
    | _ => [t]
/-- the fields lie one behind the other, and every type has as many cells as it should -/
def flatOk (P : Program) : Nat → TypeId → Bool
  | 0, t => P.cellsOf t == 1
  | n + 1, t => match P.underlying t with
    | some (.struct fs) => (P.cellsOf t == (flat P (n + 1) t).length) && (List.range fs.size).all fun i => match fs[i]? with
      | some f => (P.cellsOf f.type == (flat P n f.type).length) && (f.offset == ((fs.toList.take i).flatMap fun f => flat P n f.type).length) && flatOk P n f.type
      | none => false
    | _ => P.cellsOf t == 1

section
variable {H : Type} {enc : TypeId × Value → H} {P : Program} {w : World} {base : Nat} {spare : Nat → Bool} {held : Bool}

theorem flatMap_at (fs : List Field) (g : Field → List TypeId) (j : Nat) (k : TypeId) (h : (fs.flatMap g)[j]? = some k) :
    ∃ i f m, fs[i]? = some f ∧ (g f)[m]? = some k ∧ j = ((fs.take i).flatMap g).length + m := by
  induction fs generalizing j with
  | nil => simp at h
  | cons f fs ih =>
    rw [List.flatMap_cons] at h
    by_cases hj : j < (g f).length
    · rw [List.getElem?_append_left hj] at h
      exact ⟨0, f, j, rfl, h, by simp⟩
    · rw [List.getElem?_append_right (by omega)] at h
      obtain ⟨i, f', m, h1, h2, h3⟩ := ih _ h
      refine ⟨i + 1, f', m, by simpa using h1, h2, ?_⟩
      rw [List.take_succ_cons, List.flatMap_cons, List.length_append]
      omega

theorem flat_struct (n : Nat) {t : TypeId} {fs : Array Field} (h : P.underlying t = some (.struct fs)) : flat P (n + 1) t = fs.toList.flatMap fun f => flat P n f.type := by
  rw [flat, h]

theorem trod_flat (n : Nat) : ∀ (t : TypeId) (fuel : Nat) (cs : List Value) (x : DataW H × List MemPlace), flatOk P n t = true → DataW.trod enc P w base spare held fuel t cs = some x → cs.length = P.cellsOf t →
    cs.length = (flat P n t).length ∧ ∀ (j : Nat) (k : TypeId), (flat P n t)[j]? = some k → ∃ v, cs[j]? = some v ∧ CellOk enc P w base spare held k v := by
  have one : ∀ (t : TypeId) (fuel : Nat) (cs : List Value) (x : DataW H × List MemPlace), DataW.trod enc P w base spare held fuel t cs = some x → cs.length = 1 →
      cs.length = [t].length ∧ ∀ (j : Nat) (k : TypeId), [t][j]? = some k → ∃ v, cs[j]? = some v ∧ CellOk enc P w base spare held k v := by
    intro t fuel cs x h hl
    match cs, hl with
    | [c], _ =>
      refine ⟨rfl, fun j k hj => ?_⟩
      match j, hj with
      | 0, hj =>
        simp at hj
        subst hj
        exact ⟨c, rfl, fuel, x, h⟩
  induction n with
  | zero =>
    intro t fuel cs x hok h hl
    simp only [flatOk, beq_iff_eq] at hok
    exact one t fuel cs x h (hl.trans hok)
  | succ n ih =>
    intro t fuel cs x hok h hl
    unfold flatOk at hok
    split at hok
    · rename_i fs hfs
      simp only [Bool.and_eq_true, beq_iff_eq, List.all_eq_true, List.mem_range] at hok
      obtain ⟨hsz, hall⟩ := hok
      have hfl : flat P (n + 1) t = fs.toList.flatMap fun f => flat P n f.type := flat_struct n hfs
      obtain ⟨xs, m, _, _, hcl, hxl, hf⟩ := DataW.trod_struct hfs h
      refine ⟨by rw [hl, hsz, hfl], fun j k hj => ?_⟩
      rw [hfl] at hj
      obtain ⟨i, f, m', h1, h2, h3⟩ := flatMap_at _ _ j k hj
      have hi : i < fs.size := by
        have := (List.getElem?_eq_some_iff.1 h1).1
        exact this
      have hfi : fs[i]? = some f := by simpa using h1
      have ha := hall i hi
      rw [hfi] at ha
      simp only [Bool.and_eq_true, beq_iff_eq] at ha
      obtain ⟨⟨hc, hoff⟩, hok'⟩ := ha
      have hft := hf i f hfi
      have hxi : xs[i]? = some (xs[i]'(by omega)) := List.getElem?_eq_getElem (by omega)
      rw [hxi] at hft
      have hm : m' < (flat P n f.type).length := (List.getElem?_eq_some_iff.1 h2).1
      have hjl : j < (fs.toList.flatMap fun f => flat P n f.type).length := (List.getElem?_eq_some_iff.1 hj).1
      have htk : ((cs.drop f.offset).take (P.cellsOf f.type)).length = P.cellsOf f.type := by
        rw [List.length_take, List.length_drop, hcl, hsz, hfl, hc, hoff]
        have : ((fs.toList.take i).flatMap fun f => flat P n f.type).length + (flat P n f.type).length ≤ (fs.toList.flatMap fun f => flat P n f.type).length := by
          have e : fs.toList = fs.toList.take i ++ f :: fs.toList.drop (i + 1) := by
            have hd : fs.toList.drop i = f :: fs.toList.drop (i + 1) := by
              rw [List.drop_eq_getElem_cons (by simpa using hi)]
              congr 1
              exact (List.getElem?_eq_some_iff.1 h1).2
            rw [← hd, List.take_append_drop]
          rw [e, List.flatMap_append, List.flatMap_cons]
          simp only [List.length_append, ← e]
          omega
        omega
      obtain ⟨_, hget⟩ := ih f.type m _ _ hok' hft htk
      obtain ⟨v, hv, hok2⟩ := hget m' k h2
      refine ⟨v, ?_, hok2⟩
      rw [List.getElem?_take] at hv
      split at hv
      · rw [List.getElem?_drop] at hv
        rw [h3, ← hoff]
        exact hv
      · cases hv
    · rename_i hns
      simp only [beq_iff_eq] at hok
      have hfl : flat P (n + 1) t = [t] := by
        unfold flat
        split
        · rename_i fs hfs
          exact absurd hfs (hns fs)
        · rfl
      rw [hfl]
      exact one t fuel cs x h (hl.trans hok)

theorem cell_int {k : IntKind} {t : TypeId} {v : Value} (ht : P.underlying t = some (.int k)) (h : CellOk enc P w base spare held t v) : ∃ n, v = .int k n ∧ (Lit.int k n).wf = true := by
  obtain ⟨n, y, h⟩ := h
  obtain ⟨m, h1, _, h2⟩ := DataW.trod_int ht h
  simp at h1
  exact ⟨m, h1, h2⟩
theorem cell_string {t : TypeId} {v : Value} (ht : P.underlying t = some .string) (h : CellOk enc P w base spare held t v) : ∃ s : ByteArray, v = .string s ∧ s.size ≤ maxLen := by
  obtain ⟨n, y, h⟩ := h
  obtain ⟨m, h1, _, h2⟩ := DataW.trod_string ht h
  simp at h1
  exact ⟨m, h1, h2⟩

/-- a struct by value -/
theorem open_flat {r : Reach} {b0 : Nat} {t : TypeId} {fs : Array Field} {v : Value} {d : DataW H} {p : List MemPlace} (n : Nat) (ks : List TypeId) (hs : P.underlying t = some (.struct fs)) (hok : flatOk P n t = true) (hks : flat P n t = ks)
    (hv : Value.okWide P w r b0 t v) (h : DataW.Trod enc P w base spare held t v d p) :
    ∃ cs : List Value, v = .agg cs.toArray ∧ cs.length = ks.length ∧ ∀ (j : Nat) (k : TypeId), ks[j]? = some k → ∃ u, cs[j]? = some u ∧ CellOk enc P w base spare held k u := by
  obtain ⟨cs, rfl, hsz⟩ := okWide_struct hs hv
  obtain ⟨fuel, hf⟩ := h
  subst hks
  obtain ⟨l⟩ := cs
  exact ⟨l, rfl, trod_flat n t fuel l _ hok hf hsz⟩
end
end Go.Proofs.Ytidiiodcpfdnfaa
