/-
  PLAIN: tables of strings; the name at an index, the index of a name. And how a table that is listed reads. Nothing of the program is named here.
-/
import Derived.WalkKit
import Derived.ProofKit
import Derived.Lib.LaidTab
import Derived.Lib.Hide
namespace Go.Proofs.YtidiiodcpfdnfaaDoor
open Go.RowKit Go.Lib

def mkS (l : List UInt8) : ByteArray := ⟨l.toArray⟩
theorem mkS_toList (l : List UInt8) : (mkS l).toList = l := by rw [ByteArray.toList_eq]; simp [mkS]
def eS : ByteArray := ⟨#[]⟩
def layerL : List (List UInt8) := [[100, 105, 102, 102, 117, 115, 105, 111, 110], [112, 111, 108, 121], [99, 111, 110, 116, 97, 99, 116], [109, 101, 116, 97, 108, 49], [118, 105, 97], [109, 101, 116, 97, 108, 50], [119, 101, 108, 108], [109, 97, 114, 107, 101, 114]]
def oriL : List (List UInt8) := [[114, 48], [114, 57, 48], [114, 49, 56, 48], [114, 50, 55, 48], [109, 48], [109, 57, 48], [109, 49, 56, 48], [109, 50, 55, 48]]
def nameAt (L : List (List UInt8)) (k : Int) : ByteArray := if 0 ≤ k ∧ k < L.length then mkS (L.getD k.toNat []) else eS
/-- the index of the first string that is equal, -1 if there is none -/
def fnd : List (List UInt8) → List UInt8 → Nat → Int
  | [], _, _ => -1
  | x :: l, v, k => if x = v then (k : Int) else fnd l v (k + 1)
def idx (L : List (List UInt8)) (v : List UInt8) : Int := fnd L v 0
theorem fnd_drop (L : List (List UInt8)) (v : List UInt8) (k : Nat) (h : k < L.length) : fnd (L.drop k) v k = if L.getD k [] = v then (k : Int) else fnd (L.drop (k + 1)) v (k + 1) := by
  rw [List.drop_eq_getElem_cons h, fnd, List.getD_eq_getElem?_getD, List.getElem?_eq_getElem h]
  rfl
theorem fnd_end (L : List (List UInt8)) (v : List UInt8) (k : Nat) (h : L.length ≤ k) : fnd (L.drop k) v k = -1 := by
  rw [List.drop_eq_nil_of_le h]; rfl

theorem fnd_bd (L : List (List UInt8)) (v : List UInt8) (k : Nat) : -1 ≤ fnd L v k ∧ fnd L v k ≤ (k : Int) + L.length := by
  induction L generalizing k with
  | nil => simp only [fnd, List.length_nil]; omega
  | cons x l ih =>
    unfold fnd
    split
    · simp only [List.length_cons]; omega
    · have := ih (k + 1); simp only [List.length_cons]; omega
theorem idx_bd (L : List (List UInt8)) (v : List UInt8) : -1 ≤ idx L v ∧ idx L v ≤ L.length := by
  have := fnd_bd L v 0
  unfold idx
  omega
/-- a table of strings as a row lists it -/
def strData {H : Type} (ss : List (List UInt8)) : DataW H := .agg (ss.map fun l => .lit (.string l))
theorem cells_of_strs {H : Type} {enc : TypeId × Value → H} {P : Program} {w : World} {base : Nat} {sp : Nat → Bool} {held : Bool} {fuel : Nat} {t e : TypeId} {n : Nat} {cs : List Value} {ss : List (List UInt8)} {p : List MemPlace}
    (ht : P.underlying t = some (.array n e)) (he : P.underlying e = some .string) (hce : P.cellsOf e = 1) (hct : P.cellsOf t = n)
    (h : DataW.trod enc P w base sp held fuel t cs = some (strData ss, p)) : cs = ss.map fun l => Value.string (mkS l) := by
  cases fuel with
  | zero => simp [DataW.trod] at h
  | succ fuel =>
    simp only [DataW.trod, ht, hce, hct, Nat.mul_one] at h
    split at h
    · rename_i hl
      obtain ⟨xs, hm, hx⟩ := Option.map_eq_some_iff.1 h
      have hxs : xs.map (·.1) = ss.map fun l => (DataW.lit (.string l) : DataW H) := by
        have := congrArg Prod.fst hx
        simpa [strData] using this
      have hxl : xs.length = n := by simpa using Lib.mapM_length hm
      have hzl : ss.length = n := by
        have := congrArg List.length hxs
        simp at this
        omega
      apply List.ext_getElem?
      intro i
      by_cases hi : i < n
      · obtain ⟨b, hb, hf⟩ := Lib.mapM_at hm i i (by simp [hi])
        obtain ⟨z, hc, rfl, _⟩ := DataW.trod_string he hf
        have h1 : cs[i]? = some (.string z) := by
          have := congrArg (·[0]?) hc
          simpa [List.getElem?_take, List.getElem?_drop] using this
        have h2 : (xs.map (·.1))[i]? = some (DataW.lit (.string z.data.toList) : DataW H) := by simp [hb]
        rw [hxs] at h2
        simp only [List.getElem?_map, Option.map_eq_some_iff, DataW.lit.injEq, Lit.string.injEq] at h2
        obtain ⟨z', hz', h3⟩ := h2
        have h4 : mkS z' = z := by rw [h3]; cases z; simp [mkS]
        simp [h1, hz', h4]
      · rw [List.getElem?_eq_none (by omega), List.getElem?_eq_none (by simp; omega)]
    · cases h
/-- such a table reads alike in every world -/
theorem trod_strs_world {H : Type} {enc : TypeId × Value → H} {P : Program} {w w' : World} {base base' : Nat} {sp sp' : Nat → Bool} {held held' : Bool} {fuel : Nat} {t e : TypeId} {n : Nat} {cs : List Value}
    (ht : P.underlying t = some (.array n e)) (he : P.underlying e = some .string) :
    DataW.trod enc P w base sp held fuel t cs = DataW.trod enc P w' base' sp' held' fuel t cs := by
  have one : ∀ (m : Nat) (cs : List Value), DataW.trod enc P w base sp held m e cs = DataW.trod enc P w' base' sp' held' m e cs := by
    intro m cs
    cases m with
    | zero => rfl
    | succ m =>
      unfold DataW.trod
      rw [he]
      rcases cs with _ | ⟨c, _ | ⟨d, r⟩⟩ <;> first | rfl | (cases c <;> rfl)
  cases fuel with
  | zero => rfl
  | succ fuel =>
    unfold DataW.trod
    rw [ht]
    simp only [one]
theorem var_below {P : Program} {B g : Nat} {W W' : World} {n : String} {cs : Array Value} (h : Below B W W') (hg : P.globalNamed n = some g) (hgB : g < B) (hv : W.var? P n = some cs) : W'.var? P n = some cs := by
  unfold World.var? at hv ⊢
  simp only [hg, Option.bind_some] at hv ⊢
  rw [h.block g hgB]
  exact hv
/-- the table's cells -/
theorem tab_cell {P : Program} {W : World} {name : String} {g : Nat} {L : List (List UInt8)} (hg : P.globalNamed name = some g) (h : W.var? P name = some (L.map fun l => Value.string (mkS l)).toArray) (i : Nat) (hi : i < L.length) :
    W.cell? ⟨g, i, none⟩ = some (.string (mkS (L.getD i []))) := by
  rw [World.var?_cell hg h i]
  simp [List.getD, hi]
end Go.Proofs.YtidiiodcpfdnfaaDoor
