/-
  BYTES: rows of bytes that the call owns, what an append does to them, and strings written as lists of bytes.
-/
import Derived.Test.YtidiiodcpfdnfaaRows
import Derived.Test.YtidiiodcpfdnfaaCk
import Derived.Test.YtidiiodcpfdnfaaApp
import Derived.WalkSpells
namespace Go.Proofs.Ytidiiodcpfdnfaa
open Go.RowKit

/-- the byte of a number, its numbers as cells, a string out of bytes -/
def byt (n : Int) : UInt8 := UInt8.ofNat (n % 256).toNat
def bv (l : List UInt8) : List Value := l.map fun b => .int .u8 (b.toNat : Int)
def mkS (l : List UInt8) : ByteArray := ⟨l.toArray⟩
theorem mkS_size (l : List UInt8) : (mkS l).size = l.length := by simp [mkS, ByteArray.size]
theorem mkS_list (l : List UInt8) : (mkS l).data.toList = l := by simp [mkS]
theorem mkS_append (a b : List UInt8) : mkS a ++ mkS b = mkS (a ++ b) := by
  apply ByteArray.ext
  simp [mkS, ByteArray.data_append]
theorem mkS_of (s : ByteArray) : mkS s.data.toList = s := by
  cases s; simp [mkS]
theorem bv_length (l : List UInt8) : (bv l).length = l.length := by simp [bv]
theorem bv_append (a b : List UInt8) : bv (a ++ b) = bv a ++ bv b := by simp [bv]
theorem bv_one (l : List UInt8) : ∀ u ∈ bv l, u.oneCell' = true := by
  intro u hu
  simp [bv] at hu
  obtain ⟨b, _, rfl⟩ := hu
  rfl
theorem byt_val (n : Int) : ((byt n).toNat : Int) = n % 256 := by
  unfold byt
  rw [UInt8.toNat_ofNat']
  omega
theorem byt_mod (n m : Int) (h : n % 256 = m % 256) : byt n = byt m := by unfold byt; rw [h]

theorem own_cast {w : World} {base : Nat} {e : TypeId} {size : Nat} {v : Value} {n n' : Nat} {xs xs' : List Value} (h : w.ownsRow base e size v n xs) (hn : n = n') (hx : xs = xs') : w.ownsRow base e size v n' xs' := by
  subst hn; subst hx; exact h
/-- the string of an owned row of bytes -/
theorem own_string {w : World} {base : Nat} {v : Value} {l : List UInt8} (h : w.ownsRow base 5 1 v l.length (bv l)) : (convert 58 9 v).run Try.prog w = .ok (.string (mkS l)) w := by
  rcases h.2 with ⟨rfl, h0⟩ | ⟨g, cap, cur, rfl, _⟩
  · have hl : l = [] := List.eq_nil_of_length_eq_zero h0
    subst hl
    exact run_convert_bytes_nil w 58 5 Try.underlying58 Try.underlying5 0 0 9 Try.underlying9
  · exact run_convert_bytes_back w 58 9 5 ⟨g, 0, none⟩ cap l Try.underlying58 Try.underlying5 Try.underlying9 (fun j hj => h.cells (g := g) rfl j _ (by simp [bv, List.getElem?_eq_getElem hj]))

theorem info_u8 : (Try.prog.info? 5).map (fun i => (i.zero, i.size, i.bytes)) = some (some (.int .u8 0), 1, 1) := by kernel_rfl
theorem wrap_u8 (n : Int) : Value.int .u8 (IntKind.u8.wrap n) = .int .u8 ((byt n).toNat : Int) := by
  rw [byt_val]
  congr 1

/-- strings of one, two and three bytes, out of a slice that was just written -/
theorem conv_new (l : List Int) (h : ∀ n ∈ l, 0 ≤ n ∧ n ≤ 255) (w : World) :
    (convert 58 9 (.slice (some ⟨w.heap.size, 0, none⟩) l.length l.length)).run Try.prog (w.alloc (.cells (l.map (Value.int .u8)).toArray 5)) = .ok (.string (mkS (l.map byt))) (w.alloc (.cells (l.map (Value.int .u8)).toArray 5)) := by
  have := run_convert_bytes_back (P := Try.prog) (w.alloc (.cells (l.map (Value.int .u8)).toArray 5)) 58 9 5 ⟨w.heap.size, 0, none⟩ l.length (l.map byt) Try.underlying58 Try.underlying5 Try.underlying9 (fun j hj => by
    have hj' : j < l.length := by simpa using hj
    have hadd : (⟨w.heap.size, 0, none⟩ : Addr).add j = ⟨w.heap.size, j, none⟩ := by unfold Addr.add; split <;> simp_all
    rw [hadd, World.cell?_alloc_mark]
    have := h l[j] (List.getElem_mem hj')
    simp [hj', byt_val]
    omega)
  rw [List.length_map] at this
  exact this

/-- append of bytes that were just written to a new block -/
theorem src_new (l : List Int) (h : ∀ n ∈ l, 0 ≤ n ∧ n ≤ 255) (w : World) :
    Src Try.prog 1 58 (.slice (some ⟨w.heap.size, 0, none⟩) l.length l.length) l.length (bv (l.map byt)) (w.alloc (.cells (l.map (Value.int .u8)).toArray 5)) := by
  refine Src.ofSlice _ Try.underlying58 _ _ _ _ (by simp [bv]) ?_ (bv_one _)
  intro j u hu
  have hj' : j < l.length := by
    have := (List.getElem?_eq_some_iff.1 hu).1
    simpa [bv] using this
  have hadd : (⟨w.heap.size, 0, none⟩ : Addr).add j = ⟨w.heap.size, j, none⟩ := by unfold Addr.add; split <;> simp_all
  rw [hadd, World.cell?_alloc_mark]
  have := h l[j] (List.getElem_mem hj')
  simp [bv, hj', byt_val] at hu
  rw [← hu]
  simp [hj']
  omega

/-- a string's bytes -/
theorem src_string (s : ByteArray) (w : World) : Src Try.prog 1 9 (.string s) s.size (bv s.data.toList) w := Src.ofString w Try.underlying9 s
end Go.Proofs.Ytidiiodcpfdnfaa
