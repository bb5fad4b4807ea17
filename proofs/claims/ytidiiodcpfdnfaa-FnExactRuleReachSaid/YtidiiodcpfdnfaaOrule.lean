/-
  OPENING a rule that came in.
-/
import Derived.Test.YtidiiodcpfdnfaaWrule3
import Derived.Test.YtidiiodcpfdnfaaOpen
namespace Go.Proofs.Ytidiiodcpfdnfaa
open Go.RowKit

theorem open_rule {H : Type} {enc : TypeId × Value → H} {w : World} {base : Nat} {spare : Nat → Bool} {held : Bool} {r : Reach} {b0 : Nat} {v : Value} {d : DataW H} {p : List MemPlace} (hv : Value.okWide Try.prog w r b0 27 v) (h : DataW.Trod enc Try.prog w base spare held 27 v d p) :
    ∃ (k : Int) (l : Int) (o : Int) (x : Int) (q : Int), v = ruleV k l o x q ∧ (Lit.int .i64 k).wf = true ∧ (Lit.int .i64 l).wf = true ∧ (Lit.int .i64 o).wf = true ∧ (Lit.int .i64 x).wf = true ∧ (Lit.int .i64 q).wf = true := by
  obtain ⟨cs, rfl, hl, hc⟩ := open_flat 3 [2, 2, 2, 2, 2] Try.underlying27 (by kernel_rfl) (by kernel_rfl) hv h
  match cs, hl with
  | [c0, c1, c2, c3, c4], _ =>
    obtain ⟨u0, e0, k0⟩ := hc 0 2 rfl
    obtain rfl : c0 = u0 := by simpa using e0
    obtain ⟨n0, rfl, w0⟩ := cell_int Try.underlying2 k0
    obtain ⟨u1, e1, k1⟩ := hc 1 2 rfl
    obtain rfl : c1 = u1 := by simpa using e1
    obtain ⟨n1, rfl, w1⟩ := cell_int Try.underlying2 k1
    obtain ⟨u2, e2, k2⟩ := hc 2 2 rfl
    obtain rfl : c2 = u2 := by simpa using e2
    obtain ⟨n2, rfl, w2⟩ := cell_int Try.underlying2 k2
    obtain ⟨u3, e3, k3⟩ := hc 3 2 rfl
    obtain rfl : c3 = u3 := by simpa using e3
    obtain ⟨n3, rfl, w3⟩ := cell_int Try.underlying2 k3
    obtain ⟨u4, e4, k4⟩ := hc 4 2 rfl
    obtain rfl : c4 = u4 := by simpa using e4
    obtain ⟨n4, rfl, w4⟩ := cell_int Try.underlying2 k4
    exact ⟨n0, n1, n2, n3, n4, rfl, w0, w1, w2, w3, w4⟩
end Go.Proofs.Ytidiiodcpfdnfaa
