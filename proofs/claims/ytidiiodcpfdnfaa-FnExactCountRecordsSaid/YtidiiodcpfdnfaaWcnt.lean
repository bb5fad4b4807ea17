/-
  THE WALKS of both CountRecords functions. Condition: the stream has at most 1048576 bytes.
-/
import Derived.Test.YtidiiodcpfdnfaaWsplit3
import Derived.Test.YtidiiodcpfdnfaaCnt
import Derived.Test.YtidiiodcpfdnfaaI64
namespace Go.Proofs.Ytidiiodcpfdnfaa
open Go.RowKit

set_option maxHeartbeats 1000000 in
theorem CountRecords_impl (s : ByteArray) (w : World) (hs : s.size ≤ 1048576) :
    Calls Try.prog 31 #[.string s] w fun e w' => ∃ v, e = .returned (.tuple #[v, .int .i64 (cntS s).2]) ∧ w'.ownsRow w.heap.size 2 1 v (cntS s).1.length (iv (cntS s).1) ∧ Below w.heap.size w w' := by
  have hmk : ∀ W : World, (Instr.makeSlice 37 (.int .i64 7) (.int .i64 7)).run Try.prog W = .ok (.slice (some ⟨W.heap.size, 0, none⟩) 7 7) (W.alloc (.cells #[.int .i64 0, .int .i64 0, .int .i64 0, .int .i64 0, .int .i64 0, .int .i64 0, .int .i64 0] 2)) := fun _ => by kernel_rfl
  have hown0 : (w.alloc (.cells #[.int .i64 0, .int .i64 0, .int .i64 0, .int .i64 0, .int .i64 0, .int .i64 0, .int .i64 0] 2)).ownsRow w.heap.size 2 1 (.slice (some ⟨w.heap.size, 0, none⟩) 7 7) 7 (iv zero7) := by
    exact World.ownsRow_lit w _ 7 (Nat.le_refl _) (by unfold maxLen; omega) rfl
  have hb0 : Below w.heap.size w (w.alloc (.cells #[.int .i64 0, .int .i64 0, .int .i64 0, .int .i64 0, .int .i64 0, .int .i64 0, .int .i64 0] 2)) := (Below.refl _ _).alloc (Nat.le_refl _) _
  have HO := Lib.hid hown0
  have HB0 := Lib.hid hb0
  clear hown0 hb0
  go_enter Try.func31, Try.ntmps31
  go_wp2
  clear hmk
  go_loopw [5] (fun i wr => ∃ (p : Nat) (cs : List Int) (f : Nat), p ≤ s.size ∧ i = .int .i64 p ∧ wr.ownsRow w.heap.size 2 1 (.slice (some ⟨w.heap.size, 0, none⟩) 7 7) 7 (iv cs) ∧ (∀ j, 0 ≤ cs.getD j 0 ∧ cs.getD j 0 ≤ (p : Int)) ∧ s.size < p + f ∧ cnt s f p cs = cntS s ∧ Below w.heap.size w wr) (fun i _ => s.size - (intOf i).toNat)
  case atStart => exact ⟨0, zero7, s.size + 1, Nat.zero_le _, rfl, HO.out, zero7_bd, by omega, rfl, HB0.out⟩
  case round =>
    obtain ⟨p, cs, f, hp, rfl, hown, hbd, hf, hcnt, hbr⟩ := hrel
    have HCN := Lib.hid hcnt
    have HBD := Lib.hid hbd
    have hsz := hbr.size
    have hlt7 : w.heap.size < wr.heap.size := (hown.lt _ rfl).2
    clear hcnt hbd
    by_cases hlt : p < s.size
    · have hlen : cs.length = 7 := by have := hown.1; simpa [iv] using this
      have HLEN := Lib.hid hlen
      have HOW := Lib.hid hown
      clear hlen hown
      go_wp2_with fail
      refine (SplitRecord_impl s p wr hs).mono ?_
      rintro e w1 ⟨rfl, hb1⟩
      by_cases hc : (spl s p).2.2.2 = 0
      · obtain ⟨g, hg1, hg2⟩ := cnt_step hf hlt hc
        have hfine := spl_fine s p hp hc
        rw [HCN.out] at hg2
        generalize spl s (p : Int) = X at *
        obtain ⟨kd, pl, nx, cd⟩ := X
        simp only at hc hg1 hg2 hfine
        subst hc
        obtain ⟨j, rfl⟩ : ∃ j, kd = j + 1 := ⟨kd - 1, by omega⟩
        simp only [Nat.add_sub_cancel] at hg2
        have hj : j < 7 := by omega
        have hown1 := own_below HOW.out hb1
        have hcell : w1.cell? ⟨w.heap.size, j, none⟩ = some (.int .i64 (cs.getD j 0)) := by
          rw [hown1.cellAt j (by omega)]
          simp [iv, HLEN.out, hj]
        have hfz := hown1.frozenAt j
        have hst := hown1.stored j (.int .i64 (cs.getD j 0 + 1))
        rw [iv_set] at hst
        have hxb := HBD.out j
        generalize hx : cs.getD j 0 = x at *
        have HX := Lib.hid hx
        have HST := Lib.hid hst
        have HG2 := Lib.hid hg2
        clear hx hst hown1 hg2
        obtain ⟨hxb1, hxb2⟩ := hxb
        obtain ⟨hf1, hf2, hf3, hf4⟩ := hfine
        unfold splV
        simp only
        go_wp2
        go_roundw
        case rel =>
          have hs2 := HST.out
          refine ⟨nx, bump cs j, g, hf4, rfl, ?_, bump_bd cs j p nx HBD.out (by omega), hg1, HG2.out.symm, ?_⟩
          · have := hs2.1
            unfold bump
            rw [HX.out]
            exact this
          · exact (hbr.trans (hb1.mono (by omega))).setCell (p := ⟨w.heap.size, j, none⟩) (Nat.le_refl _) _
        case measure => simp [intOf]; omega
      · have hbad := cnt_bad (cs := cs) hf hlt hc
        rw [HCN.out] at hbad
        generalize spl s (p : Int) = X at *
        obtain ⟨kd, pl, nx, cd⟩ := X
        simp only at hc hbad
        have hcb : (cd != 0) = true := by simpa using hc
        have HBAD := Lib.hid hbad
        clear hbad hc
        unfold splV
        simp only
        go_wp2
        go_ret2
        refine ⟨.slice none 0 0, ?_, ?_, ?_⟩
        · rw [HBAD.out]; rfl
        · rw [HBAD.out]; exact World.ownsRow_nil _ _ _ _
        · exact hbr.trans (hb1.mono (by omega))
    · have hend := cnt_end (cs := cs) hf hp hlt
      rw [HCN.out] at hend
      have HEND := Lib.hid hend
      have hlen : cs.length = 7 := by have := hown.1; simpa [iv] using this
      have HLEN := Lib.hid hlen
      have HOW := Lib.hid hown
      clear hend hown hlen
      go_wp2
      go_ret2
      refine ⟨.slice (some ⟨w.heap.size, 0, none⟩) 7 7, ?_, ?_, ?_⟩
      · rw [HEND.out]; rfl
      · rw [HEND.out, HLEN.out]; exact HOW.out
      · exact hbr

set_option maxHeartbeats 1000000 in
theorem CountRecords_spec (s : ByteArray) (w : World) (hs : s.size ≤ 1048576) :
    Calls Try.prog 30 #[.string s] w fun e w' => ∃ v, e = .returned (.tuple #[v, .int .i64 (cntS s).2]) ∧ w'.ownsRow w.heap.size 2 1 v (cntS s).1.length (iv (cntS s).1) ∧ Below w.heap.size w w' := by
  have hmk : ∀ W : World, (Instr.makeSlice 37 (.int .i64 7) (.int .i64 7)).run Try.prog W = .ok (.slice (some ⟨W.heap.size, 0, none⟩) 7 7) (W.alloc (.cells #[.int .i64 0, .int .i64 0, .int .i64 0, .int .i64 0, .int .i64 0, .int .i64 0, .int .i64 0] 2)) := fun _ => by kernel_rfl
  have hown0 : (w.alloc (.cells #[.int .i64 0, .int .i64 0, .int .i64 0, .int .i64 0, .int .i64 0, .int .i64 0, .int .i64 0] 2)).ownsRow w.heap.size 2 1 (.slice (some ⟨w.heap.size, 0, none⟩) 7 7) 7 (iv zero7) := by
    exact World.ownsRow_lit w _ 7 (Nat.le_refl _) (by unfold maxLen; omega) rfl
  have hb0 : Below w.heap.size w (w.alloc (.cells #[.int .i64 0, .int .i64 0, .int .i64 0, .int .i64 0, .int .i64 0, .int .i64 0, .int .i64 0] 2)) := (Below.refl _ _).alloc (Nat.le_refl _) _
  have HO := Lib.hid hown0
  have HB0 := Lib.hid hb0
  clear hown0 hb0
  go_enter Try.func30, Try.ntmps30
  go_wp2
  clear hmk
  go_loopw [5] (fun i wr => ∃ (p : Nat) (cs : List Int) (f : Nat), p ≤ s.size ∧ i = .int .i64 p ∧ wr.ownsRow w.heap.size 2 1 (.slice (some ⟨w.heap.size, 0, none⟩) 7 7) 7 (iv cs) ∧ (∀ j, 0 ≤ cs.getD j 0 ∧ cs.getD j 0 ≤ (p : Int)) ∧ s.size < p + f ∧ cnt s f p cs = cntS s ∧ Below w.heap.size w wr) (fun i _ => s.size - (intOf i).toNat)
  case atStart => exact ⟨0, zero7, s.size + 1, Nat.zero_le _, rfl, HO.out, zero7_bd, by omega, rfl, HB0.out⟩
  case round =>
    obtain ⟨p, cs, f, hp, rfl, hown, hbd, hf, hcnt, hbr⟩ := hrel
    have HCN := Lib.hid hcnt
    have HBD := Lib.hid hbd
    have hsz := hbr.size
    have hlt7 : w.heap.size < wr.heap.size := (hown.lt _ rfl).2
    clear hcnt hbd
    by_cases hlt : p < s.size
    · have hlen : cs.length = 7 := by have := hown.1; simpa [iv] using this
      have HLEN := Lib.hid hlen
      have HOW := Lib.hid hown
      clear hlen hown
      go_wp2_with fail
      refine (SplitRecord_spec s p wr hs).mono ?_
      rintro e w1 ⟨rfl, hb1⟩
      by_cases hc : (spl s p).2.2.2 = 0
      · obtain ⟨g, hg1, hg2⟩ := cnt_step hf hlt hc
        have hfine := spl_fine s p hp hc
        rw [HCN.out] at hg2
        generalize spl s (p : Int) = X at *
        obtain ⟨kd, pl, nx, cd⟩ := X
        simp only at hc hg1 hg2 hfine
        subst hc
        obtain ⟨j, rfl⟩ : ∃ j, kd = j + 1 := ⟨kd - 1, by omega⟩
        simp only [Nat.add_sub_cancel] at hg2
        have hj : j < 7 := by omega
        have hown1 := own_below HOW.out hb1
        have hcell : w1.cell? ⟨w.heap.size, j, none⟩ = some (.int .i64 (cs.getD j 0)) := by
          rw [hown1.cellAt j (by omega)]
          simp [iv, HLEN.out, hj]
        have hfz := hown1.frozenAt j
        have hst := hown1.stored j (.int .i64 (cs.getD j 0 + 1))
        rw [iv_set] at hst
        have hxb := HBD.out j
        generalize hx : cs.getD j 0 = x at *
        have HX := Lib.hid hx
        have HST := Lib.hid hst
        have HG2 := Lib.hid hg2
        clear hx hst hown1 hg2
        obtain ⟨hxb1, hxb2⟩ := hxb
        obtain ⟨hf1, hf2, hf3, hf4⟩ := hfine
        unfold splV
        simp only
        go_wp2
        go_roundw
        case rel =>
          have hs2 := HST.out
          refine ⟨nx, bump cs j, g, hf4, rfl, ?_, bump_bd cs j p nx HBD.out (by omega), hg1, HG2.out.symm, ?_⟩
          · have := hs2.1
            unfold bump
            rw [HX.out]
            exact this
          · exact (hbr.trans (hb1.mono (by omega))).setCell (p := ⟨w.heap.size, j, none⟩) (Nat.le_refl _) _
        case measure => simp [intOf]; omega
      · have hbad := cnt_bad (cs := cs) hf hlt hc
        rw [HCN.out] at hbad
        generalize spl s (p : Int) = X at *
        obtain ⟨kd, pl, nx, cd⟩ := X
        simp only at hc hbad
        have hcb : (cd != 0) = true := by simpa using hc
        have HBAD := Lib.hid hbad
        clear hbad hc
        unfold splV
        simp only
        go_wp2
        go_ret2
        refine ⟨.slice none 0 0, ?_, ?_, ?_⟩
        · rw [HBAD.out]; rfl
        · rw [HBAD.out]; exact World.ownsRow_nil _ _ _ _
        · exact hbr.trans (hb1.mono (by omega))
    · have hend := cnt_end (cs := cs) hf hp hlt
      rw [HCN.out] at hend
      have HEND := Lib.hid hend
      have hlen : cs.length = 7 := by have := hown.1; simpa [iv] using this
      have HLEN := Lib.hid hlen
      have HOW := Lib.hid hown
      clear hend hown hlen
      go_wp2
      go_ret2
      refine ⟨.slice (some ⟨w.heap.size, 0, none⟩) 7 7, ?_, ?_, ?_⟩
      · rw [HEND.out]; rfl
      · rw [HEND.out, HLEN.out]; exact HOW.out
      · exact hbr
end Go.Proofs.Ytidiiodcpfdnfaa
