/-
  THE LAW FnExactCountRecords, PROVED AS STATED: for every argument the call returns true and each argument reads afterwards as before. No condition.
-/
import Derived.Test.YtidiiodcpfdnfaaRows
import Derived.WalkKit
import Derived.ProofKit
import Derived.OpenShut
import Derived.ShutString
import Derived.ChangeOld
import Derived.Below
import Derived.Test.YtidiiodcpfdnfaaWcnt
namespace Go.Proofs.Ytidiiodcpfdnfaa.fnExactCountRecords
open Go.ChangeShapes Go.WideShapes Go.ChangeAt Go.RowKit
open Go.ChangeMaps (open_string shut_string)
set_option linter.unusedVariables false

theorem own : ownKnob Try.prog.godebug = none := by kernel_rfl
theorem laidOut : laidOutB Try.prog = true := by kernel_rfl

theorem CR_impl (s : ByteArray) (w : World) (hs : s.size ≤ 1048576) :
    Calls Try.prog 31 #[.string s] w fun e w' => ∃ A c, e = .returned (.tuple #[.slice A (cntS s).1.length c, .int .i64 (cntS s).2]) ∧ w'.ownsRow w.heap.size 2 1 (.slice A (cntS s).1.length c) (cntS s).1.length (iv (cntS s).1) ∧ Below w.heap.size w w' :=
  (CountRecords_impl s w hs).mono fun e w' ⟨v, he, ho, hb⟩ => by
    obtain ⟨A, c, rfl⟩ := own_shape ho
    exact ⟨A, c, he, ho, hb⟩

theorem CR_spec (s : ByteArray) (w : World) (hs : s.size ≤ 1048576) :
    Calls Try.prog 30 #[.string s] w fun e w' => ∃ A c, e = .returned (.tuple #[.slice A (cntS s).1.length c, .int .i64 (cntS s).2]) ∧ w'.ownsRow w.heap.size 2 1 (.slice A (cntS s).1.length c) (cntS s).1.length (iv (cntS s).1) ∧ Below w.heap.size w w' :=
  (CountRecords_spec s w hs).mono fun e w' ⟨v, he, ho, hb⟩ => by
    obtain ⟨A, c, rfl⟩ := own_shape ho
    exact ⟨A, c, he, ho, hb⟩

set_option maxHeartbeats 1000000 in
theorem walk (s : ByteArray) (w : World) (hs : s.size ≤ maxLen) :
    Calls Try.prog 9 #[.string s] w fun e w' => e = .returned (.bool true) ∧ Below w.heap.size w w' := by
  unfold maxLen at hs
  by_cases hb : 1048576 < s.size
  · go_enter Try.func9, Try.ntmps9
    go_wp2
    go_ret
    exact ⟨rfl, Below.refl _ _⟩
  · have hs2 : s.size ≤ 1048576 := by omega
    have hl7 := cntS_len s
    have c1 := CR_spec s
    have c2 := CR_impl s
    generalize (cntS s).1 = l at *
    generalize (cntS s).2 = cd at *
    have C1 := Lib.hid c1
    have C2 := Lib.hid c2
    clear c1 c2
    go_enter Try.func9, Try.ntmps9
    go_wp2_with fail
    refine (C1.out w hs2).mono ?_
    rintro e w1 ⟨A0, c0, rfl, ho0, hb1⟩
    have HO0 := Lib.hid ho0
    clear ho0
    go_wp2_with fail
    refine (C2.out w1 hs2).mono ?_
    rintro e w2 ⟨A1, c1, rfl, ho1, hb2⟩
    have HO0b := Lib.hid (own_below HO0.out hb2)
    have HO1 := Lib.hid ho1
    have HAP := Lib.hid (apart_own HO0.out ho1)
    clear ho1
    go_wp2_with fail
    refine (eqInt64S_same A1 A0 c1 c0 l w2 (by omega) (own_rd HO1.out).2 (own_rd HO0b.out).2).mono ?_
    rintro e w3 ⟨rfl, m3, rfl⟩
    go_wp2_with fail
    refine (markInt64S_any w1.heap.size (.slice A1 l.length c1) l 1 (w2.drewN m3) HO1.out (by omega) (by omega) (by omega)).mono ?_
    rintro e w4 ⟨rfl, ho4, hg4⟩
    have hb4 : Below w1.heap.size w1 w4 := (below_drewN hb2 m3).trans (grow_below (B := w1.heap.size) hg4 hb2.size (fun k hk => (HO1.out.lt k hk).1))
    have HO0c := Lib.hid ((show (w2.drewN m3).ownsRow _ _ _ _ _ _ from HO0b.out).kept hg4 HAP.out)
    have HO4 := Lib.hid ho4
    clear ho4 hg4
    go_wp2_with fail
    refine (heldInt64S_any A1 c1 l.length 1 w4 (rd_seq HO4.out) (by omega) (by omega) (by omega)).mono ?_
    rintro e w5 ⟨rfl, rfl⟩
    go_wp2_with fail
    refine (C2.out w4 hs2).mono ?_
    rintro e w6 ⟨A2, c2, rfl, ho6, hb6⟩
    have HO0d := Lib.hid (own_below HO0c.out hb6)
    have HO4b := Lib.hid (own_below HO4.out hb6)
    have HO6 := Lib.hid ho6
    clear ho6
    go_wp2_with fail
    refine (eqInt64S_same A2 A0 c2 c0 l w6 (by omega) (own_rd HO6.out).2 (own_rd HO0d.out).2).mono ?_
    rintro e w7 ⟨rfl, m7, rfl⟩
    go_wp2_with fail
    refine (heldInt64S_any A1 c1 l.length 1 (w6.drewN m7) (rd_seq HO4b.out) (by omega) (by omega) (by omega)).mono ?_
    rintro e w8 ⟨rfl, rfl⟩
    go_wp2_with fail
    go_ret
    exact ⟨rfl, below_drewN ((hb1.trans (hb4.mono hb1.size)).trans (hb6.mono (Nat.le_trans hb1.size hb4.size))) _⟩

set_option maxRecDepth 100000 in
theorem lifted (os : Os) (started : os.Started) (H : Type) (enc : TypeId × Value → H) :
    ReturnsInHanded {} Try.checked os 9 .any (Rows.fnExactCountRecordsSpec.pre6 enc Try.prog Try.f9 Rows.fnExactCountRecordsRow.domain false) (Rows.fnExactCountRecordsSpec.post enc Try.prog Try.f9 false true false false) := by
  refine returnsInHanded_of_change (C := Try.checked) own started (by kernel_rfl) Try.func9
    (ChangeSpec.witness6 (enc := enc) (C := Try.checked) false ⟨#[], #[.string ByteArray.empty], []⟩ 8 (by kernel_rfl) (by kernel_rfl) (by kernel_rfl) (by kernel_rfl)) ?_
  intro W base args ds gs before hval0 hW hcnd _
  have hval : ∀ (j : Nat) t v, Try.f9.params[j]? = some t → args[j]? = some v → Value.okWide Try.prog W .any base t v := hval0
  have hW' := hW
  obtain ⟨p, q, hA0, hV, rfl, hfz, hnd⟩ := hW
  have hA : DataW.TrodAll enc Try.prog W 0 (fun _ => true) true Try.f9.params.toList args.toList ds p := hA0
  rw [Try.params9] at hA hval
  obtain ⟨v0, vs0, d0, ds0, p0, q0, hargs, rfl, rfl, h0, r0⟩ := trodAll_cons hA
  obtain ⟨rfl, rfl, rfl⟩ := trodAll_nil r0
  obtain rfl : args = #[v0] := by cases args; simp_all
  obtain ⟨rfl, rfl⟩ := trodVars_none hV
  have k0 := h0
  have lt0 : ∀ x ∈ p0, x.block < W.heap.size := by obtain ⟨m, hm⟩ := k0; exact DataW.trod_lt m _ _ _ hm
  obtain ⟨a0, rfl, rfl, rfl, w0⟩ := open_string Try.underlying9 (hval 0 9 v0 rfl rfl) h0
  clear hA0 hval0
  refine (walk a0 W w0).mono fun e W' ⟨he, bel⟩ => ?_
  subst he
  exact ⟨_, rfl, _, _, _, [], _, [], hW', trodAll_mk1 (shut_bool Try.underlying4 _), (trodAll_cons_mk (Below.trod laidOut (by kernel_rfl) (of_decide_eq_true (by kernel_rfl)) k0 bel lt0) trodAll_mk0), rfl, bel.frame _, fun h => by cases h⟩

theorem over : Rows.fnExactCountRecordsRow.holds Try.pinned (OpenSpec.ofChange Rows.fnExactCountRecordsSpec) :=
  OpenClaim.holds_of_wide 9 Try.f9 rfl rfl rfl rfl rfl rfl rfl ⟨rfl, rfl, rfl, rfl, rfl⟩ rfl rfl rfl rfl rfl (by kernel_rfl) Try.func9 (by kernel_rfl)
    (of_decide_eq_true (by kernel_rfl)) (by unfold Func.isWrapper; first | (rw [if_pos (by decide +kernel)]; kernel_rfl) | (rw [if_neg (by decide +kernel)]; exact ⟨rfl, rfl⟩))
    (fun os started H enc _ => lifted os started H enc)

theorem proved : Rows.FnExactCountRecordsSaid :=
  over
#print axioms proved
end Go.Proofs.Ytidiiodcpfdnfaa.fnExactCountRecords
