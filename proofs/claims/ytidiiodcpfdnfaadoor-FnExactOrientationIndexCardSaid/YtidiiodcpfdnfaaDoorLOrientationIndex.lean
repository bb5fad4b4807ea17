/-
  THE LAW FnExactOrientationIndex, over the table loop.example/g00890/impl.orientationNames: the row as stated and its tied card: for every argument the call returns true. No condition of its own; the table's content is tied to the program's text by the given tie.
-/
import Derived.Test.YtidiiodcpfdnfaaDoorCards
import Derived.Test.YtidiiodcpfdnfaaDoorTie
import Derived.WalkKit
import Derived.ProofKit
import Derived.OpenShut
import Derived.ShutString
import Derived.ChangeOld
import Derived.ChangeVars
import Derived.Below
import Derived.Deep.DeepHandedRow
import Derived.Lib.LaidTab
import Derived.Test.YtidiiodcpfdnfaaDoorWnames3
namespace Go.Proofs.YtidiiodcpfdnfaaDoor.fnExactOrientationIndex
open Go.ChangeShapes Go.WideShapes Go.ChangeAt Go.RowKit
open Go.ChangeMaps (open_string shut_string)
set_option linter.unusedVariables false

theorem own : ownKnob Tryd.prog.godebug = none := by kernel_rfl
theorem laidOut : laidOutB Tryd.prog = true := by kernel_rfl
theorem gVar : Tryd.prog.globalNamed "loop.example/g00890/impl.orientationNames" = some 1 := by kernel_rfl
theorem gType : (Tryd.prog.globals[1]?).map (·.type) = some 29 := by kernel_rfl
theorem cellsT : Tryd.prog.cellsOf 29 = 8 := by kernel_rfl
theorem cellsE : Tryd.prog.cellsOf 9 = 1 := by kernel_rfl

/-- WHAT THE ROW's LIST GIVES: the table's cells hold its eight strings. -/
theorem table {W : World} (h : laidMetH Tryd.prog Rows.fnExactOrientationIndexRow.laid W) : W.var? Tryd.prog "loop.example/g00890/impl.orientationNames" = some (oriL.map fun l => Value.string (mkS l)).toArray := by
  have h' : laidMet Tryd.prog [("loop.example/g00890/impl.orientationNames", strData oriL)] W := h
  obtain ⟨ps, ⟨g', t', cs, fuel, p, q, hg', ht', hvar, hd, _, _⟩, _⟩ := h'
  obtain rfl := Option.some.inj (gVar.symm.trans hg')
  obtain rfl := Option.some.inj (gType.symm.trans ht')
  rw [hvar]
  have := cells_of_strs Tryd.underlying29 Tryd.underlying9 cellsE cellsT hd
  rw [← this]

set_option maxHeartbeats 400000 in
theorem walk (s : ByteArray) (w : World) (hs : s.size ≤ maxLen) (ht : w.var? Tryd.prog "loop.example/g00890/impl.orientationNames" = some (oriL.map fun l => Value.string (mkS l)).toArray) :
    Calls Tryd.prog 5 #[.string s] w fun e w' => e = .returned (.bool true) ∧ Below w.heap.size w w' := by
  have hc : ∀ j, j < 8 → w.cell? ⟨1, j, none⟩ = some (.string (mkS (oriL.getD j []))) := fun j hj => tab_cell gVar ht j hj
  have hlt : 1 < w.heap.size := World.block_lt_of_cell? w _ (hc 0 (by decide))
  clear ht
  have HC := Lib.hid hc
  clear hc
  unfold maxLen at hs
  by_cases hb : 1048576 < s.size
  · go_enter Tryd.func5, Tryd.ntmps5
    go_wp2
    go_ret
    exact ⟨rfl, Below.refl _ _⟩
  · go_enter Tryd.func5, Tryd.ntmps5
    go_wp2_with fail
    refine (OrientationIndex_spec _ _).mono ?_
    rintro e w1 ⟨rfl, hb1⟩
    have hc1 : ∀ j, j < 8 → w1.cell? ⟨1, j, none⟩ = some (.string (mkS (oriL.getD j []))) := fun j hj => (hb1.cell (p := ⟨1, j, none⟩) hlt).trans (HC.out j hj)
    have HC1 := Lib.hid hc1
    clear hc1
    go_wp2_with fail
    refine (OrientationIndex_impl _ _ HC1.out).mono ?_
    rintro e w2 ⟨rfl, rfl⟩
    go_wp2_with fail
    go_ret
    exact ⟨rfl, hb1⟩

theorem contract (H : Type) (enc : TypeId × Value → H) (W : World) (base : Nat) (args : Array Value) (ds gs : List (DataW H)) (before : List MemPlace)
    (hval : ∀ (j : Nat) t v, Tryd.f5.params[j]? = some t → args[j]? = some v → Value.okWide Tryd.prog W .any base t v)
    (hW : DataW.Whole enc Tryd.prog Tryd.f5.params.toList Rows.fnExactOrientationIndexSpec.vars false W args.toList ds gs before) (hL : laidMetH Tryd.prog Rows.fnExactOrientationIndexRow.laid W) :
    Calls Tryd.prog 5 args W fun e W' => ∃ v, e = .returned v ∧ Rows.fnExactOrientationIndexSpec.post enc Tryd.prog Tryd.f5 false true false false W args v W' := by
  have hW' := hW
  obtain ⟨p, q, hA0, hV0, rfl, hfz, hnd⟩ := hW
  have hV : DataW.TrodVars enc Tryd.prog W (fun _ => true) ["loop.example/g00890/impl.orientationNames"] gs q := hV0
  have hA : DataW.TrodAll enc Tryd.prog W 0 (fun _ => true) true Tryd.f5.params.toList args.toList ds p := hA0
  rw [Tryd.params5] at hA hval
  obtain ⟨v0, vs0, d0, ds0, p0, q0, hargs, rfl, rfl, h0, r0⟩ := trodAll_cons hA
  obtain ⟨rfl, rfl, rfl⟩ := trodAll_nil r0
  obtain rfl : args = #[v0] := by cases args; simp_all
  obtain ⟨gg, tt, cs, fuel, dv, pv, rfl, hg1, hg2, hv1, hv2, rfl⟩ := trodVars_one hV
  have k0 := h0
  have lt0 : ∀ x ∈ p0, x.block < W.heap.size := by obtain ⟨m, hm⟩ := k0; exact DataW.trod_lt m _ _ _ hm
  obtain ⟨a0, rfl, rfl, rfl, w0⟩ := open_string Tryd.underlying9 (hval 0 9 v0 rfl rfl) h0
  clear hA0
  refine (walk a0 W w0 (table hL)).mono fun e W' ⟨he, bel⟩ => ?_
  subst he
  have e1 : gg = 1 := Option.some.inj (hg1.symm.trans gVar)
  have e2 : tt = 29 := by subst e1; exact Option.some.inj (hg2.symm.trans gType)
  have hlt : gg < W.heap.size := by
    have h := hv1
    simp only [World.var?, hg1, Option.bind_some] at h
    rcases Nat.lt_or_ge gg W.heap.size with hlt | hge
    · exact hlt
    · rw [Array.getElem?_eq_none hge] at h; cases h
  refine ⟨_, rfl, _, _, _, [], _, _, hW', trodAll_mk1 (shut_bool Tryd.underlying4 _), (trodAll_cons_mk (Below.trod laidOut (by kernel_rfl) (of_decide_eq_true (by kernel_rfl)) k0 bel lt0) trodAll_mk0), trodVars_mk1 (p := pv) (fuel := fuel) hg1 hg2 (var_below bel hg1 hlt hv1) ?_, bel.frame _, fun h => by cases h⟩
  rw [← hv2]
  subst e2
  exact trod_strs_world Tryd.underlying29 Tryd.underlying9

/-- A WORLD FOR THE WITNESS. -/
noncomputable def laidWorld (os : Os) : World :=
  { World.holding Tryd.prog os ⟨#[], #[], []⟩ with heap := (World.holding Tryd.prog os ⟨#[], #[], []⟩).heap.modify 1 fun
      | .cells _ t frozen => .cells (oriL.map fun l => Value.string (mkS l)).toArray t frozen
      | o => o }
theorem laid_met (os : Os) : laidMet Tryd.prog Rows.fnExactOrientationIndexRow.laid ((laidWorld os).forCall (fun _ _ => 0) ⟨#[], #[.string ByteArray.empty], []⟩).memory :=
  laidMet_of_run' 8 (by kernel_rfl) (by kernel_rfl)
theorem reads (os : Os) {H : Type} (enc : TypeId × Value → H) : ∃ places, DataW.whole enc Tryd.prog ((laidWorld os).forCall (fun _ _ => 0) ⟨#[], #[.string ByteArray.empty], []⟩).memory Tryd.f5.params.toList Rows.fnExactOrientationIndexSpec.vars false #[(.string ByteArray.empty : Value)].toList 8 = some ([.lit (.string [])], [Rows.laid_loop_example_g00890_impl_orientationNames], places) :=
  ⟨MemPlace.row ⟨1, 0, none⟩ 8, by kernel_rfl⟩

set_option maxRecDepth 100000 in
theorem lifted (os : Os) (started : os.Started) (H : Type) (enc : TypeId × Value → H) (F : Stop.Interp) :
    ReturnsInHanded {} Tryd.checked os 5 .any ((OpenSpec.ofChange Rows.fnExactOrientationIndexSpec).preRow enc Tryd.prog Tryd.f5 Rows.fnExactOrientationIndexRow.domain false Rows.fnExactOrientationIndexRow.laid) (((OpenSpec.ofChange Rows.fnExactOrientationIndexSpec).at F).post enc Tryd.prog Tryd.f5 false true false false) := by
  obtain ⟨places, hx⟩ := reads os enc
  refine returnsInHanded_of_row (C := Tryd.checked) (s := OpenSpec.ofChange Rows.fnExactOrientationIndexSpec) own started (by kernel_rfl) Tryd.func5
    (witness_row_at (enc := enc) (C := Tryd.checked) false (laidWorld os) #[.string ByteArray.empty] rfl (by kernel_rfl) (by kernel_rfl) (by kernel_rfl)
      (OpenSpec.preRow_of_cond 8 hx (by kernel_rfl) (fun k hk => by cases hk) (by kernel_rfl) (laid_met os))) ?_
  intro W base args ds gs before hval hW _ _ _ hL _ _
  exact contract H enc W base args ds gs before hval hW hL

theorem said : Rows.FnExactOrientationIndexSaid :=
  OpenClaim.holds_of_cond 5 Tryd.f5 rfl rfl rfl rfl rfl rfl rfl ⟨rfl, rfl, rfl, rfl, rfl⟩ rfl rfl rfl rfl rfl (by kernel_rfl) Tryd.func5 (by kernel_rfl)
    (of_decide_eq_true (by kernel_rfl)) (by unfold Func.isWrapper; first | (rw [if_pos (by decide +kernel)]; kernel_rfl) | (rw [if_neg (by decide +kernel)]; exact ⟨rfl, rfl⟩))
    (fun os started H enc _ F => by rw [OpenClaim.pre_eq_preRow]; exact lifted os started H enc F)

theorem plain (f : FuncId) (fn : Func) (hf : Tryd.pinned.checked.prog.funcNamed "loop.example/g00890/laws.FnExactOrientationIndex" = some f) (hfn : Tryd.pinned.checked.prog.funcs[f]? = some fn) :
    false = Tryd.pinned.checked.prog.looks [] ∧ ∀ (j : Nat) t, fn.params[j]? = some t → Tryd.pinned.checked.prog.wantsStandIn t = false := by
  obtain rfl : f = 5 := Option.some.inj ((show Tryd.prog.funcNamed "loop.example/g00890/laws.FnExactOrientationIndex" = some 5 by kernel_rfl).symm.trans hf) |>.symm
  obtain rfl : fn = Tryd.f5 := (Option.some.inj (Tryd.func5.symm.trans hfn)).symm
  refine ⟨by kernel_rfl, fun j t ht => ?_⟩
  rw [Tryd.params5] at ht
  obtain rfl : t = 9 := by simpa using Array.mem_of_getElem? ht
  exact (show Tryd.prog.wantsStandIn 9 = false by kernel_rfl)

theorem proved : Rows.FnExactOrientationIndexCardSaid :=
  Claim7.holds_tied_plain_at .later [] _ _ _ _ said (fun _ h => by cases h) (by kernel_rfl) (fun _ h => by cases h) fnExactOrientationIndex_row_tie rfl ⟨rfl, rfl⟩ (by kernel_rfl) rfl plain (by kernel_rfl)
#print axioms proved
end Go.Proofs.YtidiiodcpfdnfaaDoor.fnExactOrientationIndex
