/-
  THE LAW FnExactFormatInstance: the row as stated and its tied card: for every argument the call returns true. No condition of its own; the tables' content is tied to the program's text by the given tie.
-/
import Derived.Test.YtfhkecbopidgiaaDoorCards
import Derived.Test.YtfhkecbopidgiaaDoorTie
import Derived.WalkKit
import Derived.ProofKit
import Derived.OpenShut
import Derived.ShutString
import Derived.ChangeOld
import Derived.ChangeVars
import Derived.Below
import Derived.Deep.DeepHandedRow
import Derived.Lib.LaidTab
import Derived.Test.YtfhkecbopidgiaaDoorAnZFormatInstance
namespace Go.Proofs.YtfhkecbopidgiaaDoor.fnExactFormatInstance
open Go.ChangeShapes Go.WideShapes Go.ChangeAt Go.RowKit
open Go.ChangeMaps (open_string shut_string)
set_option linter.unusedVariables false

theorem own : ownKnob Tryd.prog.godebug = none := by kernel_rfl
theorem laidOut : laidOutB Tryd.prog = true := by kernel_rfl
theorem gVar : Tryd.prog.globalNamed "loop.example/g00890/impl.orientationNames" = some 1 := by kernel_rfl
theorem gType : (Tryd.prog.globals[(1 : Nat)]?).map (·.type) = some 68 := by kernel_rfl
theorem cellsT : Tryd.prog.cellsOf 68 = 8 := by kernel_rfl
theorem cellsE : Tryd.prog.cellsOf 9 = 1 := by kernel_rfl
theorem pVar : Tryd.prog.globalNamed "internal/strconv.uint64pow10" = some 2 := by kernel_rfl
theorem pType : (Tryd.prog.globals[(2 : Nat)]?).map (·.type) = some 149 := by kernel_rfl
theorem cellsP : Tryd.prog.cellsOf 149 = 20 := by kernel_rfl
theorem cellsU : Tryd.prog.cellsOf 129 = 1 := by kernel_rfl

/-- WHAT THE ROW's LIST GIVES: the tables' cells. -/
theorem table {W : World} (h : laidMetH Tryd.prog Rows.fnExactFormatInstanceRow.laid W) : AM.Glo (fun b => b < W.heap.size) W := by
  have h' : laidMet Tryd.prog Rows.fnExactFormatInstanceRow.laid W := h
  obtain ⟨ps, hv, _⟩ := h'
  have m1 : ("loop.example/g00890/impl.orientationNames", AM.strData AM.oriL) ∈ Rows.fnExactFormatInstanceRow.laid := List.mem_cons_of_mem _ (List.mem_cons_of_mem _ (List.mem_cons_of_mem _ List.mem_cons_self))
  have m2 : ("internal/strconv.uint64pow10", Lib.tabData .u64 Lib.pow10Tab) ∈ Rows.fnExactFormatInstanceRow.laid := List.mem_cons_of_mem _ (List.mem_cons_of_mem _ List.mem_cons_self)
  intro x hx
  have hx' : x = (1, AM.oriL.map fun l => Value.string (AM.mkS l)) ∨ x = (2, Lib.pow10Tab.map fun z => Value.int .u64 z) := by
    have : x ∈ [(1, AM.oriL.map fun l => Value.string (AM.mkS l)), (2, Lib.pow10Tab.map fun z => Value.int .u64 z)] := hx
    simpa using this
  rcases hx' with rfl | rfl
  · obtain ⟨g', t', cs, fuel, p, hg', ht', hvar, hd⟩ := AM.laidVar hv m1
    obtain rfl := Option.some.inj (gVar.symm.trans hg')
    obtain rfl := Option.some.inj (gType.symm.trans ht')
    obtain ⟨h1, t, f, h2⟩ := AM.heap_of_var gVar hvar
    have := AM.cells_of_strs Tryd.underlying68 Tryd.underlying9 cellsE cellsT hd
    exact ⟨h1, t, f, by rw [← this]; exact h2⟩
  · obtain ⟨g', t', cs, fuel, p, hg', ht', hvar, hd⟩ := AM.laidVar hv m2
    obtain rfl := Option.some.inj (pVar.symm.trans hg')
    obtain rfl := Option.some.inj (pType.symm.trans ht')
    obtain ⟨h1, t, f, h2⟩ := AM.heap_of_var pVar hvar
    have := Lib.cells_of_tab Tryd.underlying149 Tryd.underlying129 cellsU cellsP hd
    exact ⟨h1, t, f, by rw [← this]; exact h2⟩

theorem walk (e0 : AM.TLibrary) (v0 : Value) (w0 : (AM.wfLibrary) e0) (e1 : Int) (v1 : Value) (w1 : (Lit.int .i64 e1).wf = true) (e2 : Int) (v2 : Value) (w2 : (Lit.int .i64 e2).wf = true) (W : World) (hg : AM.Glo (fun b => b < W.heap.size) W) (r0 : AM.RelV (AM.RelI (fun b => b < W.heap.size) W) (.agg [.bs (AM.len e0.fCells) 4 (AM.row AM.gd (AM.encCell AM.len AM.gd) e0.fCells)]) v0) (r1 : AM.RelV (AM.RelI (fun b => b < W.heap.size) W) (.c (.v (.int .i64 e1))) v1) (r2 : AM.RelV (AM.RelI (fun b => b < W.heap.size) W) (.c (.v (.int .i64 e2))) v2) :
    Calls Tryd.prog 4 #[v0, v1, v2] W fun e w' => e = .returned (.bool true) ∧ Below W.heap.size W w' :=
  (AM.run_laws_FnExactFormatInstance e0 e1 e2 true (AM.lawW_FormatInstance e0 e1 e2 w0 w1 w2)).yes (AM.relT_cons r0 (AM.relT_cons r1 (AM.relT_cons r2 AM.relT_nil))) hg

set_option maxRecDepth 100000 in
theorem contract (H : Type) (enc : TypeId × Value → H) (W : World) (base : Nat) (args : Array Value) (ds gs : List (DataW H)) (before : List MemPlace)
    (hval : ∀ (j : Nat) t v, Tryd.f4.params[j]? = some t → args[j]? = some v → Value.okWide Tryd.prog W .any base t v)
    (hW : DataW.Whole enc Tryd.prog Tryd.f4.params.toList Rows.fnExactFormatInstanceSpec.vars false W args.toList ds gs before) (hL : laidMetH Tryd.prog Rows.fnExactFormatInstanceRow.laid W) :
    Calls Tryd.prog 4 args W fun e W' => ∃ v, e = .returned v ∧ Rows.fnExactFormatInstanceSpec.post enc Tryd.prog Tryd.f4 false true false false W args v W' := by
  have hW' := hW
  obtain ⟨p, q, hA0, hV0, rfl, hfz, hnd⟩ := hW
  have hV : DataW.TrodVars enc Tryd.prog W (fun _ => true) ["loop.example/g00890/impl.orientationNames"] gs q := hV0
  have hA : DataW.TrodAll enc Tryd.prog W 0 (fun _ => true) true Tryd.f4.params.toList args.toList ds p := hA0
  rw [Tryd.params4] at hA hval
  obtain ⟨v0, vs0, d0, ds0, p0, q0, hargs, rfl, rfl, h0, r0⟩ := trodAll_cons hA
  obtain ⟨v1, vs1, d1, ds1, p1, q1, rfl, rfl, rfl, h1, r1⟩ := trodAll_cons r0
  obtain ⟨v2, vs2, d2, ds2, p2, q2, rfl, rfl, rfl, h2, r2⟩ := trodAll_cons r1
  obtain ⟨rfl, rfl, rfl⟩ := trodAll_nil r2
  obtain rfl : args = #[v0, v1, v2] := by cases args; simp_all
  obtain ⟨gg, tt, cs, fuel, dv, pv, rfl, hg1, hg2, hv1, hv2, rfl⟩ := trodVars_one hV
  have k0 := h0
  have lt0 : ∀ x ∈ p0, x.block < W.heap.size := by obtain ⟨m, hm⟩ := k0; exact DataW.trod_lt m _ _ _ hm
  have k1 := h1
  have lt1 : ∀ x ∈ p1, x.block < W.heap.size := by obtain ⟨m, hm⟩ := k1; exact DataW.trod_lt m _ _ _ hm
  have k2 := h2
  have lt2 : ∀ x ∈ p2, x.block < W.heap.size := by obtain ⟨m, hm⟩ := k2; exact DataW.trod_lt m _ _ _ hm
  obtain ⟨e0, w0, rr0⟩ := AM.open_34 (hval 0 34 v0 rfl rfl) h0
  obtain ⟨e1, rfl, rfl, rfl, w1⟩ := open_int Tryd.underlying2 (hval 1 2 v1 rfl rfl) h1
  obtain ⟨e2, rfl, rfl, rfl, w2⟩ := open_int Tryd.underlying2 (hval 2 2 v2 rfl rfl) h2
  clear hA0
  refine (walk e0 v0 w0 e1 (.int .i64 e1) w1 e2 (.int .i64 e2) w2 W (table hL) rr0 ⟨rfl, rfl⟩ ⟨rfl, rfl⟩).mono fun e W' ⟨he, bel⟩ => ?_
  subst he
  have e1 : gg = 1 := Option.some.inj (hg1.symm.trans gVar)
  have e2 : tt = 68 := by subst e1; exact Option.some.inj (hg2.symm.trans gType)
  have hlt : gg < W.heap.size := (AM.heap_of_var hg1 hv1).1
  refine ⟨_, rfl, _, _, _, [], _, _, hW', trodAll_mk1 (shut_bool Tryd.underlying4 _), (trodAll_cons_mk (Below.trod laidOut (by kernel_rfl) (of_decide_eq_true (by kernel_rfl)) k0 bel lt0) (trodAll_cons_mk (Below.trod laidOut (by kernel_rfl) (of_decide_eq_true (by kernel_rfl)) k1 bel lt1) (trodAll_cons_mk (Below.trod laidOut (by kernel_rfl) (of_decide_eq_true (by kernel_rfl)) k2 bel lt2) trodAll_mk0))), trodVars_mk1 (p := pv) (fuel := fuel) hg1 hg2 (AM.var_below bel hg1 hlt hv1) ?_, bel.frame _, fun h => by cases h⟩
  rw [← hv2]
  subst e2
  exact AM.trod_strs_world Tryd.underlying68 Tryd.underlying9

/-- A WORLD FOR THE WITNESS. -/
def fillW (l : List Value) : Obj → Obj
  | .cells _ t frozen => .cells l.toArray t frozen
  | o => o
noncomputable def laidWorld (os : Os) : World :=
  { World.holding Tryd.prog os ⟨#[], #[], []⟩ with heap := ((((World.holding Tryd.prog os ⟨#[], #[], []⟩).heap.modify 1 (fillW (AM.oriL.map fun l => Value.string (AM.mkS l)))).modify 2 (fillW (Lib.pow10Tab.map fun z => Value.int .u64 z))).modify 4 (fillW (([0, 1, 28, 2, 29, 14, 24, 3, 30, 22, 20, 15, 25, 17, 4, 8, 31, 27, 13, 23, 21, 19, 16, 7, 26, 12, 18, 6, 11, 5, 10, 9] : List Int).map fun z => Value.int .u8 z))).modify 5 (fillW (([0, 1, 56, 2, 57, 49, 28, 3, 61, 58, 42, 50, 38, 29, 17, 4, 62, 47, 59, 36, 45, 43, 51, 22, 53, 39, 33, 30, 24, 18, 12, 5, 63, 55, 48, 27, 60, 41, 37, 16, 46, 35, 44, 21, 52, 32, 23, 11, 54, 26, 40, 15, 34, 20, 31, 10, 25, 14, 19, 9, 13, 8, 7, 6] : List Int).map fun z => Value.int .u8 z)) }
theorem laid_met (os : Os) : laidMet Tryd.prog Rows.fnExactFormatInstanceRow.laid ((laidWorld os).forCall (fun _ _ => 0) ⟨#[], #[.agg #[.slice none 0 0], .int .i64 0, .int .i64 0], []⟩).memory :=
  laidMet_of_run' 8 (by kernel_rfl) (by kernel_rfl)
theorem reads (os : Os) {H : Type} (enc : TypeId × Value → H) : ∃ places, DataW.whole enc Tryd.prog ((laidWorld os).forCall (fun _ _ => 0) ⟨#[], #[.agg #[.slice none 0 0], .int .i64 0, .int .i64 0], []⟩).memory Tryd.f4.params.toList Rows.fnExactFormatInstanceSpec.vars false (#[.agg #[.slice none 0 0], .int .i64 0, .int .i64 0] : Array Value).toList 8 = some ([.agg [.nil], .lit (.int .i64 0), .lit (.int .i64 0)], [Rows.laid_loop_example_g00890_impl_orientationNames], places) :=
  ⟨MemPlace.row ⟨1, 0, none⟩ 8, by kernel_rfl⟩

set_option maxRecDepth 100000 in
theorem lifted (os : Os) (started : os.Started) (H : Type) (enc : TypeId × Value → H) (F : Stop.Interp) :
    ReturnsInHanded {} Tryd.checked os 4 .any ((OpenSpec.ofChange Rows.fnExactFormatInstanceSpec).preRow enc Tryd.prog Tryd.f4 Rows.fnExactFormatInstanceRow.domain false Rows.fnExactFormatInstanceRow.laid) (((OpenSpec.ofChange Rows.fnExactFormatInstanceSpec).at F).post enc Tryd.prog Tryd.f4 false true false false) := by
  obtain ⟨places, hx⟩ := reads os enc
  refine returnsInHanded_of_row (C := Tryd.checked) (s := OpenSpec.ofChange Rows.fnExactFormatInstanceSpec) own started (by kernel_rfl) Tryd.func4
    (witness_row_at (enc := enc) (C := Tryd.checked) false (laidWorld os) #[.agg #[.slice none 0 0], .int .i64 0, .int .i64 0] rfl (by kernel_rfl) (by kernel_rfl) (by kernel_rfl)
      (OpenSpec.preRow_of_cond 8 hx (by kernel_rfl) (fun k hk => by cases hk) (by kernel_rfl) (laid_met os))) ?_
  intro W base args ds gs before hval hW _ _ _ hL _ _
  exact contract H enc W base args ds gs before hval hW hL

theorem named : Tryd.pinned.checked.prog.funcNamed Rows.fnExactFormatInstanceRow.func = some 4 := by kernel_rfl
theorem joined : joinedFacts Tryd.pinned.checked.prog 4 Tryd.f4 Rows.fnExactFormatInstanceSpec Rows.fnExactFormatInstanceRow = true := (of_decide_eq_true (by kernel_rfl))
theorem wrapped : Tryd.f4.isWrapper Tryd.pinned.checked.prog Rows.fnExactFormatInstanceRow.wrapper Rows.fnExactFormatInstanceRow.mainSum := (by unfold Func.isWrapper; first | (rw [if_pos (by decide +kernel)]; kernel_rfl) | (rw [if_neg (by decide +kernel)]; exact ⟨rfl, rfl⟩))
theorem said : Rows.FnExactFormatInstanceSaid :=
  OpenClaim.holds_of_cond 4 Tryd.f4 rfl rfl rfl rfl rfl rfl rfl ⟨rfl, rfl, rfl, rfl, rfl⟩ rfl rfl rfl rfl rfl named Tryd.func4 joined
    (of_decide_eq_true (by kernel_rfl)) wrapped
    (fun os started H enc _ F => by rw [OpenClaim.pre_eq_preRow]; exact lifted os started H enc F)

theorem plain (f : FuncId) (fn : Func) (hf : Tryd.pinned.checked.prog.funcNamed "loop.example/g00890/laws.FnExactFormatInstance" = some f) (hfn : Tryd.pinned.checked.prog.funcs[f]? = some fn) :
    false = Tryd.pinned.checked.prog.looks [] ∧ ∀ (j : Nat) t, fn.params[j]? = some t → Tryd.pinned.checked.prog.wantsStandIn t = false := by
  obtain rfl : f = 4 := Option.some.inj ((show Tryd.prog.funcNamed "loop.example/g00890/laws.FnExactFormatInstance" = some 4 by kernel_rfl).symm.trans hf) |>.symm
  obtain rfl : fn = Tryd.f4 := (Option.some.inj (Tryd.func4.symm.trans hfn)).symm
  refine ⟨by kernel_rfl, fun j t ht => ?_⟩
  rw [Tryd.params4] at ht
  have hm : t ∈ ([34, 2, 2] : List Nat) := by
    have := Array.mem_of_getElem? ht
    simpa using this
  simp only [List.mem_cons, List.not_mem_nil, or_false] at hm
  rcases hm with rfl | rfl | rfl
  · exact (show Tryd.prog.wantsStandIn 34 = false by kernel_rfl)
  · exact (show Tryd.prog.wantsStandIn 2 = false by kernel_rfl)
  · exact (show Tryd.prog.wantsStandIn 2 = false by kernel_rfl)

theorem proved : Rows.FnExactFormatInstanceCardSaid :=
  Claim7.holds_tied_plain_at .later [] _ _ _ _ said (fun _ h => by cases h) (by kernel_rfl) (fun _ h => by cases h) fnExactFormatInstance_row_tie rfl ⟨rfl, rfl⟩ (by kernel_rfl) rfl plain (by kernel_rfl)
#print axioms proved
end Go.Proofs.YtfhkecbopidgiaaDoor.fnExactFormatInstance
