/-
  DERIVED. GIVEN WITH THE SEED: THE PROGRAM's TIES (one call each: nine closed facts by the kernel) AND EACH ROW's TIE, after the 31st guide's Derived/Test/Toyas{Tie, Card}.lean. No idea stands in it: it is a product of the set-up. Laid BY PROGRAM, IN A SANDBOX (cutbox-door.mjs). By AI agents, Wed Nov 11 2026. No macro, syntax, notation, axiom, sorry.
-/
import Derived.Test.YtidiiodcpfdnfaaDoorRows
import Derived.LaidByTextLater
import Derived.SevenTiedAt
import Derived.LaidSub
import Derived.LaidOnce
namespace Go.Proofs.YtidiiodcpfdnfaaDoor
open Go
set_option maxRecDepth 100000
theorem seatTie1 : Tryd.prog.laidByTextLater [("loop.example/g00890/impl.orientationNames", Rows.laid_loop_example_g00890_impl_orientationNames), ("loop.example/g00890/impl.layerNames", Rows.laid_loop_example_g00890_impl_layerNames)] [.widerDeep, .widerDeep] true :=
  Program.laidByTextLater_by_one 19 8 9 (by kernel_rfl) (by kernel_rfl) (by kernel_rfl) (by kernel_rfl) (by kernel_rfl) (by kernel_rfl) (fun _ _ => by kernel_rfl)
theorem noOwnUnsafe : Tryd.pinned.checked.prog.headLifts.contains "ownunsafe" = false := by kernel_rfl
theorem tie : Tryd.prog.laidByTextLater [("loop.example/g00890/impl.layerNames", Rows.laid_loop_example_g00890_impl_layerNames)] [.widerDeep] true :=
  Program.laidByTextLater.sub seatTie1 ["loop.example/g00890/impl.layerNames"] (by kernel_rfl) (by kernel_rfl)
theorem fnExactLayerName_row_tie : Rows.fnExactLayerNameRow.laidByTextAt .later Tryd.pinned [.widerDeep] true :=
  OpenClaim.laidByTextAt_later rfl rfl tie noOwnUnsafe
theorem fnExactLayerIndex_row_tie : Rows.fnExactLayerIndexRow.laidByTextAt .later Tryd.pinned [.widerDeep] true :=
  OpenClaim.laidByTextAt_later rfl rfl tie noOwnUnsafe
theorem tie2 : Tryd.prog.laidByTextLater [("loop.example/g00890/impl.orientationNames", Rows.laid_loop_example_g00890_impl_orientationNames)] [.widerDeep] true :=
  Program.laidByTextLater.sub seatTie1 ["loop.example/g00890/impl.orientationNames"] (by kernel_rfl) (by kernel_rfl)
theorem fnExactOrientationName_row_tie : Rows.fnExactOrientationNameRow.laidByTextAt .later Tryd.pinned [.widerDeep] true :=
  OpenClaim.laidByTextAt_later rfl rfl tie2 noOwnUnsafe
theorem fnExactOrientationIndex_row_tie : Rows.fnExactOrientationIndexRow.laidByTextAt .later Tryd.pinned [.widerDeep] true :=
  OpenClaim.laidByTextAt_later rfl rfl tie2 noOwnUnsafe
theorem fnExactLayerNameUpto_row_tie : Rows.fnExactLayerNameUptoRow.laidByTextAt .later Tryd.pinned [.widerDeep] true :=
  OpenClaim.laidByTextAt_later rfl rfl tie noOwnUnsafe
theorem fnExactOrientationNameUpto_row_tie : Rows.fnExactOrientationNameUptoRow.laidByTextAt .later Tryd.pinned [.widerDeep] true :=
  OpenClaim.laidByTextAt_later rfl rfl tie2 noOwnUnsafe
theorem fnExactOrientationIndexUpto_row_tie : Rows.fnExactOrientationIndexUptoRow.laidByTextAt .later Tryd.pinned [.widerDeep] true :=
  OpenClaim.laidByTextAt_later rfl rfl tie2 noOwnUnsafe
theorem fnExactLayerIndexUpto_row_tie : Rows.fnExactLayerIndexUptoRow.laidByTextAt .later Tryd.pinned [.widerDeep] true :=
  OpenClaim.laidByTextAt_later rfl rfl tie noOwnUnsafe
end Go.Proofs.YtidiiodcpfdnfaaDoor
