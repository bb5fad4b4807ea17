/-
  NARROWER THAN 'FOR EVERY INPUT', by the rows' own cells (each row's printed sentence says how): FnExactLayerName: laid · FnExactOrientationName: laid · FnExactOrientationIndex: laid · FnExactLayerIndex: laid.
  DERIVED. THE GIVEN ROWS OF THIS SEAT. 4 by the template 'for every input the law returns true; each argument reads behind the call as it read before'; 0 by the template 'total and deterministic' (their statements: YtidiiodcpfdnfaaDoorTotals.lean).
  GIVEN WITH THE SEED: the statements are not yours to turn. If you find one false, say at which input.
  Laid BY PROGRAM, IN A SANDBOX (cutbox-rows.mjs): the forced cells as the released guide's own fill.sh prints them over the translation 06fec5de4a207cec… (all of the seat's roots in one cut). By AI agents, Wed Nov 11 2026. No macro, syntax, notation, axiom, sorry.
-/
import Derived.Test.YtidiiodcpfdnfaaDoorChecked
import GoSem.Claim
import GoSem.ClaimJoined
import GoSem.ClaimMapViews
import Derived.JoinedTies
import Derived.KernelRfl
namespace Go.Proofs.YtidiiodcpfdnfaaDoor
/- THE CELL 'sum', in the pinned program and in every row, IS THE sha256 OF THE DUMP (.gsa) THAT YtidiiodcpfdnfaaDoorProg.lean LOADS. Nothing in Lean hashes anything: it is a label: what it is worth is what the hold of that sum in a sandbox is worth. -/
noncomputable def Tryd.pinned : Pinned := { name := "ytidiiodcpfdnfaadoor", sum := "06fec5de4a207cecf0d992b09f41d9f763344950f475aeb933e4f4dc24eab5b5", checked := Tryd.checked }
namespace Rows
def none {H : Type} : Left H := { results := [], args := [] }

/- WHAT THE LISTED PACKAGE-LEVEL VARIABLES READ AS WHEN THE CALL BEGINS. Each datum BY PROGRAM (the guide's laid-datum.mjs) off the statement by which the dump's own 'gosem.cut.vars' lays the variable. In a bare row this is a premise. The card (YtidiiodcpfdnfaaDoorCards.lean) ties it to the program's text. -/
def laid_loop_example_g00890_impl_layerNames {H : Type} : DataW H := .agg [.lit (.string [100, 105, 102, 102, 117, 115, 105, 111, 110]), .lit (.string [112, 111, 108, 121]), .lit (.string [99, 111, 110, 116, 97, 99, 116]), .lit (.string [109, 101, 116, 97, 108, 49]), .lit (.string [118, 105, 97]), .lit (.string [109, 101, 116, 97, 108, 50]), .lit (.string [119, 101, 108, 108]), .lit (.string [109, 97, 114, 107, 101, 114])]
def laid_loop_example_g00890_impl_orientationNames {H : Type} : DataW H := .agg [.lit (.string [114, 48]), .lit (.string [114, 57, 48]), .lit (.string [114, 49, 56, 48]), .lit (.string [114, 50, 55, 48]), .lit (.string [109, 48]), .lit (.string [109, 57, 48]), .lit (.string [109, 49, 56, 48]), .lit (.string [109, 50, 55, 48])]

/-- 'laws.FnExactLayerName': WHATEVER THE INPUT: true; the input reads as it did. -/
def fnExactLayerNameSpec : ChangeSpec := { name := "fnExactLayerName", vars := ["loop.example/g00890/impl.layerNames"], fn := fun _ => fun
  | [d, g1] => { results := [.lit (.bool true)], args := [d], vars := [g1] }
  | _ => none }
def fnExactLayerNameRow : OpenClaim := { program := "ytidiiodcpfdnfaadoor", sum := "06fec5de4a207cecf0d992b09f41d9f763344950f475aeb933e4f4dc24eab5b5", func := "loop.example/g00890/laws.FnExactLayerName", spec := "fnExactLayerName", named := ["loop.example/g00890/impl.layerNames"], apart := false, laid := [("loop.example/g00890/impl.layerNames", laid_loop_example_g00890_impl_layerNames)] }
def FnExactLayerNameSaid : Prop := fnExactLayerNameRow.holds Tryd.pinned (OpenSpec.ofChange fnExactLayerNameSpec)

/-- ITS FALSE NEIGHBOUR: 'it returns false'. Refute it at one input. -/
def fnExactLayerNameWrong : ChangeSpec := { name := "fnExactLayerName", vars := ["loop.example/g00890/impl.layerNames"], fn := fun _ => fun
  | [d, g1] => { results := [.lit (.bool false)], args := [d], vars := [g1] }
  | _ => none }
def FnExactLayerNameWrongFalsely : Prop := fnExactLayerNameRow.holds Tryd.pinned (OpenSpec.ofChange fnExactLayerNameWrong)

/-- 'laws.FnExactOrientationName': WHATEVER THE INPUT: true; the input reads as it did. -/
def fnExactOrientationNameSpec : ChangeSpec := { name := "fnExactOrientationName", vars := ["loop.example/g00890/impl.orientationNames"], fn := fun _ => fun
  | [d, g1] => { results := [.lit (.bool true)], args := [d], vars := [g1] }
  | _ => none }
def fnExactOrientationNameRow : OpenClaim := { program := "ytidiiodcpfdnfaadoor", sum := "06fec5de4a207cecf0d992b09f41d9f763344950f475aeb933e4f4dc24eab5b5", func := "loop.example/g00890/laws.FnExactOrientationName", spec := "fnExactOrientationName", named := ["loop.example/g00890/impl.orientationNames"], apart := false, laid := [("loop.example/g00890/impl.orientationNames", laid_loop_example_g00890_impl_orientationNames)] }
def FnExactOrientationNameSaid : Prop := fnExactOrientationNameRow.holds Tryd.pinned (OpenSpec.ofChange fnExactOrientationNameSpec)

/-- ITS FALSE NEIGHBOUR: 'it returns false'. Refute it at one input. -/
def fnExactOrientationNameWrong : ChangeSpec := { name := "fnExactOrientationName", vars := ["loop.example/g00890/impl.orientationNames"], fn := fun _ => fun
  | [d, g1] => { results := [.lit (.bool false)], args := [d], vars := [g1] }
  | _ => none }
def FnExactOrientationNameWrongFalsely : Prop := fnExactOrientationNameRow.holds Tryd.pinned (OpenSpec.ofChange fnExactOrientationNameWrong)

/-- 'laws.FnExactOrientationIndex': WHATEVER THE INPUT: true; the input reads as it did. -/
def fnExactOrientationIndexSpec : ChangeSpec := { name := "fnExactOrientationIndex", vars := ["loop.example/g00890/impl.orientationNames"], fn := fun _ => fun
  | [d, g1] => { results := [.lit (.bool true)], args := [d], vars := [g1] }
  | _ => none }
def fnExactOrientationIndexRow : OpenClaim := { program := "ytidiiodcpfdnfaadoor", sum := "06fec5de4a207cecf0d992b09f41d9f763344950f475aeb933e4f4dc24eab5b5", func := "loop.example/g00890/laws.FnExactOrientationIndex", spec := "fnExactOrientationIndex", named := ["loop.example/g00890/impl.orientationNames"], apart := false, laid := [("loop.example/g00890/impl.orientationNames", laid_loop_example_g00890_impl_orientationNames)] }
def FnExactOrientationIndexSaid : Prop := fnExactOrientationIndexRow.holds Tryd.pinned (OpenSpec.ofChange fnExactOrientationIndexSpec)

/-- ITS FALSE NEIGHBOUR: 'it returns false'. Refute it at one input. -/
def fnExactOrientationIndexWrong : ChangeSpec := { name := "fnExactOrientationIndex", vars := ["loop.example/g00890/impl.orientationNames"], fn := fun _ => fun
  | [d, g1] => { results := [.lit (.bool false)], args := [d], vars := [g1] }
  | _ => none }
def FnExactOrientationIndexWrongFalsely : Prop := fnExactOrientationIndexRow.holds Tryd.pinned (OpenSpec.ofChange fnExactOrientationIndexWrong)

/-- 'laws.FnExactLayerIndex': WHATEVER THE INPUT: true; the input reads as it did. -/
def fnExactLayerIndexSpec : ChangeSpec := { name := "fnExactLayerIndex", vars := ["loop.example/g00890/impl.layerNames"], fn := fun _ => fun
  | [d, g1] => { results := [.lit (.bool true)], args := [d], vars := [g1] }
  | _ => none }
def fnExactLayerIndexRow : OpenClaim := { program := "ytidiiodcpfdnfaadoor", sum := "06fec5de4a207cecf0d992b09f41d9f763344950f475aeb933e4f4dc24eab5b5", func := "loop.example/g00890/laws.FnExactLayerIndex", spec := "fnExactLayerIndex", named := ["loop.example/g00890/impl.layerNames"], apart := false, laid := [("loop.example/g00890/impl.layerNames", laid_loop_example_g00890_impl_layerNames)] }
def FnExactLayerIndexSaid : Prop := fnExactLayerIndexRow.holds Tryd.pinned (OpenSpec.ofChange fnExactLayerIndexSpec)

/-- ITS FALSE NEIGHBOUR: 'it returns false'. Refute it at one input. -/
def fnExactLayerIndexWrong : ChangeSpec := { name := "fnExactLayerIndex", vars := ["loop.example/g00890/impl.layerNames"], fn := fun _ => fun
  | [d, g1] => { results := [.lit (.bool false)], args := [d], vars := [g1] }
  | _ => none }
def FnExactLayerIndexWrongFalsely : Prop := fnExactLayerIndexRow.holds Tryd.pinned (OpenSpec.ofChange fnExactLayerIndexWrong)

/- THE SECOND FORM. 'bulk': how many values and letters a reading holds, each counted each time it is reached (what is shared counts as often as it is met; a slice's spare places count too). A statement '..UptoSaid' is the law's where the arguments, and the package variables that the reading takes, are together of bulk at most 1048576: NARROWER than '..Said'. Prove '..Said' where nothing that the law and all that it calls make is longer than what came in: it says more and counts as full. Else prove '..UptoSaid'. A law counts once. -/
mutual
def uptoBulk {H : Type} : DataW H → Nat
  | .lit (.string bytes) => bytes.length + 1
  | .lit _ => 1
  | .nil => 1
  | .ptr d => uptoBulk d + 1
  | .slice elems spare => uptoBulkAll elems + uptoBulkAll spare + 1
  | .agg parts => uptoBulkAll parts + 1
  | .iface _ d => uptoBulk d + 1
  | .map entries => uptoBulkEntries entries + 1
  | .held _ => 1
def uptoBulkAll {H : Type} : List (DataW H) → Nat
  | [] => 0
  | d :: r => uptoBulk d + uptoBulkAll r
def uptoBulkEntries {H : Type} : List (Lit × DataW H) → Nat
  | [] => 0
  | x :: r => uptoBulkEntry x + uptoBulkEntries r
def uptoBulkEntry {H : Type} : Lit × DataW H → Nat
  | (.string bytes, d) => bytes.length + uptoBulk d + 1
  | (_, d) => uptoBulk d + 1
 end
def uptoSmall : (H : Type) → List (DataW H) → Bool := fun _ ds => decide (uptoBulkAll ds ≤ 1048576)
def OpenSpec.upto (s : _root_.Go.ChangeSpec) : _root_.Go.OpenSpec := { _root_.Go.OpenSpec.ofChange s with cond := some uptoSmall }

/-- 'laws.FnExactLayerName', WHERE WHAT IT READS IS OF BULK AT MOST 1048576: true; the input reads as it did. -/
def fnExactLayerNameUptoRow : OpenClaim := { program := "ytidiiodcpfdnfaadoor", sum := "06fec5de4a207cecf0d992b09f41d9f763344950f475aeb933e4f4dc24eab5b5", func := "loop.example/g00890/laws.FnExactLayerName", spec := "fnExactLayerName", named := ["loop.example/g00890/impl.layerNames"], apart := false, laid := [("loop.example/g00890/impl.layerNames", laid_loop_example_g00890_impl_layerNames)], narrowed := true }
def FnExactLayerNameUptoSaid : Prop := fnExactLayerNameUptoRow.holds Tryd.pinned (OpenSpec.upto fnExactLayerNameSpec)

/-- 'laws.FnExactOrientationName', WHERE WHAT IT READS IS OF BULK AT MOST 1048576: true; the input reads as it did. -/
def fnExactOrientationNameUptoRow : OpenClaim := { program := "ytidiiodcpfdnfaadoor", sum := "06fec5de4a207cecf0d992b09f41d9f763344950f475aeb933e4f4dc24eab5b5", func := "loop.example/g00890/laws.FnExactOrientationName", spec := "fnExactOrientationName", named := ["loop.example/g00890/impl.orientationNames"], apart := false, laid := [("loop.example/g00890/impl.orientationNames", laid_loop_example_g00890_impl_orientationNames)], narrowed := true }
def FnExactOrientationNameUptoSaid : Prop := fnExactOrientationNameUptoRow.holds Tryd.pinned (OpenSpec.upto fnExactOrientationNameSpec)

/-- 'laws.FnExactOrientationIndex', WHERE WHAT IT READS IS OF BULK AT MOST 1048576: true; the input reads as it did. -/
def fnExactOrientationIndexUptoRow : OpenClaim := { program := "ytidiiodcpfdnfaadoor", sum := "06fec5de4a207cecf0d992b09f41d9f763344950f475aeb933e4f4dc24eab5b5", func := "loop.example/g00890/laws.FnExactOrientationIndex", spec := "fnExactOrientationIndex", named := ["loop.example/g00890/impl.orientationNames"], apart := false, laid := [("loop.example/g00890/impl.orientationNames", laid_loop_example_g00890_impl_orientationNames)], narrowed := true }
def FnExactOrientationIndexUptoSaid : Prop := fnExactOrientationIndexUptoRow.holds Tryd.pinned (OpenSpec.upto fnExactOrientationIndexSpec)

/-- 'laws.FnExactLayerIndex', WHERE WHAT IT READS IS OF BULK AT MOST 1048576: true; the input reads as it did. -/
def fnExactLayerIndexUptoRow : OpenClaim := { program := "ytidiiodcpfdnfaadoor", sum := "06fec5de4a207cecf0d992b09f41d9f763344950f475aeb933e4f4dc24eab5b5", func := "loop.example/g00890/laws.FnExactLayerIndex", spec := "fnExactLayerIndex", named := ["loop.example/g00890/impl.layerNames"], apart := false, laid := [("loop.example/g00890/impl.layerNames", laid_loop_example_g00890_impl_layerNames)], narrowed := true }
def FnExactLayerIndexUptoSaid : Prop := fnExactLayerIndexUptoRow.holds Tryd.pinned (OpenSpec.upto fnExactLayerIndexSpec)

end Rows
end Go.Proofs.YtidiiodcpfdnfaaDoor
