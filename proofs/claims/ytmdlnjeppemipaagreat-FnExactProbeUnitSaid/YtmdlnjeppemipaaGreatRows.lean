/-
  No cell of these rows narrows 'for every input' (looked for: loops, veiled, ifaces, maps, wideKeys, modest, calm, conditions, laid).
  DERIVED. THE GIVEN ROWS OF THIS SEAT. 3 by the template 'for every input the law returns true; each argument reads behind the call as it read before'; 0 by the template 'total and deterministic' (their statements: YtmdlnjeppemipaaGreatTotals.lean).
  GIVEN WITH THE SEED: the statements are not yours to turn. If you find one false, say at which input.
  Laid BY PROGRAM, IN A SANDBOX (cutbox-rows.mjs): the forced cells as the released guide's own fill.sh prints them over the translation 3f1b2180a052c04d… (all of the seat's roots in one cut). By AI agents, Wed Nov 11 2026. No macro, syntax, notation, axiom, sorry.
-/
import Derived.Test.YtmdlnjeppemipaaGreatChecked
import GoSem.Claim
import GoSem.ClaimJoined
import GoSem.ClaimMapViews
import Derived.JoinedTies
import Derived.KernelRfl
namespace Go.Proofs.YtmdlnjeppemipaaGreat
/- THE CELL 'sum', in the pinned program and in every row, IS THE sha256 OF THE DUMP (.gsa) THAT YtmdlnjeppemipaaGreatProg.lean LOADS. Nothing in Lean hashes anything: it is a label: what it is worth is what the hold of that sum in a sandbox is worth. -/
noncomputable def Tryz.pinned : Pinned := { name := "ytmdlnjeppemipaagreat", sum := "3f1b2180a052c04d2156038546cafa2e25e6828ac79df638f7c3233928b36819", checked := Tryz.checked }
namespace Rows
def none {H : Type} : Left H := { results := [], args := [] }

/-- 'laws.FnExactWindowLabels': WHATEVER THE INPUT: true; the input reads as it did. -/
def fnExactWindowLabelsSpec : ChangeSpec := { name := "fnExactWindowLabels", fn := fun _ => fun
  | [d1, d2, d3] => { results := [.lit (.bool true)], args := [d1, d2, d3] }
  | _ => none }
def fnExactWindowLabelsRow : OpenClaim := { program := "ytmdlnjeppemipaagreat", sum := "3f1b2180a052c04d2156038546cafa2e25e6828ac79df638f7c3233928b36819", func := "loop.example/g00890/laws.FnExactWindowLabels", spec := "fnExactWindowLabels", unfollowed := true, recurses := true, apart := false }
def FnExactWindowLabelsSaid : Prop := fnExactWindowLabelsRow.holds Tryz.pinned (OpenSpec.ofChange fnExactWindowLabelsSpec)

/-- ITS FALSE NEIGHBOUR: 'it returns false'. Refute it at one input. -/
def fnExactWindowLabelsWrong : ChangeSpec := { name := "fnExactWindowLabels", fn := fun _ => fun
  | [d1, d2, d3] => { results := [.lit (.bool false)], args := [d1, d2, d3] }
  | _ => none }
def FnExactWindowLabelsWrongFalsely : Prop := fnExactWindowLabelsRow.holds Tryz.pinned (OpenSpec.ofChange fnExactWindowLabelsWrong)

/-- 'laws.FnExactWindowShapes': WHATEVER THE INPUT: true; the input reads as it did. -/
def fnExactWindowShapesSpec : ChangeSpec := { name := "fnExactWindowShapes", fn := fun _ => fun
  | [d1, d2, d3, d4] => { results := [.lit (.bool true)], args := [d1, d2, d3, d4] }
  | _ => none }
def fnExactWindowShapesRow : OpenClaim := { program := "ytmdlnjeppemipaagreat", sum := "3f1b2180a052c04d2156038546cafa2e25e6828ac79df638f7c3233928b36819", func := "loop.example/g00890/laws.FnExactWindowShapes", spec := "fnExactWindowShapes", unfollowed := true, recurses := true, apart := false }
def FnExactWindowShapesSaid : Prop := fnExactWindowShapesRow.holds Tryz.pinned (OpenSpec.ofChange fnExactWindowShapesSpec)

/-- ITS FALSE NEIGHBOUR: 'it returns false'. Refute it at one input. -/
def fnExactWindowShapesWrong : ChangeSpec := { name := "fnExactWindowShapes", fn := fun _ => fun
  | [d1, d2, d3, d4] => { results := [.lit (.bool false)], args := [d1, d2, d3, d4] }
  | _ => none }
def FnExactWindowShapesWrongFalsely : Prop := fnExactWindowShapesRow.holds Tryz.pinned (OpenSpec.ofChange fnExactWindowShapesWrong)

/-- 'laws.FnExactProbeUnit': WHATEVER THE INPUT: true; the input reads as it did. -/
def fnExactProbeUnitSpec : ChangeSpec := { name := "fnExactProbeUnit", fn := fun _ => fun
  | [d1, d2, d3] => { results := [.lit (.bool true)], args := [d1, d2, d3] }
  | _ => none }
def fnExactProbeUnitRow : OpenClaim := { program := "ytmdlnjeppemipaagreat", sum := "3f1b2180a052c04d2156038546cafa2e25e6828ac79df638f7c3233928b36819", func := "loop.example/g00890/laws.FnExactProbeUnit", spec := "fnExactProbeUnit", unfollowed := true, recurses := true, apart := false }
def FnExactProbeUnitSaid : Prop := fnExactProbeUnitRow.holds Tryz.pinned (OpenSpec.ofChange fnExactProbeUnitSpec)

/-- ITS FALSE NEIGHBOUR: 'it returns false'. Refute it at one input. -/
def fnExactProbeUnitWrong : ChangeSpec := { name := "fnExactProbeUnit", fn := fun _ => fun
  | [d1, d2, d3] => { results := [.lit (.bool false)], args := [d1, d2, d3] }
  | _ => none }
def FnExactProbeUnitWrongFalsely : Prop := fnExactProbeUnitRow.holds Tryz.pinned (OpenSpec.ofChange fnExactProbeUnitWrong)

/- THE SECOND FORM. 'bulk': how many values and letters a reading holds, each counted each time it is reached (what is shared counts as often as it is met; a slice's spare places count too). A statement '..UptoSaid' is the law's where the arguments, and the package variables that the reading takes, are together of bulk at most 1048576: NARROWER than '..Said'. Prove '..Said' where nothing that the law and all that it calls make is longer than what came in: it says more and counts as full. Else prove '..UptoSaid'. A law counts once. -/
mutual
def uptoBulk {H : Type} : DataW H → Nat
  | .lit (.string bytes) => bytes.length + 1
  | .lit _ => 1
  | .nil => 1
  | .ptr d => uptoBulk d + 1
  | .slice elems spare => uptoBulkAll elems + uptoBulkAll spare + 1
  | .agg parts => uptoBulkAll parts + 1
  | .iface _ d => uptoBulk d + 1
  | .map entries => uptoBulkEntries entries + 1
  | .held _ => 1
def uptoBulkAll {H : Type} : List (DataW H) → Nat
  | [] => 0
  | d :: r => uptoBulk d + uptoBulkAll r
def uptoBulkEntries {H : Type} : List (Lit × DataW H) → Nat
  | [] => 0
  | x :: r => uptoBulkEntry x + uptoBulkEntries r
def uptoBulkEntry {H : Type} : Lit × DataW H → Nat
  | (.string bytes, d) => bytes.length + uptoBulk d + 1
  | (_, d) => uptoBulk d + 1
 end
def uptoSmall : (H : Type) → List (DataW H) → Bool := fun _ ds => decide (uptoBulkAll ds ≤ 1048576)
def OpenSpec.upto (s : _root_.Go.ChangeSpec) : _root_.Go.OpenSpec := { _root_.Go.OpenSpec.ofChange s with cond := some uptoSmall }

/-- 'laws.FnExactWindowLabels', WHERE WHAT IT READS IS OF BULK AT MOST 1048576: true; the input reads as it did. -/
def fnExactWindowLabelsUptoRow : OpenClaim := { program := "ytmdlnjeppemipaagreat", sum := "3f1b2180a052c04d2156038546cafa2e25e6828ac79df638f7c3233928b36819", func := "loop.example/g00890/laws.FnExactWindowLabels", spec := "fnExactWindowLabels", unfollowed := true, recurses := true, apart := false, narrowed := true }
def FnExactWindowLabelsUptoSaid : Prop := fnExactWindowLabelsUptoRow.holds Tryz.pinned (OpenSpec.upto fnExactWindowLabelsSpec)

/-- 'laws.FnExactWindowShapes', WHERE WHAT IT READS IS OF BULK AT MOST 1048576: true; the input reads as it did. -/
def fnExactWindowShapesUptoRow : OpenClaim := { program := "ytmdlnjeppemipaagreat", sum := "3f1b2180a052c04d2156038546cafa2e25e6828ac79df638f7c3233928b36819", func := "loop.example/g00890/laws.FnExactWindowShapes", spec := "fnExactWindowShapes", unfollowed := true, recurses := true, apart := false, narrowed := true }
def FnExactWindowShapesUptoSaid : Prop := fnExactWindowShapesUptoRow.holds Tryz.pinned (OpenSpec.upto fnExactWindowShapesSpec)

/-- 'laws.FnExactProbeUnit', WHERE WHAT IT READS IS OF BULK AT MOST 1048576: true; the input reads as it did. -/
def fnExactProbeUnitUptoRow : OpenClaim := { program := "ytmdlnjeppemipaagreat", sum := "3f1b2180a052c04d2156038546cafa2e25e6828ac79df638f7c3233928b36819", func := "loop.example/g00890/laws.FnExactProbeUnit", spec := "fnExactProbeUnit", unfollowed := true, recurses := true, apart := false, narrowed := true }
def FnExactProbeUnitUptoSaid : Prop := fnExactProbeUnitUptoRow.holds Tryz.pinned (OpenSpec.upto fnExactProbeUnitSpec)

end Rows
end Go.Proofs.YtmdlnjeppemipaaGreat
