/-
  No cell of these rows narrows 'for every input' (looked for: loops, veiled, ifaces, maps, wideKeys, modest, calm, conditions, laid).
  DERIVED. THE GIVEN ROWS OF THIS SEAT. 9 by the template 'for every input the law returns true; each argument reads behind the call as it read before'; 0 by the template 'total and deterministic' (their statements: YtmdlnjeppemipaaTotals.lean).
  GIVEN WITH THE SEED: the statements are not yours to turn. If you find one false, say at which input.
  Laid BY PROGRAM, IN A SANDBOX (cutbox-rows.mjs): the forced cells as the released guide's own fill.sh prints them over the translation 2acd5267682ad57e… (all of the seat's roots in one cut). By AI agents, Wed Nov 11 2026. No macro, syntax, notation, axiom, sorry.
-/
import Derived.Test.YtmdlnjeppemipaaChecked
import GoSem.Claim
import GoSem.ClaimJoined
import GoSem.ClaimMapViews
import Derived.JoinedTies
import Derived.KernelRfl
namespace Go.Proofs.Ytmdlnjeppemipaa
/- THE CELL 'sum', in the pinned program and in every row, IS THE sha256 OF THE DUMP (.gsa) THAT YtmdlnjeppemipaaProg.lean LOADS. Nothing in Lean hashes anything: it is a label: what it is worth is what the hold of that sum in a sandbox is worth. -/
noncomputable def Try.pinned : Pinned := { name := "ytmdlnjeppemipaa", sum := "2acd5267682ad57eb03c8385a7b1dd1a6a7fa42adc420302fbda2366fa55bc92", checked := Try.checked }
namespace Rows
def none {H : Type} : Left H := { results := [], args := [] }

/-- 'laws.FnVisited': WHATEVER THE INPUT: true; the input reads as it did. -/
def fnVisitedSpec : ChangeSpec := { name := "fnVisited", fn := fun _ => fun
  | [d] => { results := [.lit (.bool true)], args := [d] }
  | _ => none }
def fnVisitedRow : OpenClaim := { program := "ytmdlnjeppemipaa", sum := "2acd5267682ad57eb03c8385a7b1dd1a6a7fa42adc420302fbda2366fa55bc92", func := "loop.example/g00890/laws.FnVisited", spec := "fnVisited", unfollowed := true, recurses := true, apart := false }
def FnVisitedSaid : Prop := fnVisitedRow.holds Try.pinned (OpenSpec.ofChange fnVisitedSpec)

/-- ITS FALSE NEIGHBOUR: 'it returns false'. Refute it at one input. -/
def fnVisitedWrong : ChangeSpec := { name := "fnVisited", fn := fun _ => fun
  | [d] => { results := [.lit (.bool false)], args := [d] }
  | _ => none }
def FnVisitedWrongFalsely : Prop := fnVisitedRow.holds Try.pinned (OpenSpec.ofChange fnVisitedWrong)

/-- 'laws.FnExactCellBox': WHATEVER THE INPUT: true; the input reads as it did. -/
def fnExactCellBoxSpec : ChangeSpec := { name := "fnExactCellBox", fn := fun _ => fun
  | [d1, d2] => { results := [.lit (.bool true)], args := [d1, d2] }
  | _ => none }
def fnExactCellBoxRow : OpenClaim := { program := "ytmdlnjeppemipaa", sum := "2acd5267682ad57eb03c8385a7b1dd1a6a7fa42adc420302fbda2366fa55bc92", func := "loop.example/g00890/laws.FnExactCellBox", spec := "fnExactCellBox", unfollowed := true, recurses := true, apart := false }
def FnExactCellBoxSaid : Prop := fnExactCellBoxRow.holds Try.pinned (OpenSpec.ofChange fnExactCellBoxSpec)

/-- ITS FALSE NEIGHBOUR: 'it returns false'. Refute it at one input. -/
def fnExactCellBoxWrong : ChangeSpec := { name := "fnExactCellBox", fn := fun _ => fun
  | [d1, d2] => { results := [.lit (.bool false)], args := [d1, d2] }
  | _ => none }
def FnExactCellBoxWrongFalsely : Prop := fnExactCellBoxRow.holds Try.pinned (OpenSpec.ofChange fnExactCellBoxWrong)

/-- 'laws.FnExactInstanceBox': WHATEVER THE INPUT: true; the input reads as it did. -/
def fnExactInstanceBoxSpec : ChangeSpec := { name := "fnExactInstanceBox", fn := fun _ => fun
  | [d1, d2, d3] => { results := [.lit (.bool true)], args := [d1, d2, d3] }
  | _ => none }
def fnExactInstanceBoxRow : OpenClaim := { program := "ytmdlnjeppemipaa", sum := "2acd5267682ad57eb03c8385a7b1dd1a6a7fa42adc420302fbda2366fa55bc92", func := "loop.example/g00890/laws.FnExactInstanceBox", spec := "fnExactInstanceBox", unfollowed := true, recurses := true, apart := false }
def FnExactInstanceBoxSaid : Prop := fnExactInstanceBoxRow.holds Try.pinned (OpenSpec.ofChange fnExactInstanceBoxSpec)

/-- ITS FALSE NEIGHBOUR: 'it returns false'. Refute it at one input. -/
def fnExactInstanceBoxWrong : ChangeSpec := { name := "fnExactInstanceBox", fn := fun _ => fun
  | [d1, d2, d3] => { results := [.lit (.bool false)], args := [d1, d2, d3] }
  | _ => none }
def FnExactInstanceBoxWrongFalsely : Prop := fnExactInstanceBoxRow.holds Try.pinned (OpenSpec.ofChange fnExactInstanceBoxWrong)

/-- 'laws.FnExactVisitedCount': WHATEVER THE INPUT: true; the input reads as it did. -/
def fnExactVisitedCountSpec : ChangeSpec := { name := "fnExactVisitedCount", fn := fun _ => fun
  | [d1, d2, d3] => { results := [.lit (.bool true)], args := [d1, d2, d3] }
  | _ => none }
def fnExactVisitedCountRow : OpenClaim := { program := "ytmdlnjeppemipaa", sum := "2acd5267682ad57eb03c8385a7b1dd1a6a7fa42adc420302fbda2366fa55bc92", func := "loop.example/g00890/laws.FnExactVisitedCount", spec := "fnExactVisitedCount", unfollowed := true, recurses := true, apart := false }
def FnExactVisitedCountSaid : Prop := fnExactVisitedCountRow.holds Try.pinned (OpenSpec.ofChange fnExactVisitedCountSpec)

/-- ITS FALSE NEIGHBOUR: 'it returns false'. Refute it at one input. -/
def fnExactVisitedCountWrong : ChangeSpec := { name := "fnExactVisitedCount", fn := fun _ => fun
  | [d1, d2, d3] => { results := [.lit (.bool false)], args := [d1, d2, d3] }
  | _ => none }
def FnExactVisitedCountWrongFalsely : Prop := fnExactVisitedCountRow.holds Try.pinned (OpenSpec.ofChange fnExactVisitedCountWrong)

/-- 'laws.FnExactInstancesTouching': WHATEVER THE INPUT: true; the input reads as it did. -/
def fnExactInstancesTouchingSpec : ChangeSpec := { name := "fnExactInstancesTouching", fn := fun _ => fun
  | [d1, d2, d3] => { results := [.lit (.bool true)], args := [d1, d2, d3] }
  | _ => none }
def fnExactInstancesTouchingRow : OpenClaim := { program := "ytmdlnjeppemipaa", sum := "2acd5267682ad57eb03c8385a7b1dd1a6a7fa42adc420302fbda2366fa55bc92", func := "loop.example/g00890/laws.FnExactInstancesTouching", spec := "fnExactInstancesTouching", unfollowed := true, recurses := true, apart := false }
def FnExactInstancesTouchingSaid : Prop := fnExactInstancesTouchingRow.holds Try.pinned (OpenSpec.ofChange fnExactInstancesTouchingSpec)

/-- ITS FALSE NEIGHBOUR: 'it returns false'. Refute it at one input. -/
def fnExactInstancesTouchingWrong : ChangeSpec := { name := "fnExactInstancesTouching", fn := fun _ => fun
  | [d1, d2, d3] => { results := [.lit (.bool false)], args := [d1, d2, d3] }
  | _ => none }
def FnExactInstancesTouchingWrongFalsely : Prop := fnExactInstancesTouchingRow.holds Try.pinned (OpenSpec.ofChange fnExactInstancesTouchingWrong)

/-- 'laws.FnExactInverseEdit': WHATEVER THE INPUT: true; the input reads as it did. -/
def fnExactInverseEditSpec : ChangeSpec := { name := "fnExactInverseEdit", fn := fun _ => fun
  | [d1, d2] => { results := [.lit (.bool true)], args := [d1, d2] }
  | _ => none }
def fnExactInverseEditRow : OpenClaim := { program := "ytmdlnjeppemipaa", sum := "2acd5267682ad57eb03c8385a7b1dd1a6a7fa42adc420302fbda2366fa55bc92", func := "loop.example/g00890/laws.FnExactInverseEdit", spec := "fnExactInverseEdit", unfollowed := true, recurses := true, apart := false }
def FnExactInverseEditSaid : Prop := fnExactInverseEditRow.holds Try.pinned (OpenSpec.ofChange fnExactInverseEditSpec)

/-- ITS FALSE NEIGHBOUR: 'it returns false'. Refute it at one input. -/
def fnExactInverseEditWrong : ChangeSpec := { name := "fnExactInverseEdit", fn := fun _ => fun
  | [d1, d2] => { results := [.lit (.bool false)], args := [d1, d2] }
  | _ => none }
def FnExactInverseEditWrongFalsely : Prop := fnExactInverseEditRow.holds Try.pinned (OpenSpec.ofChange fnExactInverseEditWrong)

/-- 'laws.FnExactSalvageStream': WHATEVER THE INPUT: true; the input reads as it did. -/
def fnExactSalvageStreamSpec : ChangeSpec := { name := "fnExactSalvageStream", fn := fun _ => fun
  | [d] => { results := [.lit (.bool true)], args := [d] }
  | _ => none }
def fnExactSalvageStreamRow : OpenClaim := { program := "ytmdlnjeppemipaa", sum := "2acd5267682ad57eb03c8385a7b1dd1a6a7fa42adc420302fbda2366fa55bc92", func := "loop.example/g00890/laws.FnExactSalvageStream", spec := "fnExactSalvageStream", unfollowed := true, recurses := true, apart := false }
def FnExactSalvageStreamSaid : Prop := fnExactSalvageStreamRow.holds Try.pinned (OpenSpec.ofChange fnExactSalvageStreamSpec)

/-- ITS FALSE NEIGHBOUR: 'it returns false'. Refute it at one input. -/
def fnExactSalvageStreamWrong : ChangeSpec := { name := "fnExactSalvageStream", fn := fun _ => fun
  | [d] => { results := [.lit (.bool false)], args := [d] }
  | _ => none }
def FnExactSalvageStreamWrongFalsely : Prop := fnExactSalvageStreamRow.holds Try.pinned (OpenSpec.ofChange fnExactSalvageStreamWrong)

/-- 'laws.FnExactReadStream': WHATEVER THE INPUT: true; the input reads as it did. -/
def fnExactReadStreamSpec : ChangeSpec := { name := "fnExactReadStream", fn := fun _ => fun
  | [d] => { results := [.lit (.bool true)], args := [d] }
  | _ => none }
def fnExactReadStreamRow : OpenClaim := { program := "ytmdlnjeppemipaa", sum := "2acd5267682ad57eb03c8385a7b1dd1a6a7fa42adc420302fbda2366fa55bc92", func := "loop.example/g00890/laws.FnExactReadStream", spec := "fnExactReadStream", unfollowed := true, recurses := true, apart := false }
def FnExactReadStreamSaid : Prop := fnExactReadStreamRow.holds Try.pinned (OpenSpec.ofChange fnExactReadStreamSpec)

/-- ITS FALSE NEIGHBOUR: 'it returns false'. Refute it at one input. -/
def fnExactReadStreamWrong : ChangeSpec := { name := "fnExactReadStream", fn := fun _ => fun
  | [d] => { results := [.lit (.bool false)], args := [d] }
  | _ => none }
def FnExactReadStreamWrongFalsely : Prop := fnExactReadStreamRow.holds Try.pinned (OpenSpec.ofChange fnExactReadStreamWrong)

/-- 'laws.FnExactNewEditor': WHATEVER THE INPUT: true; the input reads as it did. -/
def fnExactNewEditorSpec : ChangeSpec := { name := "fnExactNewEditor", fn := fun _ => fun
  | [d] => { results := [.lit (.bool true)], args := [d] }
  | _ => none }
def fnExactNewEditorRow : OpenClaim := { program := "ytmdlnjeppemipaa", sum := "2acd5267682ad57eb03c8385a7b1dd1a6a7fa42adc420302fbda2366fa55bc92", func := "loop.example/g00890/laws.FnExactNewEditor", spec := "fnExactNewEditor", unfollowed := true, recurses := true, apart := false }
def FnExactNewEditorSaid : Prop := fnExactNewEditorRow.holds Try.pinned (OpenSpec.ofChange fnExactNewEditorSpec)

/-- ITS FALSE NEIGHBOUR: 'it returns false'. Refute it at one input. -/
def fnExactNewEditorWrong : ChangeSpec := { name := "fnExactNewEditor", fn := fun _ => fun
  | [d] => { results := [.lit (.bool false)], args := [d] }
  | _ => none }
def FnExactNewEditorWrongFalsely : Prop := fnExactNewEditorRow.holds Try.pinned (OpenSpec.ofChange fnExactNewEditorWrong)

/- THE SECOND FORM. 'bulk': how many values and letters a reading holds, each counted each time it is reached (what is shared counts as often as it is met; a slice's spare places count too). A statement '..UptoSaid' is the law's where the arguments, and the package variables that the reading takes, are together of bulk at most 1048576: NARROWER than '..Said'. Prove '..Said' where nothing that the law and all that it calls make is longer than what came in: it says more and counts as full. Else prove '..UptoSaid'. A law counts once. -/
mutual
def uptoBulk {H : Type} : DataW H → Nat
  | .lit (.string bytes) => bytes.length + 1
  | .lit _ => 1
  | .nil => 1
  | .ptr d => uptoBulk d + 1
  | .slice elems spare => uptoBulkAll elems + uptoBulkAll spare + 1
  | .agg parts => uptoBulkAll parts + 1
  | .iface _ d => uptoBulk d + 1
  | .map entries => uptoBulkEntries entries + 1
  | .held _ => 1
def uptoBulkAll {H : Type} : List (DataW H) → Nat
  | [] => 0
  | d :: r => uptoBulk d + uptoBulkAll r
def uptoBulkEntries {H : Type} : List (Lit × DataW H) → Nat
  | [] => 0
  | x :: r => uptoBulkEntry x + uptoBulkEntries r
def uptoBulkEntry {H : Type} : Lit × DataW H → Nat
  | (.string bytes, d) => bytes.length + uptoBulk d + 1
  | (_, d) => uptoBulk d + 1
 end
def uptoSmall : (H : Type) → List (DataW H) → Bool := fun _ ds => decide (uptoBulkAll ds ≤ 1048576)
def OpenSpec.upto (s : _root_.Go.ChangeSpec) : _root_.Go.OpenSpec := { _root_.Go.OpenSpec.ofChange s with cond := some uptoSmall }

/-- 'laws.FnVisited', WHERE WHAT IT READS IS OF BULK AT MOST 1048576: true; the input reads as it did. -/
def fnVisitedUptoRow : OpenClaim := { program := "ytmdlnjeppemipaa", sum := "2acd5267682ad57eb03c8385a7b1dd1a6a7fa42adc420302fbda2366fa55bc92", func := "loop.example/g00890/laws.FnVisited", spec := "fnVisited", unfollowed := true, recurses := true, apart := false, narrowed := true }
def FnVisitedUptoSaid : Prop := fnVisitedUptoRow.holds Try.pinned (OpenSpec.upto fnVisitedSpec)

/-- 'laws.FnExactCellBox', WHERE WHAT IT READS IS OF BULK AT MOST 1048576: true; the input reads as it did. -/
def fnExactCellBoxUptoRow : OpenClaim := { program := "ytmdlnjeppemipaa", sum := "2acd5267682ad57eb03c8385a7b1dd1a6a7fa42adc420302fbda2366fa55bc92", func := "loop.example/g00890/laws.FnExactCellBox", spec := "fnExactCellBox", unfollowed := true, recurses := true, apart := false, narrowed := true }
def FnExactCellBoxUptoSaid : Prop := fnExactCellBoxUptoRow.holds Try.pinned (OpenSpec.upto fnExactCellBoxSpec)

/-- 'laws.FnExactInstanceBox', WHERE WHAT IT READS IS OF BULK AT MOST 1048576: true; the input reads as it did. -/
def fnExactInstanceBoxUptoRow : OpenClaim := { program := "ytmdlnjeppemipaa", sum := "2acd5267682ad57eb03c8385a7b1dd1a6a7fa42adc420302fbda2366fa55bc92", func := "loop.example/g00890/laws.FnExactInstanceBox", spec := "fnExactInstanceBox", unfollowed := true, recurses := true, apart := false, narrowed := true }
def FnExactInstanceBoxUptoSaid : Prop := fnExactInstanceBoxUptoRow.holds Try.pinned (OpenSpec.upto fnExactInstanceBoxSpec)

/-- 'laws.FnExactVisitedCount', WHERE WHAT IT READS IS OF BULK AT MOST 1048576: true; the input reads as it did. -/
def fnExactVisitedCountUptoRow : OpenClaim := { program := "ytmdlnjeppemipaa", sum := "2acd5267682ad57eb03c8385a7b1dd1a6a7fa42adc420302fbda2366fa55bc92", func := "loop.example/g00890/laws.FnExactVisitedCount", spec := "fnExactVisitedCount", unfollowed := true, recurses := true, apart := false, narrowed := true }
def FnExactVisitedCountUptoSaid : Prop := fnExactVisitedCountUptoRow.holds Try.pinned (OpenSpec.upto fnExactVisitedCountSpec)

/-- 'laws.FnExactInstancesTouching', WHERE WHAT IT READS IS OF BULK AT MOST 1048576: true; the input reads as it did. -/
def fnExactInstancesTouchingUptoRow : OpenClaim := { program := "ytmdlnjeppemipaa", sum := "2acd5267682ad57eb03c8385a7b1dd1a6a7fa42adc420302fbda2366fa55bc92", func := "loop.example/g00890/laws.FnExactInstancesTouching", spec := "fnExactInstancesTouching", unfollowed := true, recurses := true, apart := false, narrowed := true }
def FnExactInstancesTouchingUptoSaid : Prop := fnExactInstancesTouchingUptoRow.holds Try.pinned (OpenSpec.upto fnExactInstancesTouchingSpec)

/-- 'laws.FnExactInverseEdit', WHERE WHAT IT READS IS OF BULK AT MOST 1048576: true; the input reads as it did. -/
def fnExactInverseEditUptoRow : OpenClaim := { program := "ytmdlnjeppemipaa", sum := "2acd5267682ad57eb03c8385a7b1dd1a6a7fa42adc420302fbda2366fa55bc92", func := "loop.example/g00890/laws.FnExactInverseEdit", spec := "fnExactInverseEdit", unfollowed := true, recurses := true, apart := false, narrowed := true }
def FnExactInverseEditUptoSaid : Prop := fnExactInverseEditUptoRow.holds Try.pinned (OpenSpec.upto fnExactInverseEditSpec)

/-- 'laws.FnExactSalvageStream', WHERE WHAT IT READS IS OF BULK AT MOST 1048576: true; the input reads as it did. -/
def fnExactSalvageStreamUptoRow : OpenClaim := { program := "ytmdlnjeppemipaa", sum := "2acd5267682ad57eb03c8385a7b1dd1a6a7fa42adc420302fbda2366fa55bc92", func := "loop.example/g00890/laws.FnExactSalvageStream", spec := "fnExactSalvageStream", unfollowed := true, recurses := true, apart := false, narrowed := true }
def FnExactSalvageStreamUptoSaid : Prop := fnExactSalvageStreamUptoRow.holds Try.pinned (OpenSpec.upto fnExactSalvageStreamSpec)

/-- 'laws.FnExactReadStream', WHERE WHAT IT READS IS OF BULK AT MOST 1048576: true; the input reads as it did. -/
def fnExactReadStreamUptoRow : OpenClaim := { program := "ytmdlnjeppemipaa", sum := "2acd5267682ad57eb03c8385a7b1dd1a6a7fa42adc420302fbda2366fa55bc92", func := "loop.example/g00890/laws.FnExactReadStream", spec := "fnExactReadStream", unfollowed := true, recurses := true, apart := false, narrowed := true }
def FnExactReadStreamUptoSaid : Prop := fnExactReadStreamUptoRow.holds Try.pinned (OpenSpec.upto fnExactReadStreamSpec)

/-- 'laws.FnExactNewEditor', WHERE WHAT IT READS IS OF BULK AT MOST 1048576: true; the input reads as it did. -/
def fnExactNewEditorUptoRow : OpenClaim := { program := "ytmdlnjeppemipaa", sum := "2acd5267682ad57eb03c8385a7b1dd1a6a7fa42adc420302fbda2366fa55bc92", func := "loop.example/g00890/laws.FnExactNewEditor", spec := "fnExactNewEditor", unfollowed := true, recurses := true, apart := false, narrowed := true }
def FnExactNewEditorUptoSaid : Prop := fnExactNewEditorUptoRow.holds Try.pinned (OpenSpec.upto fnExactNewEditorSpec)

end Rows
end Go.Proofs.Ytmdlnjeppemipaa
