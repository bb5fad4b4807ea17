/-
  No cell of these rows narrows 'for every input' (looked for: loops, veiled, ifaces, maps, wideKeys, modest, calm, conditions, laid).
  DERIVED. THE GIVEN ROWS OF THIS SEAT. 8 by the template 'for every input the law returns true; each argument reads behind the call as it read before'; 0 by the template 'total and deterministic' (their statements: YtidiiodcpfdnfaaTotals.lean).
  GIVEN WITH THE SEED: the statements are not yours to turn. If you find one false, say at which input.
  Laid BY PROGRAM, IN A SANDBOX (cutbox-rows.mjs): the forced cells as the released guide's own fill.sh prints them over the translation 216498221ebf44dc… (all of the seat's roots in one cut). By AI agents, Wed Nov 11 2026. No macro, syntax, notation, axiom, sorry.
-/
import Derived.Test.YtidiiodcpfdnfaaChecked
import GoSem.Claim
import GoSem.ClaimJoined
import GoSem.ClaimMapViews
import Derived.JoinedTies
import Derived.KernelRfl
namespace Go.Proofs.Ytidiiodcpfdnfaa
/- THE CELL 'sum', in the pinned program and in every row, IS THE sha256 OF THE DUMP (.gsa) THAT YtidiiodcpfdnfaaProg.lean LOADS. Nothing in Lean hashes anything: it is a label: what it is worth is what the hold of that sum in a sandbox is worth. -/
noncomputable def Try.pinned : Pinned := { name := "ytidiiodcpfdnfaa", sum := "216498221ebf44dc471b0a13056382c83074b8e429a81acb9d930f970aba2a21", checked := Try.checked }
namespace Rows
def none {H : Type} : Left H := { results := [], args := [] }

/-- 'laws.FnExactChecksum16': WHATEVER THE INPUT: true; the input reads as it did. -/
def fnExactChecksum16Spec : ChangeSpec := { name := "fnExactChecksum16", fn := fun _ => fun
  | [d] => { results := [.lit (.bool true)], args := [d] }
  | _ => none }
def fnExactChecksum16Row : OpenClaim := { program := "ytidiiodcpfdnfaa", sum := "216498221ebf44dc471b0a13056382c83074b8e429a81acb9d930f970aba2a21", func := "loop.example/g00890/laws.FnExactChecksum16", spec := "fnExactChecksum16", apart := false }
def FnExactChecksum16Said : Prop := fnExactChecksum16Row.holds Try.pinned (OpenSpec.ofChange fnExactChecksum16Spec)

/-- ITS FALSE NEIGHBOUR: 'it returns false'. Refute it at one input. -/
def fnExactChecksum16Wrong : ChangeSpec := { name := "fnExactChecksum16", fn := fun _ => fun
  | [d] => { results := [.lit (.bool false)], args := [d] }
  | _ => none }
def FnExactChecksum16WrongFalsely : Prop := fnExactChecksum16Row.holds Try.pinned (OpenSpec.ofChange fnExactChecksum16Wrong)

/-- 'laws.FnExactStreamRecord': WHATEVER THE INPUT: true; the input reads as it did. -/
def fnExactStreamRecordSpec : ChangeSpec := { name := "fnExactStreamRecord", fn := fun _ => fun
  | [d1, d2] => { results := [.lit (.bool true)], args := [d1, d2] }
  | _ => none }
def fnExactStreamRecordRow : OpenClaim := { program := "ytidiiodcpfdnfaa", sum := "216498221ebf44dc471b0a13056382c83074b8e429a81acb9d930f970aba2a21", func := "loop.example/g00890/laws.FnExactStreamRecord", spec := "fnExactStreamRecord", apart := false }
def FnExactStreamRecordSaid : Prop := fnExactStreamRecordRow.holds Try.pinned (OpenSpec.ofChange fnExactStreamRecordSpec)

/-- ITS FALSE NEIGHBOUR: 'it returns false'. Refute it at one input. -/
def fnExactStreamRecordWrong : ChangeSpec := { name := "fnExactStreamRecord", fn := fun _ => fun
  | [d1, d2] => { results := [.lit (.bool false)], args := [d1, d2] }
  | _ => none }
def FnExactStreamRecordWrongFalsely : Prop := fnExactStreamRecordRow.holds Try.pinned (OpenSpec.ofChange fnExactStreamRecordWrong)

/-- 'laws.FnExactIsValidRule': WHATEVER THE INPUT: true; the input reads as it did. -/
def fnExactIsValidRuleSpec : ChangeSpec := { name := "fnExactIsValidRule", fn := fun _ => fun
  | [d] => { results := [.lit (.bool true)], args := [d] }
  | _ => none }
def fnExactIsValidRuleRow : OpenClaim := { program := "ytidiiodcpfdnfaa", sum := "216498221ebf44dc471b0a13056382c83074b8e429a81acb9d930f970aba2a21", func := "loop.example/g00890/laws.FnExactIsValidRule", spec := "fnExactIsValidRule", apart := false }
def FnExactIsValidRuleSaid : Prop := fnExactIsValidRuleRow.holds Try.pinned (OpenSpec.ofChange fnExactIsValidRuleSpec)

/-- ITS FALSE NEIGHBOUR: 'it returns false'. Refute it at one input. -/
def fnExactIsValidRuleWrong : ChangeSpec := { name := "fnExactIsValidRule", fn := fun _ => fun
  | [d] => { results := [.lit (.bool false)], args := [d] }
  | _ => none }
def FnExactIsValidRuleWrongFalsely : Prop := fnExactIsValidRuleRow.holds Try.pinned (OpenSpec.ofChange fnExactIsValidRuleWrong)

/-- 'laws.FnExactSplitRecord': WHATEVER THE INPUT: true; the input reads as it did. -/
def fnExactSplitRecordSpec : ChangeSpec := { name := "fnExactSplitRecord", fn := fun _ => fun
  | [d1, d2] => { results := [.lit (.bool true)], args := [d1, d2] }
  | _ => none }
def fnExactSplitRecordRow : OpenClaim := { program := "ytidiiodcpfdnfaa", sum := "216498221ebf44dc471b0a13056382c83074b8e429a81acb9d930f970aba2a21", func := "loop.example/g00890/laws.FnExactSplitRecord", spec := "fnExactSplitRecord", apart := false }
def FnExactSplitRecordSaid : Prop := fnExactSplitRecordRow.holds Try.pinned (OpenSpec.ofChange fnExactSplitRecordSpec)

/-- ITS FALSE NEIGHBOUR: 'it returns false'. Refute it at one input. -/
def fnExactSplitRecordWrong : ChangeSpec := { name := "fnExactSplitRecord", fn := fun _ => fun
  | [d1, d2] => { results := [.lit (.bool false)], args := [d1, d2] }
  | _ => none }
def FnExactSplitRecordWrongFalsely : Prop := fnExactSplitRecordRow.holds Try.pinned (OpenSpec.ofChange fnExactSplitRecordWrong)

/-- 'laws.FnExactRuleReach': WHATEVER THE INPUT: true; the input reads as it did. -/
def fnExactRuleReachSpec : ChangeSpec := { name := "fnExactRuleReach", fn := fun _ => fun
  | [d] => { results := [.lit (.bool true)], args := [d] }
  | _ => none }
def fnExactRuleReachRow : OpenClaim := { program := "ytidiiodcpfdnfaa", sum := "216498221ebf44dc471b0a13056382c83074b8e429a81acb9d930f970aba2a21", func := "loop.example/g00890/laws.FnExactRuleReach", spec := "fnExactRuleReach", apart := false }
def FnExactRuleReachSaid : Prop := fnExactRuleReachRow.holds Try.pinned (OpenSpec.ofChange fnExactRuleReachSpec)

/-- ITS FALSE NEIGHBOUR: 'it returns false'. Refute it at one input. -/
def fnExactRuleReachWrong : ChangeSpec := { name := "fnExactRuleReach", fn := fun _ => fun
  | [d] => { results := [.lit (.bool false)], args := [d] }
  | _ => none }
def FnExactRuleReachWrongFalsely : Prop := fnExactRuleReachRow.holds Try.pinned (OpenSpec.ofChange fnExactRuleReachWrong)

/-- 'laws.FnExactSplitColumns': WHATEVER THE INPUT: true; the input reads as it did. -/
def fnExactSplitColumnsSpec : ChangeSpec := { name := "fnExactSplitColumns", fn := fun _ => fun
  | [d] => { results := [.lit (.bool true)], args := [d] }
  | _ => none }
def fnExactSplitColumnsRow : OpenClaim := { program := "ytidiiodcpfdnfaa", sum := "216498221ebf44dc471b0a13056382c83074b8e429a81acb9d930f970aba2a21", func := "loop.example/g00890/laws.FnExactSplitColumns", spec := "fnExactSplitColumns", apart := false }
def FnExactSplitColumnsSaid : Prop := fnExactSplitColumnsRow.holds Try.pinned (OpenSpec.ofChange fnExactSplitColumnsSpec)

/-- ITS FALSE NEIGHBOUR: 'it returns false'. Refute it at one input. -/
def fnExactSplitColumnsWrong : ChangeSpec := { name := "fnExactSplitColumns", fn := fun _ => fun
  | [d] => { results := [.lit (.bool false)], args := [d] }
  | _ => none }
def FnExactSplitColumnsWrongFalsely : Prop := fnExactSplitColumnsRow.holds Try.pinned (OpenSpec.ofChange fnExactSplitColumnsWrong)

/-- 'laws.FnExactCountRecords': WHATEVER THE INPUT: true; the input reads as it did. -/
def fnExactCountRecordsSpec : ChangeSpec := { name := "fnExactCountRecords", fn := fun _ => fun
  | [d] => { results := [.lit (.bool true)], args := [d] }
  | _ => none }
def fnExactCountRecordsRow : OpenClaim := { program := "ytidiiodcpfdnfaa", sum := "216498221ebf44dc471b0a13056382c83074b8e429a81acb9d930f970aba2a21", func := "loop.example/g00890/laws.FnExactCountRecords", spec := "fnExactCountRecords", apart := false }
def FnExactCountRecordsSaid : Prop := fnExactCountRecordsRow.holds Try.pinned (OpenSpec.ofChange fnExactCountRecordsSpec)

/-- ITS FALSE NEIGHBOUR: 'it returns false'. Refute it at one input. -/
def fnExactCountRecordsWrong : ChangeSpec := { name := "fnExactCountRecords", fn := fun _ => fun
  | [d] => { results := [.lit (.bool false)], args := [d] }
  | _ => none }
def FnExactCountRecordsWrongFalsely : Prop := fnExactCountRecordsRow.holds Try.pinned (OpenSpec.ofChange fnExactCountRecordsWrong)

/-- 'laws.FnExactIsValidDeck': WHATEVER THE INPUT: true; the input reads as it did. -/
def fnExactIsValidDeckSpec : ChangeSpec := { name := "fnExactIsValidDeck", fn := fun _ => fun
  | [d] => { results := [.lit (.bool true)], args := [d] }
  | _ => none }
def fnExactIsValidDeckRow : OpenClaim := { program := "ytidiiodcpfdnfaa", sum := "216498221ebf44dc471b0a13056382c83074b8e429a81acb9d930f970aba2a21", func := "loop.example/g00890/laws.FnExactIsValidDeck", spec := "fnExactIsValidDeck", apart := false }
def FnExactIsValidDeckSaid : Prop := fnExactIsValidDeckRow.holds Try.pinned (OpenSpec.ofChange fnExactIsValidDeckSpec)

/-- ITS FALSE NEIGHBOUR: 'it returns false'. Refute it at one input. -/
def fnExactIsValidDeckWrong : ChangeSpec := { name := "fnExactIsValidDeck", fn := fun _ => fun
  | [d] => { results := [.lit (.bool false)], args := [d] }
  | _ => none }
def FnExactIsValidDeckWrongFalsely : Prop := fnExactIsValidDeckRow.holds Try.pinned (OpenSpec.ofChange fnExactIsValidDeckWrong)

/- THE SECOND FORM. 'bulk': how many values and letters a reading holds, each counted each time it is reached (what is shared counts as often as it is met; a slice's spare places count too). A statement '..UptoSaid' is the law's where the arguments, and the package variables that the reading takes, are together of bulk at most 1048576: NARROWER than '..Said'. Prove '..Said' where nothing that the law and all that it calls make is longer than what came in: it says more and counts as full. Else prove '..UptoSaid'. A law counts once. -/
mutual
def uptoBulk {H : Type} : DataW H → Nat
  | .lit (.string bytes) => bytes.length + 1
  | .lit _ => 1
  | .nil => 1
  | .ptr d => uptoBulk d + 1
  | .slice elems spare => uptoBulkAll elems + uptoBulkAll spare + 1
  | .agg parts => uptoBulkAll parts + 1
  | .iface _ d => uptoBulk d + 1
  | .map entries => uptoBulkEntries entries + 1
  | .held _ => 1
def uptoBulkAll {H : Type} : List (DataW H) → Nat
  | [] => 0
  | d :: r => uptoBulk d + uptoBulkAll r
def uptoBulkEntries {H : Type} : List (Lit × DataW H) → Nat
  | [] => 0
  | x :: r => uptoBulkEntry x + uptoBulkEntries r
def uptoBulkEntry {H : Type} : Lit × DataW H → Nat
  | (.string bytes, d) => bytes.length + uptoBulk d + 1
  | (_, d) => uptoBulk d + 1
 end
def uptoSmall : (H : Type) → List (DataW H) → Bool := fun _ ds => decide (uptoBulkAll ds ≤ 1048576)
def OpenSpec.upto (s : _root_.Go.ChangeSpec) : _root_.Go.OpenSpec := { _root_.Go.OpenSpec.ofChange s with cond := some uptoSmall }

/-- 'laws.FnExactChecksum16', WHERE WHAT IT READS IS OF BULK AT MOST 1048576: true; the input reads as it did. -/
def fnExactChecksum16UptoRow : OpenClaim := { program := "ytidiiodcpfdnfaa", sum := "216498221ebf44dc471b0a13056382c83074b8e429a81acb9d930f970aba2a21", func := "loop.example/g00890/laws.FnExactChecksum16", spec := "fnExactChecksum16", apart := false, narrowed := true }
def FnExactChecksum16UptoSaid : Prop := fnExactChecksum16UptoRow.holds Try.pinned (OpenSpec.upto fnExactChecksum16Spec)

/-- 'laws.FnExactStreamRecord', WHERE WHAT IT READS IS OF BULK AT MOST 1048576: true; the input reads as it did. -/
def fnExactStreamRecordUptoRow : OpenClaim := { program := "ytidiiodcpfdnfaa", sum := "216498221ebf44dc471b0a13056382c83074b8e429a81acb9d930f970aba2a21", func := "loop.example/g00890/laws.FnExactStreamRecord", spec := "fnExactStreamRecord", apart := false, narrowed := true }
def FnExactStreamRecordUptoSaid : Prop := fnExactStreamRecordUptoRow.holds Try.pinned (OpenSpec.upto fnExactStreamRecordSpec)

/-- 'laws.FnExactIsValidRule', WHERE WHAT IT READS IS OF BULK AT MOST 1048576: true; the input reads as it did. -/
def fnExactIsValidRuleUptoRow : OpenClaim := { program := "ytidiiodcpfdnfaa", sum := "216498221ebf44dc471b0a13056382c83074b8e429a81acb9d930f970aba2a21", func := "loop.example/g00890/laws.FnExactIsValidRule", spec := "fnExactIsValidRule", apart := false, narrowed := true }
def FnExactIsValidRuleUptoSaid : Prop := fnExactIsValidRuleUptoRow.holds Try.pinned (OpenSpec.upto fnExactIsValidRuleSpec)

/-- 'laws.FnExactSplitRecord', WHERE WHAT IT READS IS OF BULK AT MOST 1048576: true; the input reads as it did. -/
def fnExactSplitRecordUptoRow : OpenClaim := { program := "ytidiiodcpfdnfaa", sum := "216498221ebf44dc471b0a13056382c83074b8e429a81acb9d930f970aba2a21", func := "loop.example/g00890/laws.FnExactSplitRecord", spec := "fnExactSplitRecord", apart := false, narrowed := true }
def FnExactSplitRecordUptoSaid : Prop := fnExactSplitRecordUptoRow.holds Try.pinned (OpenSpec.upto fnExactSplitRecordSpec)

/-- 'laws.FnExactRuleReach', WHERE WHAT IT READS IS OF BULK AT MOST 1048576: true; the input reads as it did. -/
def fnExactRuleReachUptoRow : OpenClaim := { program := "ytidiiodcpfdnfaa", sum := "216498221ebf44dc471b0a13056382c83074b8e429a81acb9d930f970aba2a21", func := "loop.example/g00890/laws.FnExactRuleReach", spec := "fnExactRuleReach", apart := false, narrowed := true }
def FnExactRuleReachUptoSaid : Prop := fnExactRuleReachUptoRow.holds Try.pinned (OpenSpec.upto fnExactRuleReachSpec)

/-- 'laws.FnExactSplitColumns', WHERE WHAT IT READS IS OF BULK AT MOST 1048576: true; the input reads as it did. -/
def fnExactSplitColumnsUptoRow : OpenClaim := { program := "ytidiiodcpfdnfaa", sum := "216498221ebf44dc471b0a13056382c83074b8e429a81acb9d930f970aba2a21", func := "loop.example/g00890/laws.FnExactSplitColumns", spec := "fnExactSplitColumns", apart := false, narrowed := true }
def FnExactSplitColumnsUptoSaid : Prop := fnExactSplitColumnsUptoRow.holds Try.pinned (OpenSpec.upto fnExactSplitColumnsSpec)

/-- 'laws.FnExactCountRecords', WHERE WHAT IT READS IS OF BULK AT MOST 1048576: true; the input reads as it did. -/
def fnExactCountRecordsUptoRow : OpenClaim := { program := "ytidiiodcpfdnfaa", sum := "216498221ebf44dc471b0a13056382c83074b8e429a81acb9d930f970aba2a21", func := "loop.example/g00890/laws.FnExactCountRecords", spec := "fnExactCountRecords", apart := false, narrowed := true }
def FnExactCountRecordsUptoSaid : Prop := fnExactCountRecordsUptoRow.holds Try.pinned (OpenSpec.upto fnExactCountRecordsSpec)

/-- 'laws.FnExactIsValidDeck', WHERE WHAT IT READS IS OF BULK AT MOST 1048576: true; the input reads as it did. -/
def fnExactIsValidDeckUptoRow : OpenClaim := { program := "ytidiiodcpfdnfaa", sum := "216498221ebf44dc471b0a13056382c83074b8e429a81acb9d930f970aba2a21", func := "loop.example/g00890/laws.FnExactIsValidDeck", spec := "fnExactIsValidDeck", apart := false, narrowed := true }
def FnExactIsValidDeckUptoSaid : Prop := fnExactIsValidDeckUptoRow.holds Try.pinned (OpenSpec.upto fnExactIsValidDeckSpec)

end Rows
end Go.Proofs.Ytidiiodcpfdnfaa
