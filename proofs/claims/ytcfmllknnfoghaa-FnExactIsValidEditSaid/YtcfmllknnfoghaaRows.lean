/-
  No cell of these rows narrows 'for every input' (looked for: loops, veiled, ifaces, maps, wideKeys, modest, calm, conditions, laid).
  DERIVED. THE GIVEN ROWS OF THIS SEAT. 8 by the template 'for every input the law returns true; each argument reads behind the call as it read before'; 0 by the template 'total and deterministic' (their statements: YtcfmllknnfoghaaTotals.lean).
  GIVEN WITH THE SEED: the statements are not yours to turn. If you find one false, say at which input.
  Laid BY PROGRAM, IN A SANDBOX (cutbox-rows.mjs): the forced cells as the released guide's own fill.sh prints them over the translation 5b501356359f557c… (all of the seat's roots in one cut). By AI agents, Wed Nov 11 2026. No macro, syntax, notation, axiom, sorry.
-/
import Derived.Test.YtcfmllknnfoghaaChecked
import GoSem.Claim
import GoSem.ClaimJoined
import GoSem.ClaimMapViews
import Derived.JoinedTies
import Derived.KernelRfl
namespace Go.Proofs.Ytcfmllknnfoghaa
/- THE CELL 'sum', in the pinned program and in every row, IS THE sha256 OF THE DUMP (.gsa) THAT YtcfmllknnfoghaaProg.lean LOADS. Nothing in Lean hashes anything: it is a label: what it is worth is what the hold of that sum in a sandbox is worth. -/
noncomputable def Try.pinned : Pinned := { name := "ytcfmllknnfoghaa", sum := "5b501356359f557c4e0aa4c653b56ad7418621df057cc06a756f0cd9266a70b7", checked := Try.checked }
namespace Rows
def none {H : Type} : Left H := { results := [], args := [] }

/-- 'laws.FnExactIsValidEdit': WHATEVER THE INPUT: true; the input reads as it did. -/
def fnExactIsValidEditSpec : ChangeSpec := { name := "fnExactIsValidEdit", fn := fun _ => fun
  | [d] => { results := [.lit (.bool true)], args := [d] }
  | _ => none }
def fnExactIsValidEditRow : OpenClaim := { program := "ytcfmllknnfoghaa", sum := "5b501356359f557c4e0aa4c653b56ad7418621df057cc06a756f0cd9266a70b7", func := "loop.example/g00890/laws.FnExactIsValidEdit", spec := "fnExactIsValidEdit", apart := false }
def FnExactIsValidEditSaid : Prop := fnExactIsValidEditRow.holds Try.pinned (OpenSpec.ofChange fnExactIsValidEditSpec)

/-- ITS FALSE NEIGHBOUR: 'it returns false'. Refute it at one input. -/
def fnExactIsValidEditWrong : ChangeSpec := { name := "fnExactIsValidEdit", fn := fun _ => fun
  | [d] => { results := [.lit (.bool false)], args := [d] }
  | _ => none }
def FnExactIsValidEditWrongFalsely : Prop := fnExactIsValidEditRow.holds Try.pinned (OpenSpec.ofChange fnExactIsValidEditWrong)

/-- 'laws.FnExactTextDifference': WHATEVER THE INPUT: true; the input reads as it did. -/
def fnExactTextDifferenceSpec : ChangeSpec := { name := "fnExactTextDifference", fn := fun _ => fun
  | [d1, d2] => { results := [.lit (.bool true)], args := [d1, d2] }
  | _ => none }
def fnExactTextDifferenceRow : OpenClaim := { program := "ytcfmllknnfoghaa", sum := "5b501356359f557c4e0aa4c653b56ad7418621df057cc06a756f0cd9266a70b7", func := "loop.example/g00890/laws.FnExactTextDifference", spec := "fnExactTextDifference", inPlace := ["internal/bytealg.CountString", "internal/bytealg.IndexByteString", "internal/bytealg.IndexString"], named := ["internal/bytealg.MaxLen"], apart := false }
def FnExactTextDifferenceSaid : Prop := fnExactTextDifferenceRow.holds Try.pinned (OpenSpec.ofChange fnExactTextDifferenceSpec)

/-- ITS FALSE NEIGHBOUR: 'it returns false'. Refute it at one input. -/
def fnExactTextDifferenceWrong : ChangeSpec := { name := "fnExactTextDifference", fn := fun _ => fun
  | [d1, d2] => { results := [.lit (.bool false)], args := [d1, d2] }
  | _ => none }
def FnExactTextDifferenceWrongFalsely : Prop := fnExactTextDifferenceRow.holds Try.pinned (OpenSpec.ofChange fnExactTextDifferenceWrong)

/-- 'laws.FnExactEditBytes': WHATEVER THE INPUT: true; the input reads as it did. -/
def fnExactEditBytesSpec : ChangeSpec := { name := "fnExactEditBytes", fn := fun _ => fun
  | [d] => { results := [.lit (.bool true)], args := [d] }
  | _ => none }
def fnExactEditBytesRow : OpenClaim := { program := "ytcfmllknnfoghaa", sum := "5b501356359f557c4e0aa4c653b56ad7418621df057cc06a756f0cd9266a70b7", func := "loop.example/g00890/laws.FnExactEditBytes", spec := "fnExactEditBytes", apart := false }
def FnExactEditBytesSaid : Prop := fnExactEditBytesRow.holds Try.pinned (OpenSpec.ofChange fnExactEditBytesSpec)

/-- ITS FALSE NEIGHBOUR: 'it returns false'. Refute it at one input. -/
def fnExactEditBytesWrong : ChangeSpec := { name := "fnExactEditBytes", fn := fun _ => fun
  | [d] => { results := [.lit (.bool false)], args := [d] }
  | _ => none }
def FnExactEditBytesWrongFalsely : Prop := fnExactEditBytesRow.holds Try.pinned (OpenSpec.ofChange fnExactEditBytesWrong)

/-- 'laws.FnExactRemoveEntry': WHATEVER THE INPUT: true; the input reads as it did. -/
def fnExactRemoveEntrySpec : ChangeSpec := { name := "fnExactRemoveEntry", fn := fun _ => fun
  | [d1, d2] => { results := [.lit (.bool true)], args := [d1, d2] }
  | _ => none }
def fnExactRemoveEntryRow : OpenClaim := { program := "ytcfmllknnfoghaa", sum := "5b501356359f557c4e0aa4c653b56ad7418621df057cc06a756f0cd9266a70b7", func := "loop.example/g00890/laws.FnExactRemoveEntry", spec := "fnExactRemoveEntry", unfollowed := true, recurses := true, apart := false }
def FnExactRemoveEntrySaid : Prop := fnExactRemoveEntryRow.holds Try.pinned (OpenSpec.ofChange fnExactRemoveEntrySpec)

/-- ITS FALSE NEIGHBOUR: 'it returns false'. Refute it at one input. -/
def fnExactRemoveEntryWrong : ChangeSpec := { name := "fnExactRemoveEntry", fn := fun _ => fun
  | [d1, d2] => { results := [.lit (.bool false)], args := [d1, d2] }
  | _ => none }
def FnExactRemoveEntryWrongFalsely : Prop := fnExactRemoveEntryRow.holds Try.pinned (OpenSpec.ofChange fnExactRemoveEntryWrong)

/-- 'laws.FnExactJournalRecord': WHATEVER THE INPUT: true; the input reads as it did. -/
def fnExactJournalRecordSpec : ChangeSpec := { name := "fnExactJournalRecord", fn := fun _ => fun
  | [d] => { results := [.lit (.bool true)], args := [d] }
  | _ => none }
def fnExactJournalRecordRow : OpenClaim := { program := "ytcfmllknnfoghaa", sum := "5b501356359f557c4e0aa4c653b56ad7418621df057cc06a756f0cd9266a70b7", func := "loop.example/g00890/laws.FnExactJournalRecord", spec := "fnExactJournalRecord", unfollowed := true, recurses := true, apart := false }
def FnExactJournalRecordSaid : Prop := fnExactJournalRecordRow.holds Try.pinned (OpenSpec.ofChange fnExactJournalRecordSpec)

/-- ITS FALSE NEIGHBOUR: 'it returns false'. Refute it at one input. -/
def fnExactJournalRecordWrong : ChangeSpec := { name := "fnExactJournalRecord", fn := fun _ => fun
  | [d] => { results := [.lit (.bool false)], args := [d] }
  | _ => none }
def FnExactJournalRecordWrongFalsely : Prop := fnExactJournalRecordRow.holds Try.pinned (OpenSpec.ofChange fnExactJournalRecordWrong)

/-- 'laws.FnExactInsertEntry': WHATEVER THE INPUT: true; the input reads as it did. -/
def fnExactInsertEntrySpec : ChangeSpec := { name := "fnExactInsertEntry", fn := fun _ => fun
  | [d1, d2, d3] => { results := [.lit (.bool true)], args := [d1, d2, d3] }
  | _ => none }
def fnExactInsertEntryRow : OpenClaim := { program := "ytcfmllknnfoghaa", sum := "5b501356359f557c4e0aa4c653b56ad7418621df057cc06a756f0cd9266a70b7", func := "loop.example/g00890/laws.FnExactInsertEntry", spec := "fnExactInsertEntry", inPlace := ["slices.overlaps[loop.example/g00890/impl.SpatialEntry]"], unfollowed := true, recurses := true, apart := false }
def FnExactInsertEntrySaid : Prop := fnExactInsertEntryRow.holds Try.pinned (OpenSpec.ofChange fnExactInsertEntrySpec)

/-- ITS FALSE NEIGHBOUR: 'it returns false'. Refute it at one input. -/
def fnExactInsertEntryWrong : ChangeSpec := { name := "fnExactInsertEntry", fn := fun _ => fun
  | [d1, d2, d3] => { results := [.lit (.bool false)], args := [d1, d2, d3] }
  | _ => none }
def FnExactInsertEntryWrongFalsely : Prop := fnExactInsertEntryRow.holds Try.pinned (OpenSpec.ofChange fnExactInsertEntryWrong)

/-- 'laws.FnCandidates': WHATEVER THE INPUT: true; the input reads as it did. -/
def fnCandidatesSpec : ChangeSpec := { name := "fnCandidates", fn := fun _ => fun
  | [d] => { results := [.lit (.bool true)], args := [d] }
  | _ => none }
def fnCandidatesRow : OpenClaim := { program := "ytcfmllknnfoghaa", sum := "5b501356359f557c4e0aa4c653b56ad7418621df057cc06a756f0cd9266a70b7", func := "loop.example/g00890/laws.FnCandidates", spec := "fnCandidates", unfollowed := true, recurses := true, apart := false }
def FnCandidatesSaid : Prop := fnCandidatesRow.holds Try.pinned (OpenSpec.ofChange fnCandidatesSpec)

/-- ITS FALSE NEIGHBOUR: 'it returns false'. Refute it at one input. -/
def fnCandidatesWrong : ChangeSpec := { name := "fnCandidates", fn := fun _ => fun
  | [d] => { results := [.lit (.bool false)], args := [d] }
  | _ => none }
def FnCandidatesWrongFalsely : Prop := fnCandidatesRow.holds Try.pinned (OpenSpec.ofChange fnCandidatesWrong)

/-- 'laws.FnExactCandidateCount': WHATEVER THE INPUT: true; the input reads as it did. -/
def fnExactCandidateCountSpec : ChangeSpec := { name := "fnExactCandidateCount", fn := fun _ => fun
  | [d1, d2] => { results := [.lit (.bool true)], args := [d1, d2] }
  | _ => none }
def fnExactCandidateCountRow : OpenClaim := { program := "ytcfmllknnfoghaa", sum := "5b501356359f557c4e0aa4c653b56ad7418621df057cc06a756f0cd9266a70b7", func := "loop.example/g00890/laws.FnExactCandidateCount", spec := "fnExactCandidateCount", unfollowed := true, recurses := true, apart := false }
def FnExactCandidateCountSaid : Prop := fnExactCandidateCountRow.holds Try.pinned (OpenSpec.ofChange fnExactCandidateCountSpec)

/-- ITS FALSE NEIGHBOUR: 'it returns false'. Refute it at one input. -/
def fnExactCandidateCountWrong : ChangeSpec := { name := "fnExactCandidateCount", fn := fun _ => fun
  | [d1, d2] => { results := [.lit (.bool false)], args := [d1, d2] }
  | _ => none }
def FnExactCandidateCountWrongFalsely : Prop := fnExactCandidateCountRow.holds Try.pinned (OpenSpec.ofChange fnExactCandidateCountWrong)

/- THE SECOND FORM. 'bulk': how many values and letters a reading holds, each counted each time it is reached (what is shared counts as often as it is met; a slice's spare places count too). A statement '..UptoSaid' is the law's where the arguments, and the package variables that the reading takes, are together of bulk at most 1048576: NARROWER than '..Said'. Prove '..Said' where nothing that the law and all that it calls make is longer than what came in: it says more and counts as full. Else prove '..UptoSaid'. A law counts once. -/
mutual
def uptoBulk {H : Type} : DataW H → Nat
  | .lit (.string bytes) => bytes.length + 1
  | .lit _ => 1
  | .nil => 1
  | .ptr d => uptoBulk d + 1
  | .slice elems spare => uptoBulkAll elems + uptoBulkAll spare + 1
  | .agg parts => uptoBulkAll parts + 1
  | .iface _ d => uptoBulk d + 1
  | .map entries => uptoBulkEntries entries + 1
  | .held _ => 1
def uptoBulkAll {H : Type} : List (DataW H) → Nat
  | [] => 0
  | d :: r => uptoBulk d + uptoBulkAll r
def uptoBulkEntries {H : Type} : List (Lit × DataW H) → Nat
  | [] => 0
  | x :: r => uptoBulkEntry x + uptoBulkEntries r
def uptoBulkEntry {H : Type} : Lit × DataW H → Nat
  | (.string bytes, d) => bytes.length + uptoBulk d + 1
  | (_, d) => uptoBulk d + 1
 end
def uptoSmall : (H : Type) → List (DataW H) → Bool := fun _ ds => decide (uptoBulkAll ds ≤ 1048576)
def OpenSpec.upto (s : _root_.Go.ChangeSpec) : _root_.Go.OpenSpec := { _root_.Go.OpenSpec.ofChange s with cond := some uptoSmall }

/-- 'laws.FnExactIsValidEdit', WHERE WHAT IT READS IS OF BULK AT MOST 1048576: true; the input reads as it did. -/
def fnExactIsValidEditUptoRow : OpenClaim := { program := "ytcfmllknnfoghaa", sum := "5b501356359f557c4e0aa4c653b56ad7418621df057cc06a756f0cd9266a70b7", func := "loop.example/g00890/laws.FnExactIsValidEdit", spec := "fnExactIsValidEdit", apart := false, narrowed := true }
def FnExactIsValidEditUptoSaid : Prop := fnExactIsValidEditUptoRow.holds Try.pinned (OpenSpec.upto fnExactIsValidEditSpec)

/-- 'laws.FnExactTextDifference', WHERE WHAT IT READS IS OF BULK AT MOST 1048576: true; the input reads as it did. -/
def fnExactTextDifferenceUptoRow : OpenClaim := { program := "ytcfmllknnfoghaa", sum := "5b501356359f557c4e0aa4c653b56ad7418621df057cc06a756f0cd9266a70b7", func := "loop.example/g00890/laws.FnExactTextDifference", spec := "fnExactTextDifference", inPlace := ["internal/bytealg.CountString", "internal/bytealg.IndexByteString", "internal/bytealg.IndexString"], named := ["internal/bytealg.MaxLen"], apart := false, narrowed := true }
def FnExactTextDifferenceUptoSaid : Prop := fnExactTextDifferenceUptoRow.holds Try.pinned (OpenSpec.upto fnExactTextDifferenceSpec)

/-- 'laws.FnExactEditBytes', WHERE WHAT IT READS IS OF BULK AT MOST 1048576: true; the input reads as it did. -/
def fnExactEditBytesUptoRow : OpenClaim := { program := "ytcfmllknnfoghaa", sum := "5b501356359f557c4e0aa4c653b56ad7418621df057cc06a756f0cd9266a70b7", func := "loop.example/g00890/laws.FnExactEditBytes", spec := "fnExactEditBytes", apart := false, narrowed := true }
def FnExactEditBytesUptoSaid : Prop := fnExactEditBytesUptoRow.holds Try.pinned (OpenSpec.upto fnExactEditBytesSpec)

/-- 'laws.FnExactRemoveEntry', WHERE WHAT IT READS IS OF BULK AT MOST 1048576: true; the input reads as it did. -/
def fnExactRemoveEntryUptoRow : OpenClaim := { program := "ytcfmllknnfoghaa", sum := "5b501356359f557c4e0aa4c653b56ad7418621df057cc06a756f0cd9266a70b7", func := "loop.example/g00890/laws.FnExactRemoveEntry", spec := "fnExactRemoveEntry", unfollowed := true, recurses := true, apart := false, narrowed := true }
def FnExactRemoveEntryUptoSaid : Prop := fnExactRemoveEntryUptoRow.holds Try.pinned (OpenSpec.upto fnExactRemoveEntrySpec)

/-- 'laws.FnExactJournalRecord', WHERE WHAT IT READS IS OF BULK AT MOST 1048576: true; the input reads as it did. -/
def fnExactJournalRecordUptoRow : OpenClaim := { program := "ytcfmllknnfoghaa", sum := "5b501356359f557c4e0aa4c653b56ad7418621df057cc06a756f0cd9266a70b7", func := "loop.example/g00890/laws.FnExactJournalRecord", spec := "fnExactJournalRecord", unfollowed := true, recurses := true, apart := false, narrowed := true }
def FnExactJournalRecordUptoSaid : Prop := fnExactJournalRecordUptoRow.holds Try.pinned (OpenSpec.upto fnExactJournalRecordSpec)

/-- 'laws.FnExactInsertEntry', WHERE WHAT IT READS IS OF BULK AT MOST 1048576: true; the input reads as it did. -/
def fnExactInsertEntryUptoRow : OpenClaim := { program := "ytcfmllknnfoghaa", sum := "5b501356359f557c4e0aa4c653b56ad7418621df057cc06a756f0cd9266a70b7", func := "loop.example/g00890/laws.FnExactInsertEntry", spec := "fnExactInsertEntry", inPlace := ["slices.overlaps[loop.example/g00890/impl.SpatialEntry]"], unfollowed := true, recurses := true, apart := false, narrowed := true }
def FnExactInsertEntryUptoSaid : Prop := fnExactInsertEntryUptoRow.holds Try.pinned (OpenSpec.upto fnExactInsertEntrySpec)

/-- 'laws.FnCandidates', WHERE WHAT IT READS IS OF BULK AT MOST 1048576: true; the input reads as it did. -/
def fnCandidatesUptoRow : OpenClaim := { program := "ytcfmllknnfoghaa", sum := "5b501356359f557c4e0aa4c653b56ad7418621df057cc06a756f0cd9266a70b7", func := "loop.example/g00890/laws.FnCandidates", spec := "fnCandidates", unfollowed := true, recurses := true, apart := false, narrowed := true }
def FnCandidatesUptoSaid : Prop := fnCandidatesUptoRow.holds Try.pinned (OpenSpec.upto fnCandidatesSpec)

/-- 'laws.FnExactCandidateCount', WHERE WHAT IT READS IS OF BULK AT MOST 1048576: true; the input reads as it did. -/
def fnExactCandidateCountUptoRow : OpenClaim := { program := "ytcfmllknnfoghaa", sum := "5b501356359f557c4e0aa4c653b56ad7418621df057cc06a756f0cd9266a70b7", func := "loop.example/g00890/laws.FnExactCandidateCount", spec := "fnExactCandidateCount", unfollowed := true, recurses := true, apart := false, narrowed := true }
def FnExactCandidateCountUptoSaid : Prop := fnExactCandidateCountUptoRow.holds Try.pinned (OpenSpec.upto fnExactCandidateCountSpec)

end Rows
end Go.Proofs.Ytcfmllknnfoghaa
