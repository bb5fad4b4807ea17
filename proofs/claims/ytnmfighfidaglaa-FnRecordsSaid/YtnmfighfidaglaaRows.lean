/-
  No cell of these rows narrows 'for every input' (looked for: loops, veiled, ifaces, maps, wideKeys, modest, calm, conditions, laid).
  DERIVED. THE GIVEN ROWS OF THIS SEAT. 12 by the template 'for every input the law returns true; each argument reads behind the call as it read before'; 0 by the template 'total and deterministic' (their statements: YtnmfighfidaglaaTotals.lean).
  GIVEN WITH THE SEED: the statements are not yours to turn. If you find one false, say at which input.
  Laid BY PROGRAM, IN A SANDBOX (cutbox-rows.mjs): the forced cells as the released guide's own fill.sh prints them over the translation 4771367640e78fff… (all of the seat's roots in one cut). By AI agents, Wed Nov 11 2026. No macro, syntax, notation, axiom, sorry.
-/
import Derived.Test.YtnmfighfidaglaaChecked
import GoSem.Claim
import GoSem.ClaimJoined
import GoSem.ClaimMapViews
import Derived.JoinedTies
import Derived.KernelRfl
namespace Go.Proofs.Ytnmfighfidaglaa
/- THE CELL 'sum', in the pinned program and in every row, IS THE sha256 OF THE DUMP (.gsa) THAT YtnmfighfidaglaaProg.lean LOADS. Nothing in Lean hashes anything: it is a label: what it is worth is what the hold of that sum in a sandbox is worth. -/
noncomputable def Try.pinned : Pinned := { name := "ytnmfighfidaglaa", sum := "4771367640e78fff86a2f1d531ba64817cc520bf4dd9744059b927104203b5b1", checked := Try.checked }
namespace Rows
def none {H : Type} : Left H := { results := [], args := [] }

/-- 'laws.FnExactSplitColumns': WHATEVER THE INPUT: true; the input reads as it did. -/
def fnExactSplitColumnsSpec : ChangeSpec := { name := "fnExactSplitColumns", fn := fun _ => fun
  | [d] => { results := [.lit (.bool true)], args := [d] }
  | _ => none }
def fnExactSplitColumnsRow : OpenClaim := { program := "ytnmfighfidaglaa", sum := "4771367640e78fff86a2f1d531ba64817cc520bf4dd9744059b927104203b5b1", func := "loop.example/g00890/laws.FnExactSplitColumns", spec := "fnExactSplitColumns", apart := false }
def FnExactSplitColumnsSaid : Prop := fnExactSplitColumnsRow.holds Try.pinned (OpenSpec.ofChange fnExactSplitColumnsSpec)

/-- ITS FALSE NEIGHBOUR: 'it returns false'. Refute it at one input. -/
def fnExactSplitColumnsWrong : ChangeSpec := { name := "fnExactSplitColumns", fn := fun _ => fun
  | [d] => { results := [.lit (.bool false)], args := [d] }
  | _ => none }
def FnExactSplitColumnsWrongFalsely : Prop := fnExactSplitColumnsRow.holds Try.pinned (OpenSpec.ofChange fnExactSplitColumnsWrong)

/-- 'laws.FnExactTextDifference': WHATEVER THE INPUT: true; the input reads as it did. -/
def fnExactTextDifferenceSpec : ChangeSpec := { name := "fnExactTextDifference", fn := fun _ => fun
  | [d1, d2] => { results := [.lit (.bool true)], args := [d1, d2] }
  | _ => none }
def fnExactTextDifferenceRow : OpenClaim := { program := "ytnmfighfidaglaa", sum := "4771367640e78fff86a2f1d531ba64817cc520bf4dd9744059b927104203b5b1", func := "loop.example/g00890/laws.FnExactTextDifference", spec := "fnExactTextDifference", inPlace := ["internal/bytealg.CountString", "internal/bytealg.IndexByteString", "internal/bytealg.IndexString"], named := ["internal/bytealg.MaxLen"], apart := false }
def FnExactTextDifferenceSaid : Prop := fnExactTextDifferenceRow.holds Try.pinned (OpenSpec.ofChange fnExactTextDifferenceSpec)

/-- ITS FALSE NEIGHBOUR: 'it returns false'. Refute it at one input. -/
def fnExactTextDifferenceWrong : ChangeSpec := { name := "fnExactTextDifference", fn := fun _ => fun
  | [d1, d2] => { results := [.lit (.bool false)], args := [d1, d2] }
  | _ => none }
def FnExactTextDifferenceWrongFalsely : Prop := fnExactTextDifferenceRow.holds Try.pinned (OpenSpec.ofChange fnExactTextDifferenceWrong)

/-- 'laws.FnExactEditBytes': WHATEVER THE INPUT: true; the input reads as it did. -/
def fnExactEditBytesSpec : ChangeSpec := { name := "fnExactEditBytes", fn := fun _ => fun
  | [d] => { results := [.lit (.bool true)], args := [d] }
  | _ => none }
def fnExactEditBytesRow : OpenClaim := { program := "ytnmfighfidaglaa", sum := "4771367640e78fff86a2f1d531ba64817cc520bf4dd9744059b927104203b5b1", func := "loop.example/g00890/laws.FnExactEditBytes", spec := "fnExactEditBytes", apart := false }
def FnExactEditBytesSaid : Prop := fnExactEditBytesRow.holds Try.pinned (OpenSpec.ofChange fnExactEditBytesSpec)

/-- ITS FALSE NEIGHBOUR: 'it returns false'. Refute it at one input. -/
def fnExactEditBytesWrong : ChangeSpec := { name := "fnExactEditBytes", fn := fun _ => fun
  | [d] => { results := [.lit (.bool false)], args := [d] }
  | _ => none }
def FnExactEditBytesWrongFalsely : Prop := fnExactEditBytesRow.holds Try.pinned (OpenSpec.ofChange fnExactEditBytesWrong)

/-- 'laws.FnExactJournalRecord': WHATEVER THE INPUT: true; the input reads as it did. -/
def fnExactJournalRecordSpec : ChangeSpec := { name := "fnExactJournalRecord", fn := fun _ => fun
  | [d] => { results := [.lit (.bool true)], args := [d] }
  | _ => none }
def fnExactJournalRecordRow : OpenClaim := { program := "ytnmfighfidaglaa", sum := "4771367640e78fff86a2f1d531ba64817cc520bf4dd9744059b927104203b5b1", func := "loop.example/g00890/laws.FnExactJournalRecord", spec := "fnExactJournalRecord", unfollowed := true, recurses := true, apart := false }
def FnExactJournalRecordSaid : Prop := fnExactJournalRecordRow.holds Try.pinned (OpenSpec.ofChange fnExactJournalRecordSpec)

/-- ITS FALSE NEIGHBOUR: 'it returns false'. Refute it at one input. -/
def fnExactJournalRecordWrong : ChangeSpec := { name := "fnExactJournalRecord", fn := fun _ => fun
  | [d] => { results := [.lit (.bool false)], args := [d] }
  | _ => none }
def FnExactJournalRecordWrongFalsely : Prop := fnExactJournalRecordRow.holds Try.pinned (OpenSpec.ofChange fnExactJournalRecordWrong)

/-- 'laws.FnExactRemoveEntry': WHATEVER THE INPUT: true; the input reads as it did. -/
def fnExactRemoveEntrySpec : ChangeSpec := { name := "fnExactRemoveEntry", fn := fun _ => fun
  | [d1, d2] => { results := [.lit (.bool true)], args := [d1, d2] }
  | _ => none }
def fnExactRemoveEntryRow : OpenClaim := { program := "ytnmfighfidaglaa", sum := "4771367640e78fff86a2f1d531ba64817cc520bf4dd9744059b927104203b5b1", func := "loop.example/g00890/laws.FnExactRemoveEntry", spec := "fnExactRemoveEntry", unfollowed := true, recurses := true, apart := false }
def FnExactRemoveEntrySaid : Prop := fnExactRemoveEntryRow.holds Try.pinned (OpenSpec.ofChange fnExactRemoveEntrySpec)

/-- ITS FALSE NEIGHBOUR: 'it returns false'. Refute it at one input. -/
def fnExactRemoveEntryWrong : ChangeSpec := { name := "fnExactRemoveEntry", fn := fun _ => fun
  | [d1, d2] => { results := [.lit (.bool false)], args := [d1, d2] }
  | _ => none }
def FnExactRemoveEntryWrongFalsely : Prop := fnExactRemoveEntryRow.holds Try.pinned (OpenSpec.ofChange fnExactRemoveEntryWrong)

/-- 'laws.FnExactInsertEntry': WHATEVER THE INPUT: true; the input reads as it did. -/
def fnExactInsertEntrySpec : ChangeSpec := { name := "fnExactInsertEntry", fn := fun _ => fun
  | [d1, d2, d3] => { results := [.lit (.bool true)], args := [d1, d2, d3] }
  | _ => none }
def fnExactInsertEntryRow : OpenClaim := { program := "ytnmfighfidaglaa", sum := "4771367640e78fff86a2f1d531ba64817cc520bf4dd9744059b927104203b5b1", func := "loop.example/g00890/laws.FnExactInsertEntry", spec := "fnExactInsertEntry", inPlace := ["slices.overlaps[loop.example/g00890/impl.SpatialEntry]"], unfollowed := true, recurses := true, apart := false }
def FnExactInsertEntrySaid : Prop := fnExactInsertEntryRow.holds Try.pinned (OpenSpec.ofChange fnExactInsertEntrySpec)

/-- ITS FALSE NEIGHBOUR: 'it returns false'. Refute it at one input. -/
def fnExactInsertEntryWrong : ChangeSpec := { name := "fnExactInsertEntry", fn := fun _ => fun
  | [d1, d2, d3] => { results := [.lit (.bool false)], args := [d1, d2, d3] }
  | _ => none }
def FnExactInsertEntryWrongFalsely : Prop := fnExactInsertEntryRow.holds Try.pinned (OpenSpec.ofChange fnExactInsertEntryWrong)

/-- 'laws.FnCandidates': WHATEVER THE INPUT: true; the input reads as it did. -/
def fnCandidatesSpec : ChangeSpec := { name := "fnCandidates", fn := fun _ => fun
  | [d] => { results := [.lit (.bool true)], args := [d] }
  | _ => none }
def fnCandidatesRow : OpenClaim := { program := "ytnmfighfidaglaa", sum := "4771367640e78fff86a2f1d531ba64817cc520bf4dd9744059b927104203b5b1", func := "loop.example/g00890/laws.FnCandidates", spec := "fnCandidates", unfollowed := true, recurses := true, apart := false }
def FnCandidatesSaid : Prop := fnCandidatesRow.holds Try.pinned (OpenSpec.ofChange fnCandidatesSpec)

/-- ITS FALSE NEIGHBOUR: 'it returns false'. Refute it at one input. -/
def fnCandidatesWrong : ChangeSpec := { name := "fnCandidates", fn := fun _ => fun
  | [d] => { results := [.lit (.bool false)], args := [d] }
  | _ => none }
def FnCandidatesWrongFalsely : Prop := fnCandidatesRow.holds Try.pinned (OpenSpec.ofChange fnCandidatesWrong)

/-- 'laws.FnExactCandidateCount': WHATEVER THE INPUT: true; the input reads as it did. -/
def fnExactCandidateCountSpec : ChangeSpec := { name := "fnExactCandidateCount", fn := fun _ => fun
  | [d1, d2] => { results := [.lit (.bool true)], args := [d1, d2] }
  | _ => none }
def fnExactCandidateCountRow : OpenClaim := { program := "ytnmfighfidaglaa", sum := "4771367640e78fff86a2f1d531ba64817cc520bf4dd9744059b927104203b5b1", func := "loop.example/g00890/laws.FnExactCandidateCount", spec := "fnExactCandidateCount", unfollowed := true, recurses := true, apart := false }
def FnExactCandidateCountSaid : Prop := fnExactCandidateCountRow.holds Try.pinned (OpenSpec.ofChange fnExactCandidateCountSpec)

/-- ITS FALSE NEIGHBOUR: 'it returns false'. Refute it at one input. -/
def fnExactCandidateCountWrong : ChangeSpec := { name := "fnExactCandidateCount", fn := fun _ => fun
  | [d1, d2] => { results := [.lit (.bool false)], args := [d1, d2] }
  | _ => none }
def FnExactCandidateCountWrongFalsely : Prop := fnExactCandidateCountRow.holds Try.pinned (OpenSpec.ofChange fnExactCandidateCountWrong)

/-- 'laws.FnRecords': WHATEVER THE INPUT: true; the input reads as it did. -/
def fnRecordsSpec : ChangeSpec := { name := "fnRecords", fn := fun _ => fun
  | [d] => { results := [.lit (.bool true)], args := [d] }
  | _ => none }
def fnRecordsRow : OpenClaim := { program := "ytnmfighfidaglaa", sum := "4771367640e78fff86a2f1d531ba64817cc520bf4dd9744059b927104203b5b1", func := "loop.example/g00890/laws.FnRecords", spec := "fnRecords", unfollowed := true, recurses := true, apart := false }
def FnRecordsSaid : Prop := fnRecordsRow.holds Try.pinned (OpenSpec.ofChange fnRecordsSpec)

/-- ITS FALSE NEIGHBOUR: 'it returns false'. Refute it at one input. -/
def fnRecordsWrong : ChangeSpec := { name := "fnRecords", fn := fun _ => fun
  | [d] => { results := [.lit (.bool false)], args := [d] }
  | _ => none }
def FnRecordsWrongFalsely : Prop := fnRecordsRow.holds Try.pinned (OpenSpec.ofChange fnRecordsWrong)

/-- 'laws.FnExactCellLine': WHATEVER THE INPUT: true; the input reads as it did. -/
def fnExactCellLineSpec : ChangeSpec := { name := "fnExactCellLine", fn := fun _ => fun
  | [d1, d2] => { results := [.lit (.bool true)], args := [d1, d2] }
  | _ => none }
def fnExactCellLineRow : OpenClaim := { program := "ytnmfighfidaglaa", sum := "4771367640e78fff86a2f1d531ba64817cc520bf4dd9744059b927104203b5b1", func := "loop.example/g00890/laws.FnExactCellLine", spec := "fnExactCellLine", unfollowed := true, recurses := true, apart := false }
def FnExactCellLineSaid : Prop := fnExactCellLineRow.holds Try.pinned (OpenSpec.ofChange fnExactCellLineSpec)

/-- ITS FALSE NEIGHBOUR: 'it returns false'. Refute it at one input. -/
def fnExactCellLineWrong : ChangeSpec := { name := "fnExactCellLine", fn := fun _ => fun
  | [d1, d2] => { results := [.lit (.bool false)], args := [d1, d2] }
  | _ => none }
def FnExactCellLineWrongFalsely : Prop := fnExactCellLineRow.holds Try.pinned (OpenSpec.ofChange fnExactCellLineWrong)

/-- 'laws.FnExactCellRecords': WHATEVER THE INPUT: true; the input reads as it did. -/
def fnExactCellRecordsSpec : ChangeSpec := { name := "fnExactCellRecords", fn := fun _ => fun
  | [d1, d2] => { results := [.lit (.bool true)], args := [d1, d2] }
  | _ => none }
def fnExactCellRecordsRow : OpenClaim := { program := "ytnmfighfidaglaa", sum := "4771367640e78fff86a2f1d531ba64817cc520bf4dd9744059b927104203b5b1", func := "loop.example/g00890/laws.FnExactCellRecords", spec := "fnExactCellRecords", unfollowed := true, recurses := true, apart := false }
def FnExactCellRecordsSaid : Prop := fnExactCellRecordsRow.holds Try.pinned (OpenSpec.ofChange fnExactCellRecordsSpec)

/-- ITS FALSE NEIGHBOUR: 'it returns false'. Refute it at one input. -/
def fnExactCellRecordsWrong : ChangeSpec := { name := "fnExactCellRecords", fn := fun _ => fun
  | [d1, d2] => { results := [.lit (.bool false)], args := [d1, d2] }
  | _ => none }
def FnExactCellRecordsWrongFalsely : Prop := fnExactCellRecordsRow.holds Try.pinned (OpenSpec.ofChange fnExactCellRecordsWrong)

/-- 'laws.FnExactLibraryStream': WHATEVER THE INPUT: true; the input reads as it did. -/
def fnExactLibraryStreamSpec : ChangeSpec := { name := "fnExactLibraryStream", fn := fun _ => fun
  | [d] => { results := [.lit (.bool true)], args := [d] }
  | _ => none }
def fnExactLibraryStreamRow : OpenClaim := { program := "ytnmfighfidaglaa", sum := "4771367640e78fff86a2f1d531ba64817cc520bf4dd9744059b927104203b5b1", func := "loop.example/g00890/laws.FnExactLibraryStream", spec := "fnExactLibraryStream", unfollowed := true, recurses := true, apart := false }
def FnExactLibraryStreamSaid : Prop := fnExactLibraryStreamRow.holds Try.pinned (OpenSpec.ofChange fnExactLibraryStreamSpec)

/-- ITS FALSE NEIGHBOUR: 'it returns false'. Refute it at one input. -/
def fnExactLibraryStreamWrong : ChangeSpec := { name := "fnExactLibraryStream", fn := fun _ => fun
  | [d] => { results := [.lit (.bool false)], args := [d] }
  | _ => none }
def FnExactLibraryStreamWrongFalsely : Prop := fnExactLibraryStreamRow.holds Try.pinned (OpenSpec.ofChange fnExactLibraryStreamWrong)

/- THE SECOND FORM. 'bulk': how many values and letters a reading holds, each counted each time it is reached (what is shared counts as often as it is met; a slice's spare places count too). A statement '..UptoSaid' is the law's where the arguments, and the package variables that the reading takes, are together of bulk at most 1048576: NARROWER than '..Said'. Prove '..Said' where nothing that the law and all that it calls make is longer than what came in: it says more and counts as full. Else prove '..UptoSaid'. A law counts once. -/
mutual
def uptoBulk {H : Type} : DataW H → Nat
  | .lit (.string bytes) => bytes.length + 1
  | .lit _ => 1
  | .nil => 1
  | .ptr d => uptoBulk d + 1
  | .slice elems spare => uptoBulkAll elems + uptoBulkAll spare + 1
  | .agg parts => uptoBulkAll parts + 1
  | .iface _ d => uptoBulk d + 1
  | .map entries => uptoBulkEntries entries + 1
  | .held _ => 1
def uptoBulkAll {H : Type} : List (DataW H) → Nat
  | [] => 0
  | d :: r => uptoBulk d + uptoBulkAll r
def uptoBulkEntries {H : Type} : List (Lit × DataW H) → Nat
  | [] => 0
  | x :: r => uptoBulkEntry x + uptoBulkEntries r
def uptoBulkEntry {H : Type} : Lit × DataW H → Nat
  | (.string bytes, d) => bytes.length + uptoBulk d + 1
  | (_, d) => uptoBulk d + 1
 end
def uptoSmall : (H : Type) → List (DataW H) → Bool := fun _ ds => decide (uptoBulkAll ds ≤ 1048576)
def OpenSpec.upto (s : _root_.Go.ChangeSpec) : _root_.Go.OpenSpec := { _root_.Go.OpenSpec.ofChange s with cond := some uptoSmall }

/-- 'laws.FnExactSplitColumns', WHERE WHAT IT READS IS OF BULK AT MOST 1048576: true; the input reads as it did. -/
def fnExactSplitColumnsUptoRow : OpenClaim := { program := "ytnmfighfidaglaa", sum := "4771367640e78fff86a2f1d531ba64817cc520bf4dd9744059b927104203b5b1", func := "loop.example/g00890/laws.FnExactSplitColumns", spec := "fnExactSplitColumns", apart := false, narrowed := true }
def FnExactSplitColumnsUptoSaid : Prop := fnExactSplitColumnsUptoRow.holds Try.pinned (OpenSpec.upto fnExactSplitColumnsSpec)

/-- 'laws.FnExactTextDifference', WHERE WHAT IT READS IS OF BULK AT MOST 1048576: true; the input reads as it did. -/
def fnExactTextDifferenceUptoRow : OpenClaim := { program := "ytnmfighfidaglaa", sum := "4771367640e78fff86a2f1d531ba64817cc520bf4dd9744059b927104203b5b1", func := "loop.example/g00890/laws.FnExactTextDifference", spec := "fnExactTextDifference", inPlace := ["internal/bytealg.CountString", "internal/bytealg.IndexByteString", "internal/bytealg.IndexString"], named := ["internal/bytealg.MaxLen"], apart := false, narrowed := true }
def FnExactTextDifferenceUptoSaid : Prop := fnExactTextDifferenceUptoRow.holds Try.pinned (OpenSpec.upto fnExactTextDifferenceSpec)

/-- 'laws.FnExactEditBytes', WHERE WHAT IT READS IS OF BULK AT MOST 1048576: true; the input reads as it did. -/
def fnExactEditBytesUptoRow : OpenClaim := { program := "ytnmfighfidaglaa", sum := "4771367640e78fff86a2f1d531ba64817cc520bf4dd9744059b927104203b5b1", func := "loop.example/g00890/laws.FnExactEditBytes", spec := "fnExactEditBytes", apart := false, narrowed := true }
def FnExactEditBytesUptoSaid : Prop := fnExactEditBytesUptoRow.holds Try.pinned (OpenSpec.upto fnExactEditBytesSpec)

/-- 'laws.FnExactJournalRecord', WHERE WHAT IT READS IS OF BULK AT MOST 1048576: true; the input reads as it did. -/
def fnExactJournalRecordUptoRow : OpenClaim := { program := "ytnmfighfidaglaa", sum := "4771367640e78fff86a2f1d531ba64817cc520bf4dd9744059b927104203b5b1", func := "loop.example/g00890/laws.FnExactJournalRecord", spec := "fnExactJournalRecord", unfollowed := true, recurses := true, apart := false, narrowed := true }
def FnExactJournalRecordUptoSaid : Prop := fnExactJournalRecordUptoRow.holds Try.pinned (OpenSpec.upto fnExactJournalRecordSpec)

/-- 'laws.FnExactRemoveEntry', WHERE WHAT IT READS IS OF BULK AT MOST 1048576: true; the input reads as it did. -/
def fnExactRemoveEntryUptoRow : OpenClaim := { program := "ytnmfighfidaglaa", sum := "4771367640e78fff86a2f1d531ba64817cc520bf4dd9744059b927104203b5b1", func := "loop.example/g00890/laws.FnExactRemoveEntry", spec := "fnExactRemoveEntry", unfollowed := true, recurses := true, apart := false, narrowed := true }
def FnExactRemoveEntryUptoSaid : Prop := fnExactRemoveEntryUptoRow.holds Try.pinned (OpenSpec.upto fnExactRemoveEntrySpec)

/-- 'laws.FnExactInsertEntry', WHERE WHAT IT READS IS OF BULK AT MOST 1048576: true; the input reads as it did. -/
def fnExactInsertEntryUptoRow : OpenClaim := { program := "ytnmfighfidaglaa", sum := "4771367640e78fff86a2f1d531ba64817cc520bf4dd9744059b927104203b5b1", func := "loop.example/g00890/laws.FnExactInsertEntry", spec := "fnExactInsertEntry", inPlace := ["slices.overlaps[loop.example/g00890/impl.SpatialEntry]"], unfollowed := true, recurses := true, apart := false, narrowed := true }
def FnExactInsertEntryUptoSaid : Prop := fnExactInsertEntryUptoRow.holds Try.pinned (OpenSpec.upto fnExactInsertEntrySpec)

/-- 'laws.FnCandidates', WHERE WHAT IT READS IS OF BULK AT MOST 1048576: true; the input reads as it did. -/
def fnCandidatesUptoRow : OpenClaim := { program := "ytnmfighfidaglaa", sum := "4771367640e78fff86a2f1d531ba64817cc520bf4dd9744059b927104203b5b1", func := "loop.example/g00890/laws.FnCandidates", spec := "fnCandidates", unfollowed := true, recurses := true, apart := false, narrowed := true }
def FnCandidatesUptoSaid : Prop := fnCandidatesUptoRow.holds Try.pinned (OpenSpec.upto fnCandidatesSpec)

/-- 'laws.FnExactCandidateCount', WHERE WHAT IT READS IS OF BULK AT MOST 1048576: true; the input reads as it did. -/
def fnExactCandidateCountUptoRow : OpenClaim := { program := "ytnmfighfidaglaa", sum := "4771367640e78fff86a2f1d531ba64817cc520bf4dd9744059b927104203b5b1", func := "loop.example/g00890/laws.FnExactCandidateCount", spec := "fnExactCandidateCount", unfollowed := true, recurses := true, apart := false, narrowed := true }
def FnExactCandidateCountUptoSaid : Prop := fnExactCandidateCountUptoRow.holds Try.pinned (OpenSpec.upto fnExactCandidateCountSpec)

/-- 'laws.FnRecords', WHERE WHAT IT READS IS OF BULK AT MOST 1048576: true; the input reads as it did. -/
def fnRecordsUptoRow : OpenClaim := { program := "ytnmfighfidaglaa", sum := "4771367640e78fff86a2f1d531ba64817cc520bf4dd9744059b927104203b5b1", func := "loop.example/g00890/laws.FnRecords", spec := "fnRecords", unfollowed := true, recurses := true, apart := false, narrowed := true }
def FnRecordsUptoSaid : Prop := fnRecordsUptoRow.holds Try.pinned (OpenSpec.upto fnRecordsSpec)

/-- 'laws.FnExactCellLine', WHERE WHAT IT READS IS OF BULK AT MOST 1048576: true; the input reads as it did. -/
def fnExactCellLineUptoRow : OpenClaim := { program := "ytnmfighfidaglaa", sum := "4771367640e78fff86a2f1d531ba64817cc520bf4dd9744059b927104203b5b1", func := "loop.example/g00890/laws.FnExactCellLine", spec := "fnExactCellLine", unfollowed := true, recurses := true, apart := false, narrowed := true }
def FnExactCellLineUptoSaid : Prop := fnExactCellLineUptoRow.holds Try.pinned (OpenSpec.upto fnExactCellLineSpec)

/-- 'laws.FnExactCellRecords', WHERE WHAT IT READS IS OF BULK AT MOST 1048576: true; the input reads as it did. -/
def fnExactCellRecordsUptoRow : OpenClaim := { program := "ytnmfighfidaglaa", sum := "4771367640e78fff86a2f1d531ba64817cc520bf4dd9744059b927104203b5b1", func := "loop.example/g00890/laws.FnExactCellRecords", spec := "fnExactCellRecords", unfollowed := true, recurses := true, apart := false, narrowed := true }
def FnExactCellRecordsUptoSaid : Prop := fnExactCellRecordsUptoRow.holds Try.pinned (OpenSpec.upto fnExactCellRecordsSpec)

/-- 'laws.FnExactLibraryStream', WHERE WHAT IT READS IS OF BULK AT MOST 1048576: true; the input reads as it did. -/
def fnExactLibraryStreamUptoRow : OpenClaim := { program := "ytnmfighfidaglaa", sum := "4771367640e78fff86a2f1d531ba64817cc520bf4dd9744059b927104203b5b1", func := "loop.example/g00890/laws.FnExactLibraryStream", spec := "fnExactLibraryStream", unfollowed := true, recurses := true, apart := false, narrowed := true }
def FnExactLibraryStreamUptoSaid : Prop := fnExactLibraryStreamUptoRow.holds Try.pinned (OpenSpec.upto fnExactLibraryStreamSpec)

end Rows
end Go.Proofs.Ytnmfighfidaglaa
