/-
  No cell of these rows narrows 'for every input' (looked for: loops, veiled, ifaces, maps, wideKeys, modest, calm, conditions, laid).
  DERIVED. THE GIVEN ROWS OF THIS SEAT. 11 by the template 'for every input the law returns true; each argument reads behind the call as it read before'; 0 by the template 'total and deterministic' (their statements: YtohgghncmkiicaaGreatTotals.lean).
  GIVEN WITH THE SEED: the statements are not yours to turn. If you find one false, say at which input.
  Laid BY PROGRAM, IN A SANDBOX (cutbox-rows.mjs): the forced cells as the released guide's own fill.sh prints them over the translation 13a6f314f6f3bfbe… (all of the seat's roots in one cut). By AI agents, Wed Nov 11 2026. No macro, syntax, notation, axiom, sorry.
-/
import Derived.Test.YtohgghncmkiicaaGreatChecked
import GoSem.Claim
import GoSem.ClaimJoined
import GoSem.ClaimMapViews
import Derived.JoinedTies
import Derived.KernelRfl
namespace Go.Proofs.YtohgghncmkiicaaGreat
/- THE CELL 'sum', in the pinned program and in every row, IS THE sha256 OF THE DUMP (.gsa) THAT YtohgghncmkiicaaGreatProg.lean LOADS. Nothing in Lean hashes anything: it is a label: what it is worth is what the hold of that sum in a sandbox is worth. -/
noncomputable def Tryz.pinned : Pinned := { name := "ytohgghncmkiicaagreat", sum := "13a6f314f6f3bfbe023aca7fb304cce73429a4c39d95f2d57e1645e31c09a998", checked := Tryz.checked }
namespace Rows
def none {H : Type} : Left H := { results := [], args := [] }

/-- 'laws.FnExactApplyEdit': WHATEVER THE INPUT: true; the input reads as it did. -/
def fnExactApplyEditSpec : ChangeSpec := { name := "fnExactApplyEdit", fn := fun _ => fun
  | [d1, d2] => { results := [.lit (.bool true)], args := [d1, d2] }
  | _ => none }
def fnExactApplyEditRow : OpenClaim := { program := "ytohgghncmkiicaagreat", sum := "13a6f314f6f3bfbe023aca7fb304cce73429a4c39d95f2d57e1645e31c09a998", func := "loop.example/g00890/laws.FnExactApplyEdit", spec := "fnExactApplyEdit", inPlace := ["slices.overlaps[loop.example/g00890/impl.Cell]", "slices.overlaps[loop.example/g00890/impl.Shape]", "slices.overlaps[loop.example/g00890/impl.Label]", "slices.overlaps[loop.example/g00890/impl.Instance]"], unfollowed := true, recurses := true, apart := false }
def FnExactApplyEditSaid : Prop := fnExactApplyEditRow.holds Tryz.pinned (OpenSpec.ofChange fnExactApplyEditSpec)

/-- ITS FALSE NEIGHBOUR: 'it returns false'. Refute it at one input. -/
def fnExactApplyEditWrong : ChangeSpec := { name := "fnExactApplyEdit", fn := fun _ => fun
  | [d1, d2] => { results := [.lit (.bool false)], args := [d1, d2] }
  | _ => none }
def FnExactApplyEditWrongFalsely : Prop := fnExactApplyEditRow.holds Tryz.pinned (OpenSpec.ofChange fnExactApplyEditWrong)

/-- 'laws.FnExactApplyEdits': WHATEVER THE INPUT: true; the input reads as it did. -/
def fnExactApplyEditsSpec : ChangeSpec := { name := "fnExactApplyEdits", fn := fun _ => fun
  | [d1, d2] => { results := [.lit (.bool true)], args := [d1, d2] }
  | _ => none }
def fnExactApplyEditsRow : OpenClaim := { program := "ytohgghncmkiicaagreat", sum := "13a6f314f6f3bfbe023aca7fb304cce73429a4c39d95f2d57e1645e31c09a998", func := "loop.example/g00890/laws.FnExactApplyEdits", spec := "fnExactApplyEdits", inPlace := ["slices.overlaps[loop.example/g00890/impl.Cell]", "slices.overlaps[loop.example/g00890/impl.Shape]", "slices.overlaps[loop.example/g00890/impl.Label]", "slices.overlaps[loop.example/g00890/impl.Instance]"], unfollowed := true, recurses := true, apart := false }
def FnExactApplyEditsSaid : Prop := fnExactApplyEditsRow.holds Tryz.pinned (OpenSpec.ofChange fnExactApplyEditsSpec)

/-- ITS FALSE NEIGHBOUR: 'it returns false'. Refute it at one input. -/
def fnExactApplyEditsWrong : ChangeSpec := { name := "fnExactApplyEdits", fn := fun _ => fun
  | [d1, d2] => { results := [.lit (.bool false)], args := [d1, d2] }
  | _ => none }
def FnExactApplyEditsWrongFalsely : Prop := fnExactApplyEditsRow.holds Tryz.pinned (OpenSpec.ofChange fnExactApplyEditsWrong)

/-- 'laws.FnExactCommit': WHATEVER THE INPUT: true; the input reads as it did. -/
def fnExactCommitSpec : ChangeSpec := { name := "fnExactCommit", fn := fun _ => fun
  | [d1, d2] => { results := [.lit (.bool true)], args := [d1, d2] }
  | _ => none }
def fnExactCommitRow : OpenClaim := { program := "ytohgghncmkiicaagreat", sum := "13a6f314f6f3bfbe023aca7fb304cce73429a4c39d95f2d57e1645e31c09a998", func := "loop.example/g00890/laws.FnExactCommit", spec := "fnExactCommit", inPlace := ["slices.overlaps[loop.example/g00890/impl.Cell]", "slices.overlaps[loop.example/g00890/impl.Shape]", "slices.overlaps[loop.example/g00890/impl.Label]", "slices.overlaps[loop.example/g00890/impl.Instance]"], unfollowed := true, recurses := true, apart := false }
def FnExactCommitSaid : Prop := fnExactCommitRow.holds Tryz.pinned (OpenSpec.ofChange fnExactCommitSpec)

/-- ITS FALSE NEIGHBOUR: 'it returns false'. Refute it at one input. -/
def fnExactCommitWrong : ChangeSpec := { name := "fnExactCommit", fn := fun _ => fun
  | [d1, d2] => { results := [.lit (.bool false)], args := [d1, d2] }
  | _ => none }
def FnExactCommitWrongFalsely : Prop := fnExactCommitRow.holds Tryz.pinned (OpenSpec.ofChange fnExactCommitWrong)

/-- 'laws.FnExactUndo': WHATEVER THE INPUT: true; the input reads as it did. -/
def fnExactUndoSpec : ChangeSpec := { name := "fnExactUndo", fn := fun _ => fun
  | [d] => { results := [.lit (.bool true)], args := [d] }
  | _ => none }
def fnExactUndoRow : OpenClaim := { program := "ytohgghncmkiicaagreat", sum := "13a6f314f6f3bfbe023aca7fb304cce73429a4c39d95f2d57e1645e31c09a998", func := "loop.example/g00890/laws.FnExactUndo", spec := "fnExactUndo", inPlace := ["slices.overlaps[loop.example/g00890/impl.Cell]", "slices.overlaps[loop.example/g00890/impl.Shape]", "slices.overlaps[loop.example/g00890/impl.Label]", "slices.overlaps[loop.example/g00890/impl.Instance]"], unfollowed := true, recurses := true, apart := false }
def FnExactUndoSaid : Prop := fnExactUndoRow.holds Tryz.pinned (OpenSpec.ofChange fnExactUndoSpec)

/-- ITS FALSE NEIGHBOUR: 'it returns false'. Refute it at one input. -/
def fnExactUndoWrong : ChangeSpec := { name := "fnExactUndo", fn := fun _ => fun
  | [d] => { results := [.lit (.bool false)], args := [d] }
  | _ => none }
def FnExactUndoWrongFalsely : Prop := fnExactUndoRow.holds Tryz.pinned (OpenSpec.ofChange fnExactUndoWrong)

/-- 'laws.FnExactRedo': WHATEVER THE INPUT: true; the input reads as it did. -/
def fnExactRedoSpec : ChangeSpec := { name := "fnExactRedo", fn := fun _ => fun
  | [d] => { results := [.lit (.bool true)], args := [d] }
  | _ => none }
def fnExactRedoRow : OpenClaim := { program := "ytohgghncmkiicaagreat", sum := "13a6f314f6f3bfbe023aca7fb304cce73429a4c39d95f2d57e1645e31c09a998", func := "loop.example/g00890/laws.FnExactRedo", spec := "fnExactRedo", inPlace := ["slices.overlaps[loop.example/g00890/impl.Cell]", "slices.overlaps[loop.example/g00890/impl.Shape]", "slices.overlaps[loop.example/g00890/impl.Label]", "slices.overlaps[loop.example/g00890/impl.Instance]"], unfollowed := true, recurses := true, apart := false }
def FnExactRedoSaid : Prop := fnExactRedoRow.holds Tryz.pinned (OpenSpec.ofChange fnExactRedoSpec)

/-- ITS FALSE NEIGHBOUR: 'it returns false'. Refute it at one input. -/
def fnExactRedoWrong : ChangeSpec := { name := "fnExactRedo", fn := fun _ => fun
  | [d] => { results := [.lit (.bool false)], args := [d] }
  | _ => none }
def FnExactRedoWrongFalsely : Prop := fnExactRedoRow.holds Tryz.pinned (OpenSpec.ofChange fnExactRedoWrong)

/-- 'laws.FnExactRecoverJournal': WHATEVER THE INPUT: true; the input reads as it did. -/
def fnExactRecoverJournalSpec : ChangeSpec := { name := "fnExactRecoverJournal", fn := fun _ => fun
  | [d1, d2] => { results := [.lit (.bool true)], args := [d1, d2] }
  | _ => none }
def fnExactRecoverJournalRow : OpenClaim := { program := "ytohgghncmkiicaagreat", sum := "13a6f314f6f3bfbe023aca7fb304cce73429a4c39d95f2d57e1645e31c09a998", func := "loop.example/g00890/laws.FnExactRecoverJournal", spec := "fnExactRecoverJournal", inPlace := ["slices.overlaps[loop.example/g00890/impl.Cell]", "slices.overlaps[loop.example/g00890/impl.Shape]", "slices.overlaps[loop.example/g00890/impl.Label]", "slices.overlaps[loop.example/g00890/impl.Instance]"], unfollowed := true, recurses := true, apart := false }
def FnExactRecoverJournalSaid : Prop := fnExactRecoverJournalRow.holds Tryz.pinned (OpenSpec.ofChange fnExactRecoverJournalSpec)

/-- ITS FALSE NEIGHBOUR: 'it returns false'. Refute it at one input. -/
def fnExactRecoverJournalWrong : ChangeSpec := { name := "fnExactRecoverJournal", fn := fun _ => fun
  | [d1, d2] => { results := [.lit (.bool false)], args := [d1, d2] }
  | _ => none }
def FnExactRecoverJournalWrongFalsely : Prop := fnExactRecoverJournalRow.holds Tryz.pinned (OpenSpec.ofChange fnExactRecoverJournalWrong)

/-- 'laws.FnInverse': WHATEVER THE INPUT: true; the input reads as it did. -/
def fnInverseSpec : ChangeSpec := { name := "fnInverse", fn := fun _ => fun
  | [d] => { results := [.lit (.bool true)], args := [d] }
  | _ => none }
def fnInverseRow : OpenClaim := { program := "ytohgghncmkiicaagreat", sum := "13a6f314f6f3bfbe023aca7fb304cce73429a4c39d95f2d57e1645e31c09a998", func := "loop.example/g00890/laws.FnInverse", spec := "fnInverse", inPlace := ["slices.overlaps[loop.example/g00890/impl.Cell]", "slices.overlaps[loop.example/g00890/impl.Shape]", "slices.overlaps[loop.example/g00890/impl.Label]", "slices.overlaps[loop.example/g00890/impl.Instance]"], unfollowed := true, recurses := true, apart := false }
def FnInverseSaid : Prop := fnInverseRow.holds Tryz.pinned (OpenSpec.ofChange fnInverseSpec)

/-- ITS FALSE NEIGHBOUR: 'it returns false'. Refute it at one input. -/
def fnInverseWrong : ChangeSpec := { name := "fnInverse", fn := fun _ => fun
  | [d] => { results := [.lit (.bool false)], args := [d] }
  | _ => none }
def FnInverseWrongFalsely : Prop := fnInverseRow.holds Tryz.pinned (OpenSpec.ofChange fnInverseWrong)

/-- 'laws.FnAtomic': WHATEVER THE INPUT: true; the input reads as it did. -/
def fnAtomicSpec : ChangeSpec := { name := "fnAtomic", fn := fun _ => fun
  | [d] => { results := [.lit (.bool true)], args := [d] }
  | _ => none }
def fnAtomicRow : OpenClaim := { program := "ytohgghncmkiicaagreat", sum := "13a6f314f6f3bfbe023aca7fb304cce73429a4c39d95f2d57e1645e31c09a998", func := "loop.example/g00890/laws.FnAtomic", spec := "fnAtomic", inPlace := ["slices.overlaps[loop.example/g00890/impl.Cell]", "slices.overlaps[loop.example/g00890/impl.Shape]", "slices.overlaps[loop.example/g00890/impl.Label]", "slices.overlaps[loop.example/g00890/impl.Instance]"], unfollowed := true, recurses := true, apart := false }
def FnAtomicSaid : Prop := fnAtomicRow.holds Tryz.pinned (OpenSpec.ofChange fnAtomicSpec)

/-- ITS FALSE NEIGHBOUR: 'it returns false'. Refute it at one input. -/
def fnAtomicWrong : ChangeSpec := { name := "fnAtomic", fn := fun _ => fun
  | [d] => { results := [.lit (.bool false)], args := [d] }
  | _ => none }
def FnAtomicWrongFalsely : Prop := fnAtomicRow.holds Tryz.pinned (OpenSpec.ofChange fnAtomicWrong)

/-- 'laws.FnUndo': WHATEVER THE INPUT: true; the input reads as it did. -/
def fnUndoSpec : ChangeSpec := { name := "fnUndo", fn := fun _ => fun
  | [d] => { results := [.lit (.bool true)], args := [d] }
  | _ => none }
def fnUndoRow : OpenClaim := { program := "ytohgghncmkiicaagreat", sum := "13a6f314f6f3bfbe023aca7fb304cce73429a4c39d95f2d57e1645e31c09a998", func := "loop.example/g00890/laws.FnUndo", spec := "fnUndo", inPlace := ["slices.overlaps[loop.example/g00890/impl.Cell]", "slices.overlaps[loop.example/g00890/impl.Shape]", "slices.overlaps[loop.example/g00890/impl.Label]", "slices.overlaps[loop.example/g00890/impl.Instance]"], unfollowed := true, recurses := true, apart := false }
def FnUndoSaid : Prop := fnUndoRow.holds Tryz.pinned (OpenSpec.ofChange fnUndoSpec)

/-- ITS FALSE NEIGHBOUR: 'it returns false'. Refute it at one input. -/
def fnUndoWrong : ChangeSpec := { name := "fnUndo", fn := fun _ => fun
  | [d] => { results := [.lit (.bool false)], args := [d] }
  | _ => none }
def FnUndoWrongFalsely : Prop := fnUndoRow.holds Tryz.pinned (OpenSpec.ofChange fnUndoWrong)

/-- 'laws.FnEditorValid': WHATEVER THE INPUT: true; the input reads as it did. -/
def fnEditorValidSpec : ChangeSpec := { name := "fnEditorValid", fn := fun _ => fun
  | [d] => { results := [.lit (.bool true)], args := [d] }
  | _ => none }
def fnEditorValidRow : OpenClaim := { program := "ytohgghncmkiicaagreat", sum := "13a6f314f6f3bfbe023aca7fb304cce73429a4c39d95f2d57e1645e31c09a998", func := "loop.example/g00890/laws.FnEditorValid", spec := "fnEditorValid", inPlace := ["slices.overlaps[loop.example/g00890/impl.Cell]", "slices.overlaps[loop.example/g00890/impl.Shape]", "slices.overlaps[loop.example/g00890/impl.Label]", "slices.overlaps[loop.example/g00890/impl.Instance]"], unfollowed := true, recurses := true, apart := false }
def FnEditorValidSaid : Prop := fnEditorValidRow.holds Tryz.pinned (OpenSpec.ofChange fnEditorValidSpec)

/-- ITS FALSE NEIGHBOUR: 'it returns false'. Refute it at one input. -/
def fnEditorValidWrong : ChangeSpec := { name := "fnEditorValid", fn := fun _ => fun
  | [d] => { results := [.lit (.bool false)], args := [d] }
  | _ => none }
def FnEditorValidWrongFalsely : Prop := fnEditorValidRow.holds Tryz.pinned (OpenSpec.ofChange fnEditorValidWrong)

/-- 'laws.FnJournalCut': WHATEVER THE INPUT: true; the input reads as it did. -/
def fnJournalCutSpec : ChangeSpec := { name := "fnJournalCut", fn := fun _ => fun
  | [d] => { results := [.lit (.bool true)], args := [d] }
  | _ => none }
def fnJournalCutRow : OpenClaim := { program := "ytohgghncmkiicaagreat", sum := "13a6f314f6f3bfbe023aca7fb304cce73429a4c39d95f2d57e1645e31c09a998", func := "loop.example/g00890/laws.FnJournalCut", spec := "fnJournalCut", inPlace := ["slices.overlaps[loop.example/g00890/impl.Cell]", "slices.overlaps[loop.example/g00890/impl.Shape]", "slices.overlaps[loop.example/g00890/impl.Label]", "slices.overlaps[loop.example/g00890/impl.Instance]"], unfollowed := true, recurses := true, apart := false }
def FnJournalCutSaid : Prop := fnJournalCutRow.holds Tryz.pinned (OpenSpec.ofChange fnJournalCutSpec)

/-- ITS FALSE NEIGHBOUR: 'it returns false'. Refute it at one input. -/
def fnJournalCutWrong : ChangeSpec := { name := "fnJournalCut", fn := fun _ => fun
  | [d] => { results := [.lit (.bool false)], args := [d] }
  | _ => none }
def FnJournalCutWrongFalsely : Prop := fnJournalCutRow.holds Tryz.pinned (OpenSpec.ofChange fnJournalCutWrong)

/- THE SECOND FORM. 'bulk': how many values and letters a reading holds, each counted each time it is reached (what is shared counts as often as it is met; a slice's spare places count too). A statement '..UptoSaid' is the law's where the arguments, and the package variables that the reading takes, are together of bulk at most 1048576: NARROWER than '..Said'. Prove '..Said' where nothing that the law and all that it calls make is longer than what came in: it says more and counts as full. Else prove '..UptoSaid'. A law counts once. -/
mutual
def uptoBulk {H : Type} : DataW H → Nat
  | .lit (.string bytes) => bytes.length + 1
  | .lit _ => 1
  | .nil => 1
  | .ptr d => uptoBulk d + 1
  | .slice elems spare => uptoBulkAll elems + uptoBulkAll spare + 1
  | .agg parts => uptoBulkAll parts + 1
  | .iface _ d => uptoBulk d + 1
  | .map entries => uptoBulkEntries entries + 1
  | .held _ => 1
def uptoBulkAll {H : Type} : List (DataW H) → Nat
  | [] => 0
  | d :: r => uptoBulk d + uptoBulkAll r
def uptoBulkEntries {H : Type} : List (Lit × DataW H) → Nat
  | [] => 0
  | x :: r => uptoBulkEntry x + uptoBulkEntries r
def uptoBulkEntry {H : Type} : Lit × DataW H → Nat
  | (.string bytes, d) => bytes.length + uptoBulk d + 1
  | (_, d) => uptoBulk d + 1
 end
def uptoSmall : (H : Type) → List (DataW H) → Bool := fun _ ds => decide (uptoBulkAll ds ≤ 1048576)
def OpenSpec.upto (s : _root_.Go.ChangeSpec) : _root_.Go.OpenSpec := { _root_.Go.OpenSpec.ofChange s with cond := some uptoSmall }

/-- 'laws.FnExactApplyEdit', WHERE WHAT IT READS IS OF BULK AT MOST 1048576: true; the input reads as it did. -/
def fnExactApplyEditUptoRow : OpenClaim := { program := "ytohgghncmkiicaagreat", sum := "13a6f314f6f3bfbe023aca7fb304cce73429a4c39d95f2d57e1645e31c09a998", func := "loop.example/g00890/laws.FnExactApplyEdit", spec := "fnExactApplyEdit", inPlace := ["slices.overlaps[loop.example/g00890/impl.Cell]", "slices.overlaps[loop.example/g00890/impl.Shape]", "slices.overlaps[loop.example/g00890/impl.Label]", "slices.overlaps[loop.example/g00890/impl.Instance]"], unfollowed := true, recurses := true, apart := false, narrowed := true }
def FnExactApplyEditUptoSaid : Prop := fnExactApplyEditUptoRow.holds Tryz.pinned (OpenSpec.upto fnExactApplyEditSpec)

/-- 'laws.FnExactApplyEdits', WHERE WHAT IT READS IS OF BULK AT MOST 1048576: true; the input reads as it did. -/
def fnExactApplyEditsUptoRow : OpenClaim := { program := "ytohgghncmkiicaagreat", sum := "13a6f314f6f3bfbe023aca7fb304cce73429a4c39d95f2d57e1645e31c09a998", func := "loop.example/g00890/laws.FnExactApplyEdits", spec := "fnExactApplyEdits", inPlace := ["slices.overlaps[loop.example/g00890/impl.Cell]", "slices.overlaps[loop.example/g00890/impl.Shape]", "slices.overlaps[loop.example/g00890/impl.Label]", "slices.overlaps[loop.example/g00890/impl.Instance]"], unfollowed := true, recurses := true, apart := false, narrowed := true }
def FnExactApplyEditsUptoSaid : Prop := fnExactApplyEditsUptoRow.holds Tryz.pinned (OpenSpec.upto fnExactApplyEditsSpec)

/-- 'laws.FnExactCommit', WHERE WHAT IT READS IS OF BULK AT MOST 1048576: true; the input reads as it did. -/
def fnExactCommitUptoRow : OpenClaim := { program := "ytohgghncmkiicaagreat", sum := "13a6f314f6f3bfbe023aca7fb304cce73429a4c39d95f2d57e1645e31c09a998", func := "loop.example/g00890/laws.FnExactCommit", spec := "fnExactCommit", inPlace := ["slices.overlaps[loop.example/g00890/impl.Cell]", "slices.overlaps[loop.example/g00890/impl.Shape]", "slices.overlaps[loop.example/g00890/impl.Label]", "slices.overlaps[loop.example/g00890/impl.Instance]"], unfollowed := true, recurses := true, apart := false, narrowed := true }
def FnExactCommitUptoSaid : Prop := fnExactCommitUptoRow.holds Tryz.pinned (OpenSpec.upto fnExactCommitSpec)

/-- 'laws.FnExactUndo', WHERE WHAT IT READS IS OF BULK AT MOST 1048576: true; the input reads as it did. -/
def fnExactUndoUptoRow : OpenClaim := { program := "ytohgghncmkiicaagreat", sum := "13a6f314f6f3bfbe023aca7fb304cce73429a4c39d95f2d57e1645e31c09a998", func := "loop.example/g00890/laws.FnExactUndo", spec := "fnExactUndo", inPlace := ["slices.overlaps[loop.example/g00890/impl.Cell]", "slices.overlaps[loop.example/g00890/impl.Shape]", "slices.overlaps[loop.example/g00890/impl.Label]", "slices.overlaps[loop.example/g00890/impl.Instance]"], unfollowed := true, recurses := true, apart := false, narrowed := true }
def FnExactUndoUptoSaid : Prop := fnExactUndoUptoRow.holds Tryz.pinned (OpenSpec.upto fnExactUndoSpec)

/-- 'laws.FnExactRedo', WHERE WHAT IT READS IS OF BULK AT MOST 1048576: true; the input reads as it did. -/
def fnExactRedoUptoRow : OpenClaim := { program := "ytohgghncmkiicaagreat", sum := "13a6f314f6f3bfbe023aca7fb304cce73429a4c39d95f2d57e1645e31c09a998", func := "loop.example/g00890/laws.FnExactRedo", spec := "fnExactRedo", inPlace := ["slices.overlaps[loop.example/g00890/impl.Cell]", "slices.overlaps[loop.example/g00890/impl.Shape]", "slices.overlaps[loop.example/g00890/impl.Label]", "slices.overlaps[loop.example/g00890/impl.Instance]"], unfollowed := true, recurses := true, apart := false, narrowed := true }
def FnExactRedoUptoSaid : Prop := fnExactRedoUptoRow.holds Tryz.pinned (OpenSpec.upto fnExactRedoSpec)

/-- 'laws.FnExactRecoverJournal', WHERE WHAT IT READS IS OF BULK AT MOST 1048576: true; the input reads as it did. -/
def fnExactRecoverJournalUptoRow : OpenClaim := { program := "ytohgghncmkiicaagreat", sum := "13a6f314f6f3bfbe023aca7fb304cce73429a4c39d95f2d57e1645e31c09a998", func := "loop.example/g00890/laws.FnExactRecoverJournal", spec := "fnExactRecoverJournal", inPlace := ["slices.overlaps[loop.example/g00890/impl.Cell]", "slices.overlaps[loop.example/g00890/impl.Shape]", "slices.overlaps[loop.example/g00890/impl.Label]", "slices.overlaps[loop.example/g00890/impl.Instance]"], unfollowed := true, recurses := true, apart := false, narrowed := true }
def FnExactRecoverJournalUptoSaid : Prop := fnExactRecoverJournalUptoRow.holds Tryz.pinned (OpenSpec.upto fnExactRecoverJournalSpec)

/-- 'laws.FnInverse', WHERE WHAT IT READS IS OF BULK AT MOST 1048576: true; the input reads as it did. -/
def fnInverseUptoRow : OpenClaim := { program := "ytohgghncmkiicaagreat", sum := "13a6f314f6f3bfbe023aca7fb304cce73429a4c39d95f2d57e1645e31c09a998", func := "loop.example/g00890/laws.FnInverse", spec := "fnInverse", inPlace := ["slices.overlaps[loop.example/g00890/impl.Cell]", "slices.overlaps[loop.example/g00890/impl.Shape]", "slices.overlaps[loop.example/g00890/impl.Label]", "slices.overlaps[loop.example/g00890/impl.Instance]"], unfollowed := true, recurses := true, apart := false, narrowed := true }
def FnInverseUptoSaid : Prop := fnInverseUptoRow.holds Tryz.pinned (OpenSpec.upto fnInverseSpec)

/-- 'laws.FnAtomic', WHERE WHAT IT READS IS OF BULK AT MOST 1048576: true; the input reads as it did. -/
def fnAtomicUptoRow : OpenClaim := { program := "ytohgghncmkiicaagreat", sum := "13a6f314f6f3bfbe023aca7fb304cce73429a4c39d95f2d57e1645e31c09a998", func := "loop.example/g00890/laws.FnAtomic", spec := "fnAtomic", inPlace := ["slices.overlaps[loop.example/g00890/impl.Cell]", "slices.overlaps[loop.example/g00890/impl.Shape]", "slices.overlaps[loop.example/g00890/impl.Label]", "slices.overlaps[loop.example/g00890/impl.Instance]"], unfollowed := true, recurses := true, apart := false, narrowed := true }
def FnAtomicUptoSaid : Prop := fnAtomicUptoRow.holds Tryz.pinned (OpenSpec.upto fnAtomicSpec)

/-- 'laws.FnUndo', WHERE WHAT IT READS IS OF BULK AT MOST 1048576: true; the input reads as it did. -/
def fnUndoUptoRow : OpenClaim := { program := "ytohgghncmkiicaagreat", sum := "13a6f314f6f3bfbe023aca7fb304cce73429a4c39d95f2d57e1645e31c09a998", func := "loop.example/g00890/laws.FnUndo", spec := "fnUndo", inPlace := ["slices.overlaps[loop.example/g00890/impl.Cell]", "slices.overlaps[loop.example/g00890/impl.Shape]", "slices.overlaps[loop.example/g00890/impl.Label]", "slices.overlaps[loop.example/g00890/impl.Instance]"], unfollowed := true, recurses := true, apart := false, narrowed := true }
def FnUndoUptoSaid : Prop := fnUndoUptoRow.holds Tryz.pinned (OpenSpec.upto fnUndoSpec)

/-- 'laws.FnEditorValid', WHERE WHAT IT READS IS OF BULK AT MOST 1048576: true; the input reads as it did. -/
def fnEditorValidUptoRow : OpenClaim := { program := "ytohgghncmkiicaagreat", sum := "13a6f314f6f3bfbe023aca7fb304cce73429a4c39d95f2d57e1645e31c09a998", func := "loop.example/g00890/laws.FnEditorValid", spec := "fnEditorValid", inPlace := ["slices.overlaps[loop.example/g00890/impl.Cell]", "slices.overlaps[loop.example/g00890/impl.Shape]", "slices.overlaps[loop.example/g00890/impl.Label]", "slices.overlaps[loop.example/g00890/impl.Instance]"], unfollowed := true, recurses := true, apart := false, narrowed := true }
def FnEditorValidUptoSaid : Prop := fnEditorValidUptoRow.holds Tryz.pinned (OpenSpec.upto fnEditorValidSpec)

/-- 'laws.FnJournalCut', WHERE WHAT IT READS IS OF BULK AT MOST 1048576: true; the input reads as it did. -/
def fnJournalCutUptoRow : OpenClaim := { program := "ytohgghncmkiicaagreat", sum := "13a6f314f6f3bfbe023aca7fb304cce73429a4c39d95f2d57e1645e31c09a998", func := "loop.example/g00890/laws.FnJournalCut", spec := "fnJournalCut", inPlace := ["slices.overlaps[loop.example/g00890/impl.Cell]", "slices.overlaps[loop.example/g00890/impl.Shape]", "slices.overlaps[loop.example/g00890/impl.Label]", "slices.overlaps[loop.example/g00890/impl.Instance]"], unfollowed := true, recurses := true, apart := false, narrowed := true }
def FnJournalCutUptoSaid : Prop := fnJournalCutUptoRow.holds Tryz.pinned (OpenSpec.upto fnJournalCutSpec)

end Rows
end Go.Proofs.YtohgghncmkiicaaGreat
