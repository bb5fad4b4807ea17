/-
  No cell of these rows narrows 'for every input' (looked for: loops, veiled, ifaces, maps, wideKeys, modest, calm, conditions, laid).
  DERIVED. THE GIVEN ROWS OF THIS SEAT. 4 by the template 'for every input the law returns true; each argument reads behind the call as it read before'; 0 by the template 'total and deterministic' (their statements: YtfoefnkbiofejaaGreatTotals.lean).
  GIVEN WITH THE SEED: the statements are not yours to turn. If you find one false, say at which input.
  Laid BY PROGRAM, IN A SANDBOX (cutbox-rows.mjs): the forced cells as the released guide's own fill.sh prints them over the translation 834d7a04c4f3643c… (all of the seat's roots in one cut). By AI agents, Wed Nov 11 2026. No macro, syntax, notation, axiom, sorry.
-/
import Derived.Test.YtfoefnkbiofejaaGreatChecked
import GoSem.Claim
import GoSem.ClaimJoined
import GoSem.ClaimMapViews
import Derived.JoinedTies
import Derived.KernelRfl
namespace Go.Proofs.YtfoefnkbiofejaaGreat
/- THE CELL 'sum', in the pinned program and in every row, IS THE sha256 OF THE DUMP (.gsa) THAT YtfoefnkbiofejaaGreatProg.lean LOADS. Nothing in Lean hashes anything: it is a label: what it is worth is what the hold of that sum in a sandbox is worth. -/
noncomputable def Tryz.pinned : Pinned := { name := "ytfoefnkbiofejaagreat", sum := "834d7a04c4f3643c7bbb2e4923c0ea7e51c462307eb7eba24d1be48385f5787c", checked := Tryz.checked }
namespace Rows
def none {H : Type} : Left H := { results := [], args := [] }

/-- 'laws.FnAtomic': WHATEVER THE INPUT: true; the input reads as it did. -/
def fnAtomicSpec : ChangeSpec := { name := "fnAtomic", fn := fun _ => fun
  | [d] => { results := [.lit (.bool true)], args := [d] }
  | _ => none }
def fnAtomicRow : OpenClaim := { program := "ytfoefnkbiofejaagreat", sum := "834d7a04c4f3643c7bbb2e4923c0ea7e51c462307eb7eba24d1be48385f5787c", func := "loop.example/g00890/laws.FnAtomic", spec := "fnAtomic", inPlace := ["slices.overlaps[loop.example/g00890/impl.Cell]", "slices.overlaps[loop.example/g00890/impl.Shape]", "slices.overlaps[loop.example/g00890/impl.Label]", "slices.overlaps[loop.example/g00890/impl.Instance]"], unfollowed := true, recurses := true, apart := false }
def FnAtomicSaid : Prop := fnAtomicRow.holds Tryz.pinned (OpenSpec.ofChange fnAtomicSpec)

/-- ITS FALSE NEIGHBOUR: 'it returns false'. Refute it at one input. -/
def fnAtomicWrong : ChangeSpec := { name := "fnAtomic", fn := fun _ => fun
  | [d] => { results := [.lit (.bool false)], args := [d] }
  | _ => none }
def FnAtomicWrongFalsely : Prop := fnAtomicRow.holds Tryz.pinned (OpenSpec.ofChange fnAtomicWrong)

/-- 'laws.FnUndo': WHATEVER THE INPUT: true; the input reads as it did. -/
def fnUndoSpec : ChangeSpec := { name := "fnUndo", fn := fun _ => fun
  | [d] => { results := [.lit (.bool true)], args := [d] }
  | _ => none }
def fnUndoRow : OpenClaim := { program := "ytfoefnkbiofejaagreat", sum := "834d7a04c4f3643c7bbb2e4923c0ea7e51c462307eb7eba24d1be48385f5787c", func := "loop.example/g00890/laws.FnUndo", spec := "fnUndo", inPlace := ["slices.overlaps[loop.example/g00890/impl.Cell]", "slices.overlaps[loop.example/g00890/impl.Shape]", "slices.overlaps[loop.example/g00890/impl.Label]", "slices.overlaps[loop.example/g00890/impl.Instance]"], unfollowed := true, recurses := true, apart := false }
def FnUndoSaid : Prop := fnUndoRow.holds Tryz.pinned (OpenSpec.ofChange fnUndoSpec)

/-- ITS FALSE NEIGHBOUR: 'it returns false'. Refute it at one input. -/
def fnUndoWrong : ChangeSpec := { name := "fnUndo", fn := fun _ => fun
  | [d] => { results := [.lit (.bool false)], args := [d] }
  | _ => none }
def FnUndoWrongFalsely : Prop := fnUndoRow.holds Tryz.pinned (OpenSpec.ofChange fnUndoWrong)

/-- 'laws.FnEditorValid': WHATEVER THE INPUT: true; the input reads as it did. -/
def fnEditorValidSpec : ChangeSpec := { name := "fnEditorValid", fn := fun _ => fun
  | [d] => { results := [.lit (.bool true)], args := [d] }
  | _ => none }
def fnEditorValidRow : OpenClaim := { program := "ytfoefnkbiofejaagreat", sum := "834d7a04c4f3643c7bbb2e4923c0ea7e51c462307eb7eba24d1be48385f5787c", func := "loop.example/g00890/laws.FnEditorValid", spec := "fnEditorValid", inPlace := ["slices.overlaps[loop.example/g00890/impl.Cell]", "slices.overlaps[loop.example/g00890/impl.Shape]", "slices.overlaps[loop.example/g00890/impl.Label]", "slices.overlaps[loop.example/g00890/impl.Instance]"], unfollowed := true, recurses := true, apart := false }
def FnEditorValidSaid : Prop := fnEditorValidRow.holds Tryz.pinned (OpenSpec.ofChange fnEditorValidSpec)

/-- ITS FALSE NEIGHBOUR: 'it returns false'. Refute it at one input. -/
def fnEditorValidWrong : ChangeSpec := { name := "fnEditorValid", fn := fun _ => fun
  | [d] => { results := [.lit (.bool false)], args := [d] }
  | _ => none }
def FnEditorValidWrongFalsely : Prop := fnEditorValidRow.holds Tryz.pinned (OpenSpec.ofChange fnEditorValidWrong)

/-- 'laws.FnJournalCut': WHATEVER THE INPUT: true; the input reads as it did. -/
def fnJournalCutSpec : ChangeSpec := { name := "fnJournalCut", fn := fun _ => fun
  | [d] => { results := [.lit (.bool true)], args := [d] }
  | _ => none }
def fnJournalCutRow : OpenClaim := { program := "ytfoefnkbiofejaagreat", sum := "834d7a04c4f3643c7bbb2e4923c0ea7e51c462307eb7eba24d1be48385f5787c", func := "loop.example/g00890/laws.FnJournalCut", spec := "fnJournalCut", inPlace := ["slices.overlaps[loop.example/g00890/impl.Cell]", "slices.overlaps[loop.example/g00890/impl.Shape]", "slices.overlaps[loop.example/g00890/impl.Label]", "slices.overlaps[loop.example/g00890/impl.Instance]"], unfollowed := true, recurses := true, apart := false }
def FnJournalCutSaid : Prop := fnJournalCutRow.holds Tryz.pinned (OpenSpec.ofChange fnJournalCutSpec)

/-- ITS FALSE NEIGHBOUR: 'it returns false'. Refute it at one input. -/
def fnJournalCutWrong : ChangeSpec := { name := "fnJournalCut", fn := fun _ => fun
  | [d] => { results := [.lit (.bool false)], args := [d] }
  | _ => none }
def FnJournalCutWrongFalsely : Prop := fnJournalCutRow.holds Tryz.pinned (OpenSpec.ofChange fnJournalCutWrong)

/- THE SECOND FORM. 'bulk': how many values and letters a reading holds, each counted each time it is reached (what is shared counts as often as it is met; a slice's spare places count too). A statement '..UptoSaid' is the law's where the arguments, and the package variables that the reading takes, are together of bulk at most 1048576: NARROWER than '..Said'. Prove '..Said' where nothing that the law and all that it calls make is longer than what came in: it says more and counts as full. Else prove '..UptoSaid'. A law counts once. -/
mutual
def uptoBulk {H : Type} : DataW H → Nat
  | .lit (.string bytes) => bytes.length + 1
  | .lit _ => 1
  | .nil => 1
  | .ptr d => uptoBulk d + 1
  | .slice elems spare => uptoBulkAll elems + uptoBulkAll spare + 1
  | .agg parts => uptoBulkAll parts + 1
  | .iface _ d => uptoBulk d + 1
  | .map entries => uptoBulkEntries entries + 1
  | .held _ => 1
def uptoBulkAll {H : Type} : List (DataW H) → Nat
  | [] => 0
  | d :: r => uptoBulk d + uptoBulkAll r
def uptoBulkEntries {H : Type} : List (Lit × DataW H) → Nat
  | [] => 0
  | x :: r => uptoBulkEntry x + uptoBulkEntries r
def uptoBulkEntry {H : Type} : Lit × DataW H → Nat
  | (.string bytes, d) => bytes.length + uptoBulk d + 1
  | (_, d) => uptoBulk d + 1
 end
def uptoSmall : (H : Type) → List (DataW H) → Bool := fun _ ds => decide (uptoBulkAll ds ≤ 1048576)
def OpenSpec.upto (s : _root_.Go.ChangeSpec) : _root_.Go.OpenSpec := { _root_.Go.OpenSpec.ofChange s with cond := some uptoSmall }

/-- 'laws.FnAtomic', WHERE WHAT IT READS IS OF BULK AT MOST 1048576: true; the input reads as it did. -/
def fnAtomicUptoRow : OpenClaim := { program := "ytfoefnkbiofejaagreat", sum := "834d7a04c4f3643c7bbb2e4923c0ea7e51c462307eb7eba24d1be48385f5787c", func := "loop.example/g00890/laws.FnAtomic", spec := "fnAtomic", inPlace := ["slices.overlaps[loop.example/g00890/impl.Cell]", "slices.overlaps[loop.example/g00890/impl.Shape]", "slices.overlaps[loop.example/g00890/impl.Label]", "slices.overlaps[loop.example/g00890/impl.Instance]"], unfollowed := true, recurses := true, apart := false, narrowed := true }
def FnAtomicUptoSaid : Prop := fnAtomicUptoRow.holds Tryz.pinned (OpenSpec.upto fnAtomicSpec)

/-- 'laws.FnUndo', WHERE WHAT IT READS IS OF BULK AT MOST 1048576: true; the input reads as it did. -/
def fnUndoUptoRow : OpenClaim := { program := "ytfoefnkbiofejaagreat", sum := "834d7a04c4f3643c7bbb2e4923c0ea7e51c462307eb7eba24d1be48385f5787c", func := "loop.example/g00890/laws.FnUndo", spec := "fnUndo", inPlace := ["slices.overlaps[loop.example/g00890/impl.Cell]", "slices.overlaps[loop.example/g00890/impl.Shape]", "slices.overlaps[loop.example/g00890/impl.Label]", "slices.overlaps[loop.example/g00890/impl.Instance]"], unfollowed := true, recurses := true, apart := false, narrowed := true }
def FnUndoUptoSaid : Prop := fnUndoUptoRow.holds Tryz.pinned (OpenSpec.upto fnUndoSpec)

/-- 'laws.FnEditorValid', WHERE WHAT IT READS IS OF BULK AT MOST 1048576: true; the input reads as it did. -/
def fnEditorValidUptoRow : OpenClaim := { program := "ytfoefnkbiofejaagreat", sum := "834d7a04c4f3643c7bbb2e4923c0ea7e51c462307eb7eba24d1be48385f5787c", func := "loop.example/g00890/laws.FnEditorValid", spec := "fnEditorValid", inPlace := ["slices.overlaps[loop.example/g00890/impl.Cell]", "slices.overlaps[loop.example/g00890/impl.Shape]", "slices.overlaps[loop.example/g00890/impl.Label]", "slices.overlaps[loop.example/g00890/impl.Instance]"], unfollowed := true, recurses := true, apart := false, narrowed := true }
def FnEditorValidUptoSaid : Prop := fnEditorValidUptoRow.holds Tryz.pinned (OpenSpec.upto fnEditorValidSpec)

/-- 'laws.FnJournalCut', WHERE WHAT IT READS IS OF BULK AT MOST 1048576: true; the input reads as it did. -/
def fnJournalCutUptoRow : OpenClaim := { program := "ytfoefnkbiofejaagreat", sum := "834d7a04c4f3643c7bbb2e4923c0ea7e51c462307eb7eba24d1be48385f5787c", func := "loop.example/g00890/laws.FnJournalCut", spec := "fnJournalCut", inPlace := ["slices.overlaps[loop.example/g00890/impl.Cell]", "slices.overlaps[loop.example/g00890/impl.Shape]", "slices.overlaps[loop.example/g00890/impl.Label]", "slices.overlaps[loop.example/g00890/impl.Instance]"], unfollowed := true, recurses := true, apart := false, narrowed := true }
def FnJournalCutUptoSaid : Prop := fnJournalCutUptoRow.holds Tryz.pinned (OpenSpec.upto fnJournalCutSpec)

end Rows
end Go.Proofs.YtfoefnkbiofejaaGreat
