/-
  No cell of these rows narrows 'for every input' (looked for: loops, veiled, ifaces, maps, wideKeys, modest, calm, conditions, laid).
  DERIVED. THE GIVEN ROWS OF THIS SEAT. 11 by the template 'for every input the law returns true; each argument reads behind the call as it read before'; 0 by the template 'total and deterministic' (their statements: YtlenieingkfjaaaTotals.lean).
  GIVEN WITH THE SEED: the statements are not yours to turn. If you find one false, say at which input.
  Laid BY PROGRAM, IN A SANDBOX (cutbox-rows.mjs): the forced cells as the released guide's own fill.sh prints them over the translation f7d16d7bd985eb5c… (all of the seat's roots in one cut). By AI agents, Wed Nov 11 2026. No macro, syntax, notation, axiom, sorry.
-/
import Derived.Test.YtlenieingkfjaaaChecked
import GoSem.Claim
import GoSem.ClaimJoined
import GoSem.ClaimMapViews
import Derived.JoinedTies
import Derived.KernelRfl
namespace Go.Proofs.Ytlenieingkfjaaa
/- THE CELL 'sum', in the pinned program and in every row, IS THE sha256 OF THE DUMP (.gsa) THAT YtlenieingkfjaaaProg.lean LOADS. Nothing in Lean hashes anything: it is a label: what it is worth is what the hold of that sum in a sandbox is worth. -/
noncomputable def Try.pinned : Pinned := { name := "ytlenieingkfjaaa", sum := "f7d16d7bd985eb5c5eb88d3a960ee626e41d38f3a9bdb6a76f1cae9974bfccda", checked := Try.checked }
namespace Rows
def none {H : Type} : Left H := { results := [], args := [] }

/-- 'laws.FnHitPaths': WHATEVER THE INPUT: true; the input reads as it did. -/
def fnHitPathsSpec : ChangeSpec := { name := "fnHitPaths", fn := fun _ => fun
  | [d] => { results := [.lit (.bool true)], args := [d] }
  | _ => none }
def fnHitPathsRow : OpenClaim := { program := "ytlenieingkfjaaa", sum := "f7d16d7bd985eb5c5eb88d3a960ee626e41d38f3a9bdb6a76f1cae9974bfccda", func := "loop.example/g00890/laws.FnHitPaths", spec := "fnHitPaths", unfollowed := true, recurses := true, apart := false }
def FnHitPathsSaid : Prop := fnHitPathsRow.holds Try.pinned (OpenSpec.ofChange fnHitPathsSpec)

/-- ITS FALSE NEIGHBOUR: 'it returns false'. Refute it at one input. -/
def fnHitPathsWrong : ChangeSpec := { name := "fnHitPaths", fn := fun _ => fun
  | [d] => { results := [.lit (.bool false)], args := [d] }
  | _ => none }
def FnHitPathsWrongFalsely : Prop := fnHitPathsRow.holds Try.pinned (OpenSpec.ofChange fnHitPathsWrong)

/-- 'laws.FnWindow': WHATEVER THE INPUT: true; the input reads as it did. -/
def fnWindowSpec : ChangeSpec := { name := "fnWindow", fn := fun _ => fun
  | [d] => { results := [.lit (.bool true)], args := [d] }
  | _ => none }
def fnWindowRow : OpenClaim := { program := "ytlenieingkfjaaa", sum := "f7d16d7bd985eb5c5eb88d3a960ee626e41d38f3a9bdb6a76f1cae9974bfccda", func := "loop.example/g00890/laws.FnWindow", spec := "fnWindow", unfollowed := true, recurses := true, apart := false }
def FnWindowSaid : Prop := fnWindowRow.holds Try.pinned (OpenSpec.ofChange fnWindowSpec)

/-- ITS FALSE NEIGHBOUR: 'it returns false'. Refute it at one input. -/
def fnWindowWrong : ChangeSpec := { name := "fnWindow", fn := fun _ => fun
  | [d] => { results := [.lit (.bool false)], args := [d] }
  | _ => none }
def FnWindowWrongFalsely : Prop := fnWindowRow.holds Try.pinned (OpenSpec.ofChange fnWindowWrong)

/-- 'laws.FnWindowLayers': WHATEVER THE INPUT: true; the input reads as it did. -/
def fnWindowLayersSpec : ChangeSpec := { name := "fnWindowLayers", fn := fun _ => fun
  | [d] => { results := [.lit (.bool true)], args := [d] }
  | _ => none }
def fnWindowLayersRow : OpenClaim := { program := "ytlenieingkfjaaa", sum := "f7d16d7bd985eb5c5eb88d3a960ee626e41d38f3a9bdb6a76f1cae9974bfccda", func := "loop.example/g00890/laws.FnWindowLayers", spec := "fnWindowLayers", unfollowed := true, recurses := true, apart := false }
def FnWindowLayersSaid : Prop := fnWindowLayersRow.holds Try.pinned (OpenSpec.ofChange fnWindowLayersSpec)

/-- ITS FALSE NEIGHBOUR: 'it returns false'. Refute it at one input. -/
def fnWindowLayersWrong : ChangeSpec := { name := "fnWindowLayers", fn := fun _ => fun
  | [d] => { results := [.lit (.bool false)], args := [d] }
  | _ => none }
def FnWindowLayersWrongFalsely : Prop := fnWindowLayersRow.holds Try.pinned (OpenSpec.ofChange fnWindowLayersWrong)

/-- 'laws.FnWindowSplit': WHATEVER THE INPUT: true; the input reads as it did. -/
def fnWindowSplitSpec : ChangeSpec := { name := "fnWindowSplit", fn := fun _ => fun
  | [d] => { results := [.lit (.bool true)], args := [d] }
  | _ => none }
def fnWindowSplitRow : OpenClaim := { program := "ytlenieingkfjaaa", sum := "f7d16d7bd985eb5c5eb88d3a960ee626e41d38f3a9bdb6a76f1cae9974bfccda", func := "loop.example/g00890/laws.FnWindowSplit", spec := "fnWindowSplit", unfollowed := true, recurses := true, apart := false }
def FnWindowSplitSaid : Prop := fnWindowSplitRow.holds Try.pinned (OpenSpec.ofChange fnWindowSplitSpec)

/-- ITS FALSE NEIGHBOUR: 'it returns false'. Refute it at one input. -/
def fnWindowSplitWrong : ChangeSpec := { name := "fnWindowSplit", fn := fun _ => fun
  | [d] => { results := [.lit (.bool false)], args := [d] }
  | _ => none }
def FnWindowSplitWrongFalsely : Prop := fnWindowSplitRow.holds Try.pinned (OpenSpec.ofChange fnWindowSplitWrong)

/-- 'laws.FnStream': WHATEVER THE INPUT: true; the input reads as it did. -/
def fnStreamSpec : ChangeSpec := { name := "fnStream", fn := fun _ => fun
  | [d] => { results := [.lit (.bool true)], args := [d] }
  | _ => none }
def fnStreamRow : OpenClaim := { program := "ytlenieingkfjaaa", sum := "f7d16d7bd985eb5c5eb88d3a960ee626e41d38f3a9bdb6a76f1cae9974bfccda", func := "loop.example/g00890/laws.FnStream", spec := "fnStream", unfollowed := true, recurses := true, apart := false }
def FnStreamSaid : Prop := fnStreamRow.holds Try.pinned (OpenSpec.ofChange fnStreamSpec)

/-- ITS FALSE NEIGHBOUR: 'it returns false'. Refute it at one input. -/
def fnStreamWrong : ChangeSpec := { name := "fnStream", fn := fun _ => fun
  | [d] => { results := [.lit (.bool false)], args := [d] }
  | _ => none }
def FnStreamWrongFalsely : Prop := fnStreamRow.holds Try.pinned (OpenSpec.ofChange fnStreamWrong)

/-- 'laws.FnSalvage': WHATEVER THE INPUT: true; the input reads as it did. -/
def fnSalvageSpec : ChangeSpec := { name := "fnSalvage", fn := fun _ => fun
  | [d] => { results := [.lit (.bool true)], args := [d] }
  | _ => none }
def fnSalvageRow : OpenClaim := { program := "ytlenieingkfjaaa", sum := "f7d16d7bd985eb5c5eb88d3a960ee626e41d38f3a9bdb6a76f1cae9974bfccda", func := "loop.example/g00890/laws.FnSalvage", spec := "fnSalvage", unfollowed := true, recurses := true, apart := false }
def FnSalvageSaid : Prop := fnSalvageRow.holds Try.pinned (OpenSpec.ofChange fnSalvageSpec)

/-- ITS FALSE NEIGHBOUR: 'it returns false'. Refute it at one input. -/
def fnSalvageWrong : ChangeSpec := { name := "fnSalvage", fn := fun _ => fun
  | [d] => { results := [.lit (.bool false)], args := [d] }
  | _ => none }
def FnSalvageWrongFalsely : Prop := fnSalvageRow.holds Try.pinned (OpenSpec.ofChange fnSalvageWrong)

/-- 'laws.FnStreamByte': WHATEVER THE INPUT: true; the input reads as it did. -/
def fnStreamByteSpec : ChangeSpec := { name := "fnStreamByte", fn := fun _ => fun
  | [d] => { results := [.lit (.bool true)], args := [d] }
  | _ => none }
def fnStreamByteRow : OpenClaim := { program := "ytlenieingkfjaaa", sum := "f7d16d7bd985eb5c5eb88d3a960ee626e41d38f3a9bdb6a76f1cae9974bfccda", func := "loop.example/g00890/laws.FnStreamByte", spec := "fnStreamByte", unfollowed := true, recurses := true, apart := false }
def FnStreamByteSaid : Prop := fnStreamByteRow.holds Try.pinned (OpenSpec.ofChange fnStreamByteSpec)

/-- ITS FALSE NEIGHBOUR: 'it returns false'. Refute it at one input. -/
def fnStreamByteWrong : ChangeSpec := { name := "fnStreamByte", fn := fun _ => fun
  | [d] => { results := [.lit (.bool false)], args := [d] }
  | _ => none }
def FnStreamByteWrongFalsely : Prop := fnStreamByteRow.holds Try.pinned (OpenSpec.ofChange fnStreamByteWrong)

/-- 'laws.FnExactReadStream': WHATEVER THE INPUT: true; the input reads as it did. -/
def fnExactReadStreamSpec : ChangeSpec := { name := "fnExactReadStream", fn := fun _ => fun
  | [d] => { results := [.lit (.bool true)], args := [d] }
  | _ => none }
def fnExactReadStreamRow : OpenClaim := { program := "ytlenieingkfjaaa", sum := "f7d16d7bd985eb5c5eb88d3a960ee626e41d38f3a9bdb6a76f1cae9974bfccda", func := "loop.example/g00890/laws.FnExactReadStream", spec := "fnExactReadStream", unfollowed := true, recurses := true, apart := false }
def FnExactReadStreamSaid : Prop := fnExactReadStreamRow.holds Try.pinned (OpenSpec.ofChange fnExactReadStreamSpec)

/-- ITS FALSE NEIGHBOUR: 'it returns false'. Refute it at one input. -/
def fnExactReadStreamWrong : ChangeSpec := { name := "fnExactReadStream", fn := fun _ => fun
  | [d] => { results := [.lit (.bool false)], args := [d] }
  | _ => none }
def FnExactReadStreamWrongFalsely : Prop := fnExactReadStreamRow.holds Try.pinned (OpenSpec.ofChange fnExactReadStreamWrong)

/-- 'laws.FnExactSalvageStream': WHATEVER THE INPUT: true; the input reads as it did. -/
def fnExactSalvageStreamSpec : ChangeSpec := { name := "fnExactSalvageStream", fn := fun _ => fun
  | [d] => { results := [.lit (.bool true)], args := [d] }
  | _ => none }
def fnExactSalvageStreamRow : OpenClaim := { program := "ytlenieingkfjaaa", sum := "f7d16d7bd985eb5c5eb88d3a960ee626e41d38f3a9bdb6a76f1cae9974bfccda", func := "loop.example/g00890/laws.FnExactSalvageStream", spec := "fnExactSalvageStream", unfollowed := true, recurses := true, apart := false }
def FnExactSalvageStreamSaid : Prop := fnExactSalvageStreamRow.holds Try.pinned (OpenSpec.ofChange fnExactSalvageStreamSpec)

/-- ITS FALSE NEIGHBOUR: 'it returns false'. Refute it at one input. -/
def fnExactSalvageStreamWrong : ChangeSpec := { name := "fnExactSalvageStream", fn := fun _ => fun
  | [d] => { results := [.lit (.bool false)], args := [d] }
  | _ => none }
def FnExactSalvageStreamWrongFalsely : Prop := fnExactSalvageStreamRow.holds Try.pinned (OpenSpec.ofChange fnExactSalvageStreamWrong)

/-- 'laws.FnCandidates': WHATEVER THE INPUT: true; the input reads as it did. -/
def fnCandidatesSpec : ChangeSpec := { name := "fnCandidates", fn := fun _ => fun
  | [d] => { results := [.lit (.bool true)], args := [d] }
  | _ => none }
def fnCandidatesRow : OpenClaim := { program := "ytlenieingkfjaaa", sum := "f7d16d7bd985eb5c5eb88d3a960ee626e41d38f3a9bdb6a76f1cae9974bfccda", func := "loop.example/g00890/laws.FnCandidates", spec := "fnCandidates", unfollowed := true, recurses := true, apart := false }
def FnCandidatesSaid : Prop := fnCandidatesRow.holds Try.pinned (OpenSpec.ofChange fnCandidatesSpec)

/-- ITS FALSE NEIGHBOUR: 'it returns false'. Refute it at one input. -/
def fnCandidatesWrong : ChangeSpec := { name := "fnCandidates", fn := fun _ => fun
  | [d] => { results := [.lit (.bool false)], args := [d] }
  | _ => none }
def FnCandidatesWrongFalsely : Prop := fnCandidatesRow.holds Try.pinned (OpenSpec.ofChange fnCandidatesWrong)

/-- 'laws.FnExactCandidateCount': WHATEVER THE INPUT: true; the input reads as it did. -/
def fnExactCandidateCountSpec : ChangeSpec := { name := "fnExactCandidateCount", fn := fun _ => fun
  | [d1, d2] => { results := [.lit (.bool true)], args := [d1, d2] }
  | _ => none }
def fnExactCandidateCountRow : OpenClaim := { program := "ytlenieingkfjaaa", sum := "f7d16d7bd985eb5c5eb88d3a960ee626e41d38f3a9bdb6a76f1cae9974bfccda", func := "loop.example/g00890/laws.FnExactCandidateCount", spec := "fnExactCandidateCount", unfollowed := true, recurses := true, apart := false }
def FnExactCandidateCountSaid : Prop := fnExactCandidateCountRow.holds Try.pinned (OpenSpec.ofChange fnExactCandidateCountSpec)

/-- ITS FALSE NEIGHBOUR: 'it returns false'. Refute it at one input. -/
def fnExactCandidateCountWrong : ChangeSpec := { name := "fnExactCandidateCount", fn := fun _ => fun
  | [d1, d2] => { results := [.lit (.bool false)], args := [d1, d2] }
  | _ => none }
def FnExactCandidateCountWrongFalsely : Prop := fnExactCandidateCountRow.holds Try.pinned (OpenSpec.ofChange fnExactCandidateCountWrong)

/- THE SECOND FORM. 'bulk': how many values and letters a reading holds, each counted each time it is reached (what is shared counts as often as it is met; a slice's spare places count too). A statement '..UptoSaid' is the law's where the arguments, and the package variables that the reading takes, are together of bulk at most 1048576: NARROWER than '..Said'. Prove '..Said' where nothing that the law and all that it calls make is longer than what came in: it says more and counts as full. Else prove '..UptoSaid'. A law counts once. -/
mutual
def uptoBulk {H : Type} : DataW H → Nat
  | .lit (.string bytes) => bytes.length + 1
  | .lit _ => 1
  | .nil => 1
  | .ptr d => uptoBulk d + 1
  | .slice elems spare => uptoBulkAll elems + uptoBulkAll spare + 1
  | .agg parts => uptoBulkAll parts + 1
  | .iface _ d => uptoBulk d + 1
  | .map entries => uptoBulkEntries entries + 1
  | .held _ => 1
def uptoBulkAll {H : Type} : List (DataW H) → Nat
  | [] => 0
  | d :: r => uptoBulk d + uptoBulkAll r
def uptoBulkEntries {H : Type} : List (Lit × DataW H) → Nat
  | [] => 0
  | x :: r => uptoBulkEntry x + uptoBulkEntries r
def uptoBulkEntry {H : Type} : Lit × DataW H → Nat
  | (.string bytes, d) => bytes.length + uptoBulk d + 1
  | (_, d) => uptoBulk d + 1
 end
def uptoSmall : (H : Type) → List (DataW H) → Bool := fun _ ds => decide (uptoBulkAll ds ≤ 1048576)
def OpenSpec.upto (s : _root_.Go.ChangeSpec) : _root_.Go.OpenSpec := { _root_.Go.OpenSpec.ofChange s with cond := some uptoSmall }

/-- 'laws.FnHitPaths', WHERE WHAT IT READS IS OF BULK AT MOST 1048576: true; the input reads as it did. -/
def fnHitPathsUptoRow : OpenClaim := { program := "ytlenieingkfjaaa", sum := "f7d16d7bd985eb5c5eb88d3a960ee626e41d38f3a9bdb6a76f1cae9974bfccda", func := "loop.example/g00890/laws.FnHitPaths", spec := "fnHitPaths", unfollowed := true, recurses := true, apart := false, narrowed := true }
def FnHitPathsUptoSaid : Prop := fnHitPathsUptoRow.holds Try.pinned (OpenSpec.upto fnHitPathsSpec)

/-- 'laws.FnWindow', WHERE WHAT IT READS IS OF BULK AT MOST 1048576: true; the input reads as it did. -/
def fnWindowUptoRow : OpenClaim := { program := "ytlenieingkfjaaa", sum := "f7d16d7bd985eb5c5eb88d3a960ee626e41d38f3a9bdb6a76f1cae9974bfccda", func := "loop.example/g00890/laws.FnWindow", spec := "fnWindow", unfollowed := true, recurses := true, apart := false, narrowed := true }
def FnWindowUptoSaid : Prop := fnWindowUptoRow.holds Try.pinned (OpenSpec.upto fnWindowSpec)

/-- 'laws.FnWindowLayers', WHERE WHAT IT READS IS OF BULK AT MOST 1048576: true; the input reads as it did. -/
def fnWindowLayersUptoRow : OpenClaim := { program := "ytlenieingkfjaaa", sum := "f7d16d7bd985eb5c5eb88d3a960ee626e41d38f3a9bdb6a76f1cae9974bfccda", func := "loop.example/g00890/laws.FnWindowLayers", spec := "fnWindowLayers", unfollowed := true, recurses := true, apart := false, narrowed := true }
def FnWindowLayersUptoSaid : Prop := fnWindowLayersUptoRow.holds Try.pinned (OpenSpec.upto fnWindowLayersSpec)

/-- 'laws.FnWindowSplit', WHERE WHAT IT READS IS OF BULK AT MOST 1048576: true; the input reads as it did. -/
def fnWindowSplitUptoRow : OpenClaim := { program := "ytlenieingkfjaaa", sum := "f7d16d7bd985eb5c5eb88d3a960ee626e41d38f3a9bdb6a76f1cae9974bfccda", func := "loop.example/g00890/laws.FnWindowSplit", spec := "fnWindowSplit", unfollowed := true, recurses := true, apart := false, narrowed := true }
def FnWindowSplitUptoSaid : Prop := fnWindowSplitUptoRow.holds Try.pinned (OpenSpec.upto fnWindowSplitSpec)

/-- 'laws.FnStream', WHERE WHAT IT READS IS OF BULK AT MOST 1048576: true; the input reads as it did. -/
def fnStreamUptoRow : OpenClaim := { program := "ytlenieingkfjaaa", sum := "f7d16d7bd985eb5c5eb88d3a960ee626e41d38f3a9bdb6a76f1cae9974bfccda", func := "loop.example/g00890/laws.FnStream", spec := "fnStream", unfollowed := true, recurses := true, apart := false, narrowed := true }
def FnStreamUptoSaid : Prop := fnStreamUptoRow.holds Try.pinned (OpenSpec.upto fnStreamSpec)

/-- 'laws.FnSalvage', WHERE WHAT IT READS IS OF BULK AT MOST 1048576: true; the input reads as it did. -/
def fnSalvageUptoRow : OpenClaim := { program := "ytlenieingkfjaaa", sum := "f7d16d7bd985eb5c5eb88d3a960ee626e41d38f3a9bdb6a76f1cae9974bfccda", func := "loop.example/g00890/laws.FnSalvage", spec := "fnSalvage", unfollowed := true, recurses := true, apart := false, narrowed := true }
def FnSalvageUptoSaid : Prop := fnSalvageUptoRow.holds Try.pinned (OpenSpec.upto fnSalvageSpec)

/-- 'laws.FnStreamByte', WHERE WHAT IT READS IS OF BULK AT MOST 1048576: true; the input reads as it did. -/
def fnStreamByteUptoRow : OpenClaim := { program := "ytlenieingkfjaaa", sum := "f7d16d7bd985eb5c5eb88d3a960ee626e41d38f3a9bdb6a76f1cae9974bfccda", func := "loop.example/g00890/laws.FnStreamByte", spec := "fnStreamByte", unfollowed := true, recurses := true, apart := false, narrowed := true }
def FnStreamByteUptoSaid : Prop := fnStreamByteUptoRow.holds Try.pinned (OpenSpec.upto fnStreamByteSpec)

/-- 'laws.FnExactReadStream', WHERE WHAT IT READS IS OF BULK AT MOST 1048576: true; the input reads as it did. -/
def fnExactReadStreamUptoRow : OpenClaim := { program := "ytlenieingkfjaaa", sum := "f7d16d7bd985eb5c5eb88d3a960ee626e41d38f3a9bdb6a76f1cae9974bfccda", func := "loop.example/g00890/laws.FnExactReadStream", spec := "fnExactReadStream", unfollowed := true, recurses := true, apart := false, narrowed := true }
def FnExactReadStreamUptoSaid : Prop := fnExactReadStreamUptoRow.holds Try.pinned (OpenSpec.upto fnExactReadStreamSpec)

/-- 'laws.FnExactSalvageStream', WHERE WHAT IT READS IS OF BULK AT MOST 1048576: true; the input reads as it did. -/
def fnExactSalvageStreamUptoRow : OpenClaim := { program := "ytlenieingkfjaaa", sum := "f7d16d7bd985eb5c5eb88d3a960ee626e41d38f3a9bdb6a76f1cae9974bfccda", func := "loop.example/g00890/laws.FnExactSalvageStream", spec := "fnExactSalvageStream", unfollowed := true, recurses := true, apart := false, narrowed := true }
def FnExactSalvageStreamUptoSaid : Prop := fnExactSalvageStreamUptoRow.holds Try.pinned (OpenSpec.upto fnExactSalvageStreamSpec)

/-- 'laws.FnCandidates', WHERE WHAT IT READS IS OF BULK AT MOST 1048576: true; the input reads as it did. -/
def fnCandidatesUptoRow : OpenClaim := { program := "ytlenieingkfjaaa", sum := "f7d16d7bd985eb5c5eb88d3a960ee626e41d38f3a9bdb6a76f1cae9974bfccda", func := "loop.example/g00890/laws.FnCandidates", spec := "fnCandidates", unfollowed := true, recurses := true, apart := false, narrowed := true }
def FnCandidatesUptoSaid : Prop := fnCandidatesUptoRow.holds Try.pinned (OpenSpec.upto fnCandidatesSpec)

/-- 'laws.FnExactCandidateCount', WHERE WHAT IT READS IS OF BULK AT MOST 1048576: true; the input reads as it did. -/
def fnExactCandidateCountUptoRow : OpenClaim := { program := "ytlenieingkfjaaa", sum := "f7d16d7bd985eb5c5eb88d3a960ee626e41d38f3a9bdb6a76f1cae9974bfccda", func := "loop.example/g00890/laws.FnExactCandidateCount", spec := "fnExactCandidateCount", unfollowed := true, recurses := true, apart := false, narrowed := true }
def FnExactCandidateCountUptoSaid : Prop := fnExactCandidateCountUptoRow.holds Try.pinned (OpenSpec.upto fnExactCandidateCountSpec)

end Rows
end Go.Proofs.Ytlenieingkfjaaa
