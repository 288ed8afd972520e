/-
  No cell of these rows narrows 'for every input' (looked for: loops, veiled, ifaces, maps, wideKeys, modest, calm, conditions, laid).
  DERIVED. THE GIVEN ROWS OF THIS SEAT. 7 by the template 'for every input the law returns true; each argument reads behind the call as it read before'; 0 by the template 'total and deterministic' (their statements: YtifpmjnbkodgfaaTotals.lean).
  GIVEN WITH THE SEED: the statements are not yours to turn. If you find one false, say at which input.
  Laid BY PROGRAM, IN A SANDBOX (cutbox-rows.mjs): the forced cells as the released guide's own fill.sh prints them over the translation 2bdc6ca0dd398b22… (all of the seat's roots in one cut). By AI agents, Wed Nov 11 2026. No macro, syntax, notation, axiom, sorry.
-/
import Derived.Test.YtifpmjnbkodgfaaChecked
import GoSem.Claim
import GoSem.ClaimJoined
import GoSem.ClaimMapViews
import Derived.JoinedTies
import Derived.KernelRfl
namespace Go.Proofs.Ytifpmjnbkodgfaa
/- THE CELL 'sum', in the pinned program and in every row, IS THE sha256 OF THE DUMP (.gsa) THAT YtifpmjnbkodgfaaProg.lean LOADS. Nothing in Lean hashes anything: it is a label: what it is worth is what the hold of that sum in a sandbox is worth. -/
noncomputable def Try.pinned : Pinned := { name := "ytifpmjnbkodgfaa", sum := "2bdc6ca0dd398b22c6d4d1049cc7dad07f22d98bde822e010cab37900dded38a", checked := Try.checked }
namespace Rows
def none {H : Type} : Left H := { results := [], args := [] }

/-- 'laws.FnExactHasCycle': WHATEVER THE INPUT: true; the input reads as it did. -/
def fnExactHasCycleSpec : ChangeSpec := { name := "fnExactHasCycle", fn := fun _ => fun
  | [d1, d2] => { results := [.lit (.bool true)], args := [d1, d2] }
  | _ => none }
def fnExactHasCycleRow : OpenClaim := { program := "ytifpmjnbkodgfaa", sum := "2bdc6ca0dd398b22c6d4d1049cc7dad07f22d98bde822e010cab37900dded38a", func := "loop.example/g00216/laws.FnExactHasCycle", spec := "fnExactHasCycle", unfollowed := true, recurses := true, apart := false }
def FnExactHasCycleSaid : Prop := fnExactHasCycleRow.holds Try.pinned (OpenSpec.ofChange fnExactHasCycleSpec)

/-- ITS FALSE NEIGHBOUR: 'it returns false'. Refute it at one input. -/
def fnExactHasCycleWrong : ChangeSpec := { name := "fnExactHasCycle", fn := fun _ => fun
  | [d1, d2] => { results := [.lit (.bool false)], args := [d1, d2] }
  | _ => none }
def FnExactHasCycleWrongFalsely : Prop := fnExactHasCycleRow.holds Try.pinned (OpenSpec.ofChange fnExactHasCycleWrong)

/-- 'laws.FnExactOneRwCycle': WHATEVER THE INPUT: true; the input reads as it did. -/
def fnExactOneRwCycleSpec : ChangeSpec := { name := "fnExactOneRwCycle", fn := fun _ => fun
  | [d] => { results := [.lit (.bool true)], args := [d] }
  | _ => none }
def fnExactOneRwCycleRow : OpenClaim := { program := "ytifpmjnbkodgfaa", sum := "2bdc6ca0dd398b22c6d4d1049cc7dad07f22d98bde822e010cab37900dded38a", func := "loop.example/g00216/laws.FnExactOneRwCycle", spec := "fnExactOneRwCycle", unfollowed := true, recurses := true, apart := false }
def FnExactOneRwCycleSaid : Prop := fnExactOneRwCycleRow.holds Try.pinned (OpenSpec.ofChange fnExactOneRwCycleSpec)

/-- ITS FALSE NEIGHBOUR: 'it returns false'. Refute it at one input. -/
def fnExactOneRwCycleWrong : ChangeSpec := { name := "fnExactOneRwCycle", fn := fun _ => fun
  | [d] => { results := [.lit (.bool false)], args := [d] }
  | _ => none }
def FnExactOneRwCycleWrongFalsely : Prop := fnExactOneRwCycleRow.holds Try.pinned (OpenSpec.ofChange fnExactOneRwCycleWrong)

/-- 'laws.FnExactHistoryFault': WHATEVER THE INPUT: true; the input reads as it did. -/
def fnExactHistoryFaultSpec : ChangeSpec := { name := "fnExactHistoryFault", fn := fun _ => fun
  | [d] => { results := [.lit (.bool true)], args := [d] }
  | _ => none }
def fnExactHistoryFaultRow : OpenClaim := { program := "ytifpmjnbkodgfaa", sum := "2bdc6ca0dd398b22c6d4d1049cc7dad07f22d98bde822e010cab37900dded38a", func := "loop.example/g00216/laws.FnExactHistoryFault", spec := "fnExactHistoryFault", unfollowed := true, recurses := true, apart := false }
def FnExactHistoryFaultSaid : Prop := fnExactHistoryFaultRow.holds Try.pinned (OpenSpec.ofChange fnExactHistoryFaultSpec)

/-- ITS FALSE NEIGHBOUR: 'it returns false'. Refute it at one input. -/
def fnExactHistoryFaultWrong : ChangeSpec := { name := "fnExactHistoryFault", fn := fun _ => fun
  | [d] => { results := [.lit (.bool false)], args := [d] }
  | _ => none }
def FnExactHistoryFaultWrongFalsely : Prop := fnExactHistoryFaultRow.holds Try.pinned (OpenSpec.ofChange fnExactHistoryFaultWrong)

/-- 'laws.FnExactSameReplies': WHATEVER THE INPUT: true; the input reads as it did. -/
def fnExactSameRepliesSpec : ChangeSpec := { name := "fnExactSameReplies", fn := fun _ => fun
  | [d1, d2] => { results := [.lit (.bool true)], args := [d1, d2] }
  | _ => none }
def fnExactSameRepliesRow : OpenClaim := { program := "ytifpmjnbkodgfaa", sum := "2bdc6ca0dd398b22c6d4d1049cc7dad07f22d98bde822e010cab37900dded38a", func := "loop.example/g00216/laws.FnExactSameReplies", spec := "fnExactSameReplies", unfollowed := true, recurses := true, apart := false }
def FnExactSameRepliesSaid : Prop := fnExactSameRepliesRow.holds Try.pinned (OpenSpec.ofChange fnExactSameRepliesSpec)

/-- ITS FALSE NEIGHBOUR: 'it returns false'. Refute it at one input. -/
def fnExactSameRepliesWrong : ChangeSpec := { name := "fnExactSameReplies", fn := fun _ => fun
  | [d1, d2] => { results := [.lit (.bool false)], args := [d1, d2] }
  | _ => none }
def FnExactSameRepliesWrongFalsely : Prop := fnExactSameRepliesRow.holds Try.pinned (OpenSpec.ofChange fnExactSameRepliesWrong)

/-- 'laws.FnExactOverlap': WHATEVER THE INPUT: true; the input reads as it did. -/
def fnExactOverlapSpec : ChangeSpec := { name := "fnExactOverlap", fn := fun _ => fun
  | [d1, d2, d3] => { results := [.lit (.bool true)], args := [d1, d2, d3] }
  | _ => none }
def fnExactOverlapRow : OpenClaim := { program := "ytifpmjnbkodgfaa", sum := "2bdc6ca0dd398b22c6d4d1049cc7dad07f22d98bde822e010cab37900dded38a", func := "loop.example/g00216/laws.FnExactOverlap", spec := "fnExactOverlap", unfollowed := true, recurses := true, apart := false }
def FnExactOverlapSaid : Prop := fnExactOverlapRow.holds Try.pinned (OpenSpec.ofChange fnExactOverlapSpec)

/-- ITS FALSE NEIGHBOUR: 'it returns false'. Refute it at one input. -/
def fnExactOverlapWrong : ChangeSpec := { name := "fnExactOverlap", fn := fun _ => fun
  | [d1, d2, d3] => { results := [.lit (.bool false)], args := [d1, d2, d3] }
  | _ => none }
def FnExactOverlapWrongFalsely : Prop := fnExactOverlapRow.holds Try.pinned (OpenSpec.ofChange fnExactOverlapWrong)

/-- 'laws.FnExactCommittedOf': WHATEVER THE INPUT: true; the input reads as it did. -/
def fnExactCommittedOfSpec : ChangeSpec := { name := "fnExactCommittedOf", fn := fun _ => fun
  | [d] => { results := [.lit (.bool true)], args := [d] }
  | _ => none }
def fnExactCommittedOfRow : OpenClaim := { program := "ytifpmjnbkodgfaa", sum := "2bdc6ca0dd398b22c6d4d1049cc7dad07f22d98bde822e010cab37900dded38a", func := "loop.example/g00216/laws.FnExactCommittedOf", spec := "fnExactCommittedOf", unfollowed := true, recurses := true, apart := false }
def FnExactCommittedOfSaid : Prop := fnExactCommittedOfRow.holds Try.pinned (OpenSpec.ofChange fnExactCommittedOfSpec)

/-- ITS FALSE NEIGHBOUR: 'it returns false'. Refute it at one input. -/
def fnExactCommittedOfWrong : ChangeSpec := { name := "fnExactCommittedOf", fn := fun _ => fun
  | [d] => { results := [.lit (.bool false)], args := [d] }
  | _ => none }
def FnExactCommittedOfWrongFalsely : Prop := fnExactCommittedOfRow.holds Try.pinned (OpenSpec.ofChange fnExactCommittedOfWrong)

/-- 'laws.FnExactWritersOf': WHATEVER THE INPUT: true; the input reads as it did. -/
def fnExactWritersOfSpec : ChangeSpec := { name := "fnExactWritersOf", fn := fun _ => fun
  | [d1, d2] => { results := [.lit (.bool true)], args := [d1, d2] }
  | _ => none }
def fnExactWritersOfRow : OpenClaim := { program := "ytifpmjnbkodgfaa", sum := "2bdc6ca0dd398b22c6d4d1049cc7dad07f22d98bde822e010cab37900dded38a", func := "loop.example/g00216/laws.FnExactWritersOf", spec := "fnExactWritersOf", unfollowed := true, recurses := true, apart := false }
def FnExactWritersOfSaid : Prop := fnExactWritersOfRow.holds Try.pinned (OpenSpec.ofChange fnExactWritersOfSpec)

/-- ITS FALSE NEIGHBOUR: 'it returns false'. Refute it at one input. -/
def fnExactWritersOfWrong : ChangeSpec := { name := "fnExactWritersOf", fn := fun _ => fun
  | [d1, d2] => { results := [.lit (.bool false)], args := [d1, d2] }
  | _ => none }
def FnExactWritersOfWrongFalsely : Prop := fnExactWritersOfRow.holds Try.pinned (OpenSpec.ofChange fnExactWritersOfWrong)

/- THE SECOND FORM. 'bulk': how many values and letters a reading holds, each counted each time it is reached (what is shared counts as often as it is met; a slice's spare places count too). A statement '..UptoSaid' is the law's where the arguments, and the package variables that the reading takes, are together of bulk at most 1048576: NARROWER than '..Said'. Prove '..Said' where nothing that the law and all that it calls make is longer than what came in: it says more and counts as full. Else prove '..UptoSaid'. A law counts once. -/
mutual
def uptoBulk {H : Type} : DataW H → Nat
  | .lit (.string bytes) => bytes.length + 1
  | .lit _ => 1
  | .nil => 1
  | .ptr d => uptoBulk d + 1
  | .slice elems spare => uptoBulkAll elems + uptoBulkAll spare + 1
  | .agg parts => uptoBulkAll parts + 1
  | .iface _ d => uptoBulk d + 1
  | .map entries => uptoBulkEntries entries + 1
  | .held _ => 1
def uptoBulkAll {H : Type} : List (DataW H) → Nat
  | [] => 0
  | d :: r => uptoBulk d + uptoBulkAll r
def uptoBulkEntries {H : Type} : List (Lit × DataW H) → Nat
  | [] => 0
  | x :: r => uptoBulkEntry x + uptoBulkEntries r
def uptoBulkEntry {H : Type} : Lit × DataW H → Nat
  | (.string bytes, d) => bytes.length + uptoBulk d + 1
  | (_, d) => uptoBulk d + 1
 end
def uptoSmall : (H : Type) → List (DataW H) → Bool := fun _ ds => decide (uptoBulkAll ds ≤ 1048576)
def OpenSpec.upto (s : _root_.Go.ChangeSpec) : _root_.Go.OpenSpec := { _root_.Go.OpenSpec.ofChange s with cond := some uptoSmall }

/-- 'laws.FnExactHasCycle', WHERE WHAT IT READS IS OF BULK AT MOST 1048576: true; the input reads as it did. -/
def fnExactHasCycleUptoRow : OpenClaim := { program := "ytifpmjnbkodgfaa", sum := "2bdc6ca0dd398b22c6d4d1049cc7dad07f22d98bde822e010cab37900dded38a", func := "loop.example/g00216/laws.FnExactHasCycle", spec := "fnExactHasCycle", unfollowed := true, recurses := true, apart := false, narrowed := true }
def FnExactHasCycleUptoSaid : Prop := fnExactHasCycleUptoRow.holds Try.pinned (OpenSpec.upto fnExactHasCycleSpec)

/-- 'laws.FnExactOneRwCycle', WHERE WHAT IT READS IS OF BULK AT MOST 1048576: true; the input reads as it did. -/
def fnExactOneRwCycleUptoRow : OpenClaim := { program := "ytifpmjnbkodgfaa", sum := "2bdc6ca0dd398b22c6d4d1049cc7dad07f22d98bde822e010cab37900dded38a", func := "loop.example/g00216/laws.FnExactOneRwCycle", spec := "fnExactOneRwCycle", unfollowed := true, recurses := true, apart := false, narrowed := true }
def FnExactOneRwCycleUptoSaid : Prop := fnExactOneRwCycleUptoRow.holds Try.pinned (OpenSpec.upto fnExactOneRwCycleSpec)

/-- 'laws.FnExactHistoryFault', WHERE WHAT IT READS IS OF BULK AT MOST 1048576: true; the input reads as it did. -/
def fnExactHistoryFaultUptoRow : OpenClaim := { program := "ytifpmjnbkodgfaa", sum := "2bdc6ca0dd398b22c6d4d1049cc7dad07f22d98bde822e010cab37900dded38a", func := "loop.example/g00216/laws.FnExactHistoryFault", spec := "fnExactHistoryFault", unfollowed := true, recurses := true, apart := false, narrowed := true }
def FnExactHistoryFaultUptoSaid : Prop := fnExactHistoryFaultUptoRow.holds Try.pinned (OpenSpec.upto fnExactHistoryFaultSpec)

/-- 'laws.FnExactSameReplies', WHERE WHAT IT READS IS OF BULK AT MOST 1048576: true; the input reads as it did. -/
def fnExactSameRepliesUptoRow : OpenClaim := { program := "ytifpmjnbkodgfaa", sum := "2bdc6ca0dd398b22c6d4d1049cc7dad07f22d98bde822e010cab37900dded38a", func := "loop.example/g00216/laws.FnExactSameReplies", spec := "fnExactSameReplies", unfollowed := true, recurses := true, apart := false, narrowed := true }
def FnExactSameRepliesUptoSaid : Prop := fnExactSameRepliesUptoRow.holds Try.pinned (OpenSpec.upto fnExactSameRepliesSpec)

/-- 'laws.FnExactOverlap', WHERE WHAT IT READS IS OF BULK AT MOST 1048576: true; the input reads as it did. -/
def fnExactOverlapUptoRow : OpenClaim := { program := "ytifpmjnbkodgfaa", sum := "2bdc6ca0dd398b22c6d4d1049cc7dad07f22d98bde822e010cab37900dded38a", func := "loop.example/g00216/laws.FnExactOverlap", spec := "fnExactOverlap", unfollowed := true, recurses := true, apart := false, narrowed := true }
def FnExactOverlapUptoSaid : Prop := fnExactOverlapUptoRow.holds Try.pinned (OpenSpec.upto fnExactOverlapSpec)

/-- 'laws.FnExactCommittedOf', WHERE WHAT IT READS IS OF BULK AT MOST 1048576: true; the input reads as it did. -/
def fnExactCommittedOfUptoRow : OpenClaim := { program := "ytifpmjnbkodgfaa", sum := "2bdc6ca0dd398b22c6d4d1049cc7dad07f22d98bde822e010cab37900dded38a", func := "loop.example/g00216/laws.FnExactCommittedOf", spec := "fnExactCommittedOf", unfollowed := true, recurses := true, apart := false, narrowed := true }
def FnExactCommittedOfUptoSaid : Prop := fnExactCommittedOfUptoRow.holds Try.pinned (OpenSpec.upto fnExactCommittedOfSpec)

/-- 'laws.FnExactWritersOf', WHERE WHAT IT READS IS OF BULK AT MOST 1048576: true; the input reads as it did. -/
def fnExactWritersOfUptoRow : OpenClaim := { program := "ytifpmjnbkodgfaa", sum := "2bdc6ca0dd398b22c6d4d1049cc7dad07f22d98bde822e010cab37900dded38a", func := "loop.example/g00216/laws.FnExactWritersOf", spec := "fnExactWritersOf", unfollowed := true, recurses := true, apart := false, narrowed := true }
def FnExactWritersOfUptoSaid : Prop := fnExactWritersOfUptoRow.holds Try.pinned (OpenSpec.upto fnExactWritersOfSpec)

end Rows
end Go.Proofs.Ytifpmjnbkodgfaa
