/-
  No cell of these rows narrows 'for every input' (looked for: loops, veiled, ifaces, maps, wideKeys, modest, calm, conditions, laid).
  DERIVED. THE GIVEN ROWS OF THIS SEAT. 5 by the template 'for every input the law returns true; each argument reads behind the call as it read before'; 0 by the template 'total and deterministic' (their statements: YtkabmhjnhcfkcaaTotals.lean).
  GIVEN WITH THE SEED: the statements are not yours to turn. If you find one false, say at which input.
  Laid BY PROGRAM, IN A SANDBOX (cutbox-rows.mjs): the forced cells as the released guide's own fill.sh prints them over the translation df82a3e05f54297b… (all of the seat's roots in one cut). By AI agents, Wed Nov 11 2026. No macro, syntax, notation, axiom, sorry.
-/
import Derived.Test.YtkabmhjnhcfkcaaChecked
import GoSem.Claim
import GoSem.ClaimJoined
import GoSem.ClaimMapViews
import Derived.JoinedTies
import Derived.KernelRfl
namespace Go.Proofs.Ytkabmhjnhcfkcaa
/- THE CELL 'sum', in the pinned program and in every row, IS THE sha256 OF THE DUMP (.gsa) THAT YtkabmhjnhcfkcaaProg.lean LOADS. Nothing in Lean hashes anything: it is a label: what it is worth is what the hold of that sum in a sandbox is worth. -/
noncomputable def Try.pinned : Pinned := { name := "ytkabmhjnhcfkcaa", sum := "df82a3e05f54297b6d77755b4d235cd12f2e14a68512d420aa8611f518426958", checked := Try.checked }
namespace Rows
def none {H : Type} : Left H := { results := [], args := [] }

/-- 'laws.FnExactStartOrdered': WHATEVER THE INPUT: true; the input reads as it did. -/
def fnExactStartOrderedSpec : ChangeSpec := { name := "fnExactStartOrdered", fn := fun _ => fun
  | [d] => { results := [.lit (.bool true)], args := [d] }
  | _ => none }
def fnExactStartOrderedRow : OpenClaim := { program := "ytkabmhjnhcfkcaa", sum := "df82a3e05f54297b6d77755b4d235cd12f2e14a68512d420aa8611f518426958", func := "loop.example/g00216/laws.FnExactStartOrdered", spec := "fnExactStartOrdered", unfollowed := true, recurses := true, apart := false }
def FnExactStartOrderedSaid : Prop := fnExactStartOrderedRow.holds Try.pinned (OpenSpec.ofChange fnExactStartOrderedSpec)

/-- ITS FALSE NEIGHBOUR: 'it returns false'. Refute it at one input. -/
def fnExactStartOrderedWrong : ChangeSpec := { name := "fnExactStartOrdered", fn := fun _ => fun
  | [d] => { results := [.lit (.bool false)], args := [d] }
  | _ => none }
def FnExactStartOrderedWrongFalsely : Prop := fnExactStartOrderedRow.holds Try.pinned (OpenSpec.ofChange fnExactStartOrderedWrong)

/-- 'laws.FnExactLostUpdates': WHATEVER THE INPUT: true; the input reads as it did. -/
def fnExactLostUpdatesSpec : ChangeSpec := { name := "fnExactLostUpdates", fn := fun _ => fun
  | [d] => { results := [.lit (.bool true)], args := [d] }
  | _ => none }
def fnExactLostUpdatesRow : OpenClaim := { program := "ytkabmhjnhcfkcaa", sum := "df82a3e05f54297b6d77755b4d235cd12f2e14a68512d420aa8611f518426958", func := "loop.example/g00216/laws.FnExactLostUpdates", spec := "fnExactLostUpdates", unfollowed := true, recurses := true, apart := false }
def FnExactLostUpdatesSaid : Prop := fnExactLostUpdatesRow.holds Try.pinned (OpenSpec.ofChange fnExactLostUpdatesSpec)

/-- ITS FALSE NEIGHBOUR: 'it returns false'. Refute it at one input. -/
def fnExactLostUpdatesWrong : ChangeSpec := { name := "fnExactLostUpdates", fn := fun _ => fun
  | [d] => { results := [.lit (.bool false)], args := [d] }
  | _ => none }
def FnExactLostUpdatesWrongFalsely : Prop := fnExactLostUpdatesRow.holds Try.pinned (OpenSpec.ofChange fnExactLostUpdatesWrong)

/-- 'laws.FnExactEdgesOf': WHATEVER THE INPUT: true; the input reads as it did. -/
def fnExactEdgesOfSpec : ChangeSpec := { name := "fnExactEdgesOf", fn := fun _ => fun
  | [d] => { results := [.lit (.bool true)], args := [d] }
  | _ => none }
def fnExactEdgesOfRow : OpenClaim := { program := "ytkabmhjnhcfkcaa", sum := "df82a3e05f54297b6d77755b4d235cd12f2e14a68512d420aa8611f518426958", func := "loop.example/g00216/laws.FnExactEdgesOf", spec := "fnExactEdgesOf", unfollowed := true, recurses := true, apart := false }
def FnExactEdgesOfSaid : Prop := fnExactEdgesOfRow.holds Try.pinned (OpenSpec.ofChange fnExactEdgesOfSpec)

/-- ITS FALSE NEIGHBOUR: 'it returns false'. Refute it at one input. -/
def fnExactEdgesOfWrong : ChangeSpec := { name := "fnExactEdgesOf", fn := fun _ => fun
  | [d] => { results := [.lit (.bool false)], args := [d] }
  | _ => none }
def FnExactEdgesOfWrongFalsely : Prop := fnExactEdgesOfRow.holds Try.pinned (OpenSpec.ofChange fnExactEdgesOfWrong)

/-- 'laws.FnExactDirtyReads': WHATEVER THE INPUT: true; the input reads as it did. -/
def fnExactDirtyReadsSpec : ChangeSpec := { name := "fnExactDirtyReads", fn := fun _ => fun
  | [d] => { results := [.lit (.bool true)], args := [d] }
  | _ => none }
def fnExactDirtyReadsRow : OpenClaim := { program := "ytkabmhjnhcfkcaa", sum := "df82a3e05f54297b6d77755b4d235cd12f2e14a68512d420aa8611f518426958", func := "loop.example/g00216/laws.FnExactDirtyReads", spec := "fnExactDirtyReads", unfollowed := true, recurses := true, apart := false }
def FnExactDirtyReadsSaid : Prop := fnExactDirtyReadsRow.holds Try.pinned (OpenSpec.ofChange fnExactDirtyReadsSpec)

/-- ITS FALSE NEIGHBOUR: 'it returns false'. Refute it at one input. -/
def fnExactDirtyReadsWrong : ChangeSpec := { name := "fnExactDirtyReads", fn := fun _ => fun
  | [d] => { results := [.lit (.bool false)], args := [d] }
  | _ => none }
def FnExactDirtyReadsWrongFalsely : Prop := fnExactDirtyReadsRow.holds Try.pinned (OpenSpec.ofChange fnExactDirtyReadsWrong)

/-- 'laws.FnExactSerialOrder': WHATEVER THE INPUT: true; the input reads as it did. -/
def fnExactSerialOrderSpec : ChangeSpec := { name := "fnExactSerialOrder", fn := fun _ => fun
  | [d] => { results := [.lit (.bool true)], args := [d] }
  | _ => none }
def fnExactSerialOrderRow : OpenClaim := { program := "ytkabmhjnhcfkcaa", sum := "df82a3e05f54297b6d77755b4d235cd12f2e14a68512d420aa8611f518426958", func := "loop.example/g00216/laws.FnExactSerialOrder", spec := "fnExactSerialOrder", unfollowed := true, recurses := true, apart := false }
def FnExactSerialOrderSaid : Prop := fnExactSerialOrderRow.holds Try.pinned (OpenSpec.ofChange fnExactSerialOrderSpec)

/-- ITS FALSE NEIGHBOUR: 'it returns false'. Refute it at one input. -/
def fnExactSerialOrderWrong : ChangeSpec := { name := "fnExactSerialOrder", fn := fun _ => fun
  | [d] => { results := [.lit (.bool false)], args := [d] }
  | _ => none }
def FnExactSerialOrderWrongFalsely : Prop := fnExactSerialOrderRow.holds Try.pinned (OpenSpec.ofChange fnExactSerialOrderWrong)

/- THE SECOND FORM. 'bulk': how many values and letters a reading holds, each counted each time it is reached (what is shared counts as often as it is met; a slice's spare places count too). A statement '..UptoSaid' is the law's where the arguments, and the package variables that the reading takes, are together of bulk at most 1048576: NARROWER than '..Said'. Prove '..Said' where nothing that the law and all that it calls make is longer than what came in: it says more and counts as full. Else prove '..UptoSaid'. A law counts once. -/
mutual
def uptoBulk {H : Type} : DataW H → Nat
  | .lit (.string bytes) => bytes.length + 1
  | .lit _ => 1
  | .nil => 1
  | .ptr d => uptoBulk d + 1
  | .slice elems spare => uptoBulkAll elems + uptoBulkAll spare + 1
  | .agg parts => uptoBulkAll parts + 1
  | .iface _ d => uptoBulk d + 1
  | .map entries => uptoBulkEntries entries + 1
  | .held _ => 1
def uptoBulkAll {H : Type} : List (DataW H) → Nat
  | [] => 0
  | d :: r => uptoBulk d + uptoBulkAll r
def uptoBulkEntries {H : Type} : List (Lit × DataW H) → Nat
  | [] => 0
  | x :: r => uptoBulkEntry x + uptoBulkEntries r
def uptoBulkEntry {H : Type} : Lit × DataW H → Nat
  | (.string bytes, d) => bytes.length + uptoBulk d + 1
  | (_, d) => uptoBulk d + 1
 end
def uptoSmall : (H : Type) → List (DataW H) → Bool := fun _ ds => decide (uptoBulkAll ds ≤ 1048576)
def OpenSpec.upto (s : _root_.Go.ChangeSpec) : _root_.Go.OpenSpec := { _root_.Go.OpenSpec.ofChange s with cond := some uptoSmall }

/-- 'laws.FnExactStartOrdered', WHERE WHAT IT READS IS OF BULK AT MOST 1048576: true; the input reads as it did. -/
def fnExactStartOrderedUptoRow : OpenClaim := { program := "ytkabmhjnhcfkcaa", sum := "df82a3e05f54297b6d77755b4d235cd12f2e14a68512d420aa8611f518426958", func := "loop.example/g00216/laws.FnExactStartOrdered", spec := "fnExactStartOrdered", unfollowed := true, recurses := true, apart := false, narrowed := true }
def FnExactStartOrderedUptoSaid : Prop := fnExactStartOrderedUptoRow.holds Try.pinned (OpenSpec.upto fnExactStartOrderedSpec)

/-- 'laws.FnExactLostUpdates', WHERE WHAT IT READS IS OF BULK AT MOST 1048576: true; the input reads as it did. -/
def fnExactLostUpdatesUptoRow : OpenClaim := { program := "ytkabmhjnhcfkcaa", sum := "df82a3e05f54297b6d77755b4d235cd12f2e14a68512d420aa8611f518426958", func := "loop.example/g00216/laws.FnExactLostUpdates", spec := "fnExactLostUpdates", unfollowed := true, recurses := true, apart := false, narrowed := true }
def FnExactLostUpdatesUptoSaid : Prop := fnExactLostUpdatesUptoRow.holds Try.pinned (OpenSpec.upto fnExactLostUpdatesSpec)

/-- 'laws.FnExactEdgesOf', WHERE WHAT IT READS IS OF BULK AT MOST 1048576: true; the input reads as it did. -/
def fnExactEdgesOfUptoRow : OpenClaim := { program := "ytkabmhjnhcfkcaa", sum := "df82a3e05f54297b6d77755b4d235cd12f2e14a68512d420aa8611f518426958", func := "loop.example/g00216/laws.FnExactEdgesOf", spec := "fnExactEdgesOf", unfollowed := true, recurses := true, apart := false, narrowed := true }
def FnExactEdgesOfUptoSaid : Prop := fnExactEdgesOfUptoRow.holds Try.pinned (OpenSpec.upto fnExactEdgesOfSpec)

/-- 'laws.FnExactDirtyReads', WHERE WHAT IT READS IS OF BULK AT MOST 1048576: true; the input reads as it did. -/
def fnExactDirtyReadsUptoRow : OpenClaim := { program := "ytkabmhjnhcfkcaa", sum := "df82a3e05f54297b6d77755b4d235cd12f2e14a68512d420aa8611f518426958", func := "loop.example/g00216/laws.FnExactDirtyReads", spec := "fnExactDirtyReads", unfollowed := true, recurses := true, apart := false, narrowed := true }
def FnExactDirtyReadsUptoSaid : Prop := fnExactDirtyReadsUptoRow.holds Try.pinned (OpenSpec.upto fnExactDirtyReadsSpec)

/-- 'laws.FnExactSerialOrder', WHERE WHAT IT READS IS OF BULK AT MOST 1048576: true; the input reads as it did. -/
def fnExactSerialOrderUptoRow : OpenClaim := { program := "ytkabmhjnhcfkcaa", sum := "df82a3e05f54297b6d77755b4d235cd12f2e14a68512d420aa8611f518426958", func := "loop.example/g00216/laws.FnExactSerialOrder", spec := "fnExactSerialOrder", unfollowed := true, recurses := true, apart := false, narrowed := true }
def FnExactSerialOrderUptoSaid : Prop := fnExactSerialOrderUptoRow.holds Try.pinned (OpenSpec.upto fnExactSerialOrderSpec)

end Rows
end Go.Proofs.Ytkabmhjnhcfkcaa
