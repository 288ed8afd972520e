/-
  No cell of these rows narrows 'for every input' (looked for: loops, veiled, ifaces, maps, wideKeys, modest, calm, conditions, laid).
  DERIVED. THE GIVEN ROWS OF THIS SEAT. 11 by the template 'for every input the law returns true; each argument reads behind the call as it read before'; 0 by the template 'total and deterministic' (their statements: YthejobdlfomcjaaTotals.lean).
  GIVEN WITH THE SEED: the statements are not yours to turn. If you find one false, say at which input.
  Laid BY PROGRAM, IN A SANDBOX (cutbox-rows.mjs): the forced cells as the released guide's own fill.sh prints them over the translation e25040e30976180b… (all of the seat's roots in one cut). By AI agents, Wed Nov 11 2026. No macro, syntax, notation, axiom, sorry.
-/
import Derived.Test.YthejobdlfomcjaaChecked
import GoSem.Claim
import GoSem.ClaimJoined
import GoSem.ClaimMapViews
import Derived.JoinedTies
import Derived.KernelRfl
namespace Go.Proofs.Ythejobdlfomcjaa
/- THE CELL 'sum', in the pinned program and in every row, IS THE sha256 OF THE DUMP (.gsa) THAT YthejobdlfomcjaaProg.lean LOADS. Nothing in Lean hashes anything: it is a label: what it is worth is what the hold of that sum in a sandbox is worth. -/
noncomputable def Try.pinned : Pinned := { name := "ythejobdlfomcjaa", sum := "e25040e30976180b448b402c3db51dda53d3f0af3194818462e54459a1f37e45", checked := Try.checked }
namespace Rows
def none {H : Type} : Left H := { results := [], args := [] }

/-- 'laws.FnExactCopiesFault': WHATEVER THE INPUT: true; the input reads as it did. -/
def fnExactCopiesFaultSpec : ChangeSpec := { name := "fnExactCopiesFault", fn := fun _ => fun
  | [d] => { results := [.lit (.bool true)], args := [d] }
  | _ => none }
def fnExactCopiesFaultRow : OpenClaim := { program := "ythejobdlfomcjaa", sum := "e25040e30976180b448b402c3db51dda53d3f0af3194818462e54459a1f37e45", func := "loop.example/g00216/laws.FnExactCopiesFault", spec := "fnExactCopiesFault", unfollowed := true, recurses := true, apart := false }
def FnExactCopiesFaultSaid : Prop := fnExactCopiesFaultRow.holds Try.pinned (OpenSpec.ofChange fnExactCopiesFaultSpec)

/-- ITS FALSE NEIGHBOUR: 'it returns false'. Refute it at one input. -/
def fnExactCopiesFaultWrong : ChangeSpec := { name := "fnExactCopiesFault", fn := fun _ => fun
  | [d] => { results := [.lit (.bool false)], args := [d] }
  | _ => none }
def FnExactCopiesFaultWrongFalsely : Prop := fnExactCopiesFaultRow.holds Try.pinned (OpenSpec.ofChange fnExactCopiesFaultWrong)

/-- 'laws.FnExactSyncDisk': WHATEVER THE INPUT: true; the input reads as it did. -/
def fnExactSyncDiskSpec : ChangeSpec := { name := "fnExactSyncDisk", fn := fun _ => fun
  | [d] => { results := [.lit (.bool true)], args := [d] }
  | _ => none }
def fnExactSyncDiskRow : OpenClaim := { program := "ythejobdlfomcjaa", sum := "e25040e30976180b448b402c3db51dda53d3f0af3194818462e54459a1f37e45", func := "loop.example/g00216/laws.FnExactSyncDisk", spec := "fnExactSyncDisk", unfollowed := true, recurses := true, apart := false }
def FnExactSyncDiskSaid : Prop := fnExactSyncDiskRow.holds Try.pinned (OpenSpec.ofChange fnExactSyncDiskSpec)

/-- ITS FALSE NEIGHBOUR: 'it returns false'. Refute it at one input. -/
def fnExactSyncDiskWrong : ChangeSpec := { name := "fnExactSyncDisk", fn := fun _ => fun
  | [d] => { results := [.lit (.bool false)], args := [d] }
  | _ => none }
def FnExactSyncDiskWrongFalsely : Prop := fnExactSyncDiskRow.holds Try.pinned (OpenSpec.ofChange fnExactSyncDiskWrong)

/-- 'laws.FnRecs': WHATEVER THE INPUT: true; the input reads as it did. -/
def fnRecsSpec : ChangeSpec := { name := "fnRecs", fn := fun _ => fun
  | [d] => { results := [.lit (.bool true)], args := [d] }
  | _ => none }
def fnRecsRow : OpenClaim := { program := "ythejobdlfomcjaa", sum := "e25040e30976180b448b402c3db51dda53d3f0af3194818462e54459a1f37e45", func := "loop.example/g00216/laws.FnRecs", spec := "fnRecs", apart := false }
def FnRecsSaid : Prop := fnRecsRow.holds Try.pinned (OpenSpec.ofChange fnRecsSpec)

/-- ITS FALSE NEIGHBOUR: 'it returns false'. Refute it at one input. -/
def fnRecsWrong : ChangeSpec := { name := "fnRecs", fn := fun _ => fun
  | [d] => { results := [.lit (.bool false)], args := [d] }
  | _ => none }
def FnRecsWrongFalsely : Prop := fnRecsRow.holds Try.pinned (OpenSpec.ofChange fnRecsWrong)

/-- 'laws.FnExactAppendRec': WHATEVER THE INPUT: true; the input reads as it did. -/
def fnExactAppendRecSpec : ChangeSpec := { name := "fnExactAppendRec", fn := fun _ => fun
  | [d1, d2] => { results := [.lit (.bool true)], args := [d1, d2] }
  | _ => none }
def fnExactAppendRecRow : OpenClaim := { program := "ythejobdlfomcjaa", sum := "e25040e30976180b448b402c3db51dda53d3f0af3194818462e54459a1f37e45", func := "loop.example/g00216/laws.FnExactAppendRec", spec := "fnExactAppendRec", apart := false }
def FnExactAppendRecSaid : Prop := fnExactAppendRecRow.holds Try.pinned (OpenSpec.ofChange fnExactAppendRecSpec)

/-- ITS FALSE NEIGHBOUR: 'it returns false'. Refute it at one input. -/
def fnExactAppendRecWrong : ChangeSpec := { name := "fnExactAppendRec", fn := fun _ => fun
  | [d1, d2] => { results := [.lit (.bool false)], args := [d1, d2] }
  | _ => none }
def FnExactAppendRecWrongFalsely : Prop := fnExactAppendRecRow.holds Try.pinned (OpenSpec.ofChange fnExactAppendRecWrong)

/-- 'laws.FnExactPlaceDisk': WHATEVER THE INPUT: true; the input reads as it did. -/
def fnExactPlaceDiskSpec : ChangeSpec := { name := "fnExactPlaceDisk", fn := fun _ => fun
  | [d1, d2, d3] => { results := [.lit (.bool true)], args := [d1, d2, d3] }
  | _ => none }
def fnExactPlaceDiskRow : OpenClaim := { program := "ythejobdlfomcjaa", sum := "e25040e30976180b448b402c3db51dda53d3f0af3194818462e54459a1f37e45", func := "loop.example/g00216/laws.FnExactPlaceDisk", spec := "fnExactPlaceDisk", unfollowed := true, recurses := true, apart := false }
def FnExactPlaceDiskSaid : Prop := fnExactPlaceDiskRow.holds Try.pinned (OpenSpec.ofChange fnExactPlaceDiskSpec)

/-- ITS FALSE NEIGHBOUR: 'it returns false'. Refute it at one input. -/
def fnExactPlaceDiskWrong : ChangeSpec := { name := "fnExactPlaceDisk", fn := fun _ => fun
  | [d1, d2, d3] => { results := [.lit (.bool false)], args := [d1, d2, d3] }
  | _ => none }
def FnExactPlaceDiskWrongFalsely : Prop := fnExactPlaceDiskRow.holds Try.pinned (OpenSpec.ofChange fnExactPlaceDiskWrong)

/-- 'laws.FnExactCrashDisk': WHATEVER THE INPUT: true; the input reads as it did. -/
def fnExactCrashDiskSpec : ChangeSpec := { name := "fnExactCrashDisk", fn := fun _ => fun
  | [d1, d2] => { results := [.lit (.bool true)], args := [d1, d2] }
  | _ => none }
def fnExactCrashDiskRow : OpenClaim := { program := "ythejobdlfomcjaa", sum := "e25040e30976180b448b402c3db51dda53d3f0af3194818462e54459a1f37e45", func := "loop.example/g00216/laws.FnExactCrashDisk", spec := "fnExactCrashDisk", unfollowed := true, recurses := true, apart := false }
def FnExactCrashDiskSaid : Prop := fnExactCrashDiskRow.holds Try.pinned (OpenSpec.ofChange fnExactCrashDiskSpec)

/-- ITS FALSE NEIGHBOUR: 'it returns false'. Refute it at one input. -/
def fnExactCrashDiskWrong : ChangeSpec := { name := "fnExactCrashDisk", fn := fun _ => fun
  | [d1, d2] => { results := [.lit (.bool false)], args := [d1, d2] }
  | _ => none }
def FnExactCrashDiskWrongFalsely : Prop := fnExactCrashDiskRow.holds Try.pinned (OpenSpec.ofChange fnExactCrashDiskWrong)

/-- 'laws.FnDisks': WHATEVER THE INPUT: true; the input reads as it did. -/
def fnDisksSpec : ChangeSpec := { name := "fnDisks", fn := fun _ => fun
  | [d] => { results := [.lit (.bool true)], args := [d] }
  | _ => none }
def fnDisksRow : OpenClaim := { program := "ythejobdlfomcjaa", sum := "e25040e30976180b448b402c3db51dda53d3f0af3194818462e54459a1f37e45", func := "loop.example/g00216/laws.FnDisks", spec := "fnDisks", unfollowed := true, recurses := true, apart := false }
def FnDisksSaid : Prop := fnDisksRow.holds Try.pinned (OpenSpec.ofChange fnDisksSpec)

/-- ITS FALSE NEIGHBOUR: 'it returns false'. Refute it at one input. -/
def fnDisksWrong : ChangeSpec := { name := "fnDisks", fn := fun _ => fun
  | [d] => { results := [.lit (.bool false)], args := [d] }
  | _ => none }
def FnDisksWrongFalsely : Prop := fnDisksRow.holds Try.pinned (OpenSpec.ofChange fnDisksWrong)

/-- 'laws.FnPowers': WHATEVER THE INPUT: true; the input reads as it did. -/
def fnPowersSpec : ChangeSpec := { name := "fnPowers", fn := fun _ => fun
  | [d] => { results := [.lit (.bool true)], args := [d] }
  | _ => none }
def fnPowersRow : OpenClaim := { program := "ythejobdlfomcjaa", sum := "e25040e30976180b448b402c3db51dda53d3f0af3194818462e54459a1f37e45", func := "loop.example/g00216/laws.FnPowers", spec := "fnPowers", unfollowed := true, recurses := true, apart := false }
def FnPowersSaid : Prop := fnPowersRow.holds Try.pinned (OpenSpec.ofChange fnPowersSpec)

/-- ITS FALSE NEIGHBOUR: 'it returns false'. Refute it at one input. -/
def fnPowersWrong : ChangeSpec := { name := "fnPowers", fn := fun _ => fun
  | [d] => { results := [.lit (.bool false)], args := [d] }
  | _ => none }
def FnPowersWrongFalsely : Prop := fnPowersRow.holds Try.pinned (OpenSpec.ofChange fnPowersWrong)

/-- 'laws.FnExactTornOf': WHATEVER THE INPUT: true; the input reads as it did. -/
def fnExactTornOfSpec : ChangeSpec := { name := "fnExactTornOf", fn := fun _ => fun
  | [d] => { results := [.lit (.bool true)], args := [d] }
  | _ => none }
def fnExactTornOfRow : OpenClaim := { program := "ythejobdlfomcjaa", sum := "e25040e30976180b448b402c3db51dda53d3f0af3194818462e54459a1f37e45", func := "loop.example/g00216/laws.FnExactTornOf", spec := "fnExactTornOf", unfollowed := true, recurses := true, apart := false }
def FnExactTornOfSaid : Prop := fnExactTornOfRow.holds Try.pinned (OpenSpec.ofChange fnExactTornOfSpec)

/-- ITS FALSE NEIGHBOUR: 'it returns false'. Refute it at one input. -/
def fnExactTornOfWrong : ChangeSpec := { name := "fnExactTornOf", fn := fun _ => fun
  | [d] => { results := [.lit (.bool false)], args := [d] }
  | _ => none }
def FnExactTornOfWrongFalsely : Prop := fnExactTornOfRow.holds Try.pinned (OpenSpec.ofChange fnExactTornOfWrong)

/-- 'laws.FnExactReadDisk': WHATEVER THE INPUT: true; the input reads as it did. -/
def fnExactReadDiskSpec : ChangeSpec := { name := "fnExactReadDisk", fn := fun _ => fun
  | [d1, d2] => { results := [.lit (.bool true)], args := [d1, d2] }
  | _ => none }
def fnExactReadDiskRow : OpenClaim := { program := "ythejobdlfomcjaa", sum := "e25040e30976180b448b402c3db51dda53d3f0af3194818462e54459a1f37e45", func := "loop.example/g00216/laws.FnExactReadDisk", spec := "fnExactReadDisk", unfollowed := true, recurses := true, apart := false }
def FnExactReadDiskSaid : Prop := fnExactReadDiskRow.holds Try.pinned (OpenSpec.ofChange fnExactReadDiskSpec)

/-- ITS FALSE NEIGHBOUR: 'it returns false'. Refute it at one input. -/
def fnExactReadDiskWrong : ChangeSpec := { name := "fnExactReadDisk", fn := fun _ => fun
  | [d1, d2] => { results := [.lit (.bool false)], args := [d1, d2] }
  | _ => none }
def FnExactReadDiskWrongFalsely : Prop := fnExactReadDiskRow.holds Try.pinned (OpenSpec.ofChange fnExactReadDiskWrong)

/-- 'laws.FnExactWriteDisk': WHATEVER THE INPUT: true; the input reads as it did. -/
def fnExactWriteDiskSpec : ChangeSpec := { name := "fnExactWriteDisk", fn := fun _ => fun
  | [d1, d2] => { results := [.lit (.bool true)], args := [d1, d2] }
  | _ => none }
def fnExactWriteDiskRow : OpenClaim := { program := "ythejobdlfomcjaa", sum := "e25040e30976180b448b402c3db51dda53d3f0af3194818462e54459a1f37e45", func := "loop.example/g00216/laws.FnExactWriteDisk", spec := "fnExactWriteDisk", unfollowed := true, recurses := true, apart := false }
def FnExactWriteDiskSaid : Prop := fnExactWriteDiskRow.holds Try.pinned (OpenSpec.ofChange fnExactWriteDiskSpec)

/-- ITS FALSE NEIGHBOUR: 'it returns false'. Refute it at one input. -/
def fnExactWriteDiskWrong : ChangeSpec := { name := "fnExactWriteDisk", fn := fun _ => fun
  | [d1, d2] => { results := [.lit (.bool false)], args := [d1, d2] }
  | _ => none }
def FnExactWriteDiskWrongFalsely : Prop := fnExactWriteDiskRow.holds Try.pinned (OpenSpec.ofChange fnExactWriteDiskWrong)

/- THE SECOND FORM. 'bulk': how many values and letters a reading holds, each counted each time it is reached (what is shared counts as often as it is met; a slice's spare places count too). A statement '..UptoSaid' is the law's where the arguments, and the package variables that the reading takes, are together of bulk at most 1048576: NARROWER than '..Said'. Prove '..Said' where nothing that the law and all that it calls make is longer than what came in: it says more and counts as full. Else prove '..UptoSaid'. A law counts once. -/
mutual
def uptoBulk {H : Type} : DataW H → Nat
  | .lit (.string bytes) => bytes.length + 1
  | .lit _ => 1
  | .nil => 1
  | .ptr d => uptoBulk d + 1
  | .slice elems spare => uptoBulkAll elems + uptoBulkAll spare + 1
  | .agg parts => uptoBulkAll parts + 1
  | .iface _ d => uptoBulk d + 1
  | .map entries => uptoBulkEntries entries + 1
  | .held _ => 1
def uptoBulkAll {H : Type} : List (DataW H) → Nat
  | [] => 0
  | d :: r => uptoBulk d + uptoBulkAll r
def uptoBulkEntries {H : Type} : List (Lit × DataW H) → Nat
  | [] => 0
  | x :: r => uptoBulkEntry x + uptoBulkEntries r
def uptoBulkEntry {H : Type} : Lit × DataW H → Nat
  | (.string bytes, d) => bytes.length + uptoBulk d + 1
  | (_, d) => uptoBulk d + 1
 end
def uptoSmall : (H : Type) → List (DataW H) → Bool := fun _ ds => decide (uptoBulkAll ds ≤ 1048576)
def OpenSpec.upto (s : _root_.Go.ChangeSpec) : _root_.Go.OpenSpec := { _root_.Go.OpenSpec.ofChange s with cond := some uptoSmall }

/-- 'laws.FnExactCopiesFault', WHERE WHAT IT READS IS OF BULK AT MOST 1048576: true; the input reads as it did. -/
def fnExactCopiesFaultUptoRow : OpenClaim := { program := "ythejobdlfomcjaa", sum := "e25040e30976180b448b402c3db51dda53d3f0af3194818462e54459a1f37e45", func := "loop.example/g00216/laws.FnExactCopiesFault", spec := "fnExactCopiesFault", unfollowed := true, recurses := true, apart := false, narrowed := true }
def FnExactCopiesFaultUptoSaid : Prop := fnExactCopiesFaultUptoRow.holds Try.pinned (OpenSpec.upto fnExactCopiesFaultSpec)

/-- 'laws.FnExactSyncDisk', WHERE WHAT IT READS IS OF BULK AT MOST 1048576: true; the input reads as it did. -/
def fnExactSyncDiskUptoRow : OpenClaim := { program := "ythejobdlfomcjaa", sum := "e25040e30976180b448b402c3db51dda53d3f0af3194818462e54459a1f37e45", func := "loop.example/g00216/laws.FnExactSyncDisk", spec := "fnExactSyncDisk", unfollowed := true, recurses := true, apart := false, narrowed := true }
def FnExactSyncDiskUptoSaid : Prop := fnExactSyncDiskUptoRow.holds Try.pinned (OpenSpec.upto fnExactSyncDiskSpec)

/-- 'laws.FnRecs', WHERE WHAT IT READS IS OF BULK AT MOST 1048576: true; the input reads as it did. -/
def fnRecsUptoRow : OpenClaim := { program := "ythejobdlfomcjaa", sum := "e25040e30976180b448b402c3db51dda53d3f0af3194818462e54459a1f37e45", func := "loop.example/g00216/laws.FnRecs", spec := "fnRecs", apart := false, narrowed := true }
def FnRecsUptoSaid : Prop := fnRecsUptoRow.holds Try.pinned (OpenSpec.upto fnRecsSpec)

/-- 'laws.FnExactAppendRec', WHERE WHAT IT READS IS OF BULK AT MOST 1048576: true; the input reads as it did. -/
def fnExactAppendRecUptoRow : OpenClaim := { program := "ythejobdlfomcjaa", sum := "e25040e30976180b448b402c3db51dda53d3f0af3194818462e54459a1f37e45", func := "loop.example/g00216/laws.FnExactAppendRec", spec := "fnExactAppendRec", apart := false, narrowed := true }
def FnExactAppendRecUptoSaid : Prop := fnExactAppendRecUptoRow.holds Try.pinned (OpenSpec.upto fnExactAppendRecSpec)

/-- 'laws.FnExactPlaceDisk', WHERE WHAT IT READS IS OF BULK AT MOST 1048576: true; the input reads as it did. -/
def fnExactPlaceDiskUptoRow : OpenClaim := { program := "ythejobdlfomcjaa", sum := "e25040e30976180b448b402c3db51dda53d3f0af3194818462e54459a1f37e45", func := "loop.example/g00216/laws.FnExactPlaceDisk", spec := "fnExactPlaceDisk", unfollowed := true, recurses := true, apart := false, narrowed := true }
def FnExactPlaceDiskUptoSaid : Prop := fnExactPlaceDiskUptoRow.holds Try.pinned (OpenSpec.upto fnExactPlaceDiskSpec)

/-- 'laws.FnExactCrashDisk', WHERE WHAT IT READS IS OF BULK AT MOST 1048576: true; the input reads as it did. -/
def fnExactCrashDiskUptoRow : OpenClaim := { program := "ythejobdlfomcjaa", sum := "e25040e30976180b448b402c3db51dda53d3f0af3194818462e54459a1f37e45", func := "loop.example/g00216/laws.FnExactCrashDisk", spec := "fnExactCrashDisk", unfollowed := true, recurses := true, apart := false, narrowed := true }
def FnExactCrashDiskUptoSaid : Prop := fnExactCrashDiskUptoRow.holds Try.pinned (OpenSpec.upto fnExactCrashDiskSpec)

/-- 'laws.FnDisks', WHERE WHAT IT READS IS OF BULK AT MOST 1048576: true; the input reads as it did. -/
def fnDisksUptoRow : OpenClaim := { program := "ythejobdlfomcjaa", sum := "e25040e30976180b448b402c3db51dda53d3f0af3194818462e54459a1f37e45", func := "loop.example/g00216/laws.FnDisks", spec := "fnDisks", unfollowed := true, recurses := true, apart := false, narrowed := true }
def FnDisksUptoSaid : Prop := fnDisksUptoRow.holds Try.pinned (OpenSpec.upto fnDisksSpec)

/-- 'laws.FnPowers', WHERE WHAT IT READS IS OF BULK AT MOST 1048576: true; the input reads as it did. -/
def fnPowersUptoRow : OpenClaim := { program := "ythejobdlfomcjaa", sum := "e25040e30976180b448b402c3db51dda53d3f0af3194818462e54459a1f37e45", func := "loop.example/g00216/laws.FnPowers", spec := "fnPowers", unfollowed := true, recurses := true, apart := false, narrowed := true }
def FnPowersUptoSaid : Prop := fnPowersUptoRow.holds Try.pinned (OpenSpec.upto fnPowersSpec)

/-- 'laws.FnExactTornOf', WHERE WHAT IT READS IS OF BULK AT MOST 1048576: true; the input reads as it did. -/
def fnExactTornOfUptoRow : OpenClaim := { program := "ythejobdlfomcjaa", sum := "e25040e30976180b448b402c3db51dda53d3f0af3194818462e54459a1f37e45", func := "loop.example/g00216/laws.FnExactTornOf", spec := "fnExactTornOf", unfollowed := true, recurses := true, apart := false, narrowed := true }
def FnExactTornOfUptoSaid : Prop := fnExactTornOfUptoRow.holds Try.pinned (OpenSpec.upto fnExactTornOfSpec)

/-- 'laws.FnExactReadDisk', WHERE WHAT IT READS IS OF BULK AT MOST 1048576: true; the input reads as it did. -/
def fnExactReadDiskUptoRow : OpenClaim := { program := "ythejobdlfomcjaa", sum := "e25040e30976180b448b402c3db51dda53d3f0af3194818462e54459a1f37e45", func := "loop.example/g00216/laws.FnExactReadDisk", spec := "fnExactReadDisk", unfollowed := true, recurses := true, apart := false, narrowed := true }
def FnExactReadDiskUptoSaid : Prop := fnExactReadDiskUptoRow.holds Try.pinned (OpenSpec.upto fnExactReadDiskSpec)

/-- 'laws.FnExactWriteDisk', WHERE WHAT IT READS IS OF BULK AT MOST 1048576: true; the input reads as it did. -/
def fnExactWriteDiskUptoRow : OpenClaim := { program := "ythejobdlfomcjaa", sum := "e25040e30976180b448b402c3db51dda53d3f0af3194818462e54459a1f37e45", func := "loop.example/g00216/laws.FnExactWriteDisk", spec := "fnExactWriteDisk", unfollowed := true, recurses := true, apart := false, narrowed := true }
def FnExactWriteDiskUptoSaid : Prop := fnExactWriteDiskUptoRow.holds Try.pinned (OpenSpec.upto fnExactWriteDiskSpec)

end Rows
end Go.Proofs.Ythejobdlfomcjaa
