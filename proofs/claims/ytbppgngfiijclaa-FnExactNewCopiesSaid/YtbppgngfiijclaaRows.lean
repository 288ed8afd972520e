/-
  No cell of these rows narrows 'for every input' (looked for: loops, veiled, ifaces, maps, wideKeys, modest, calm, conditions, laid).
  DERIVED. THE GIVEN ROWS OF THIS SEAT. 6 by the template 'for every input the law returns true; each argument reads behind the call as it read before'; 0 by the template 'total and deterministic' (their statements: YtbppgngfiijclaaTotals.lean).
  GIVEN WITH THE SEED: the statements are not yours to turn. If you find one false, say at which input.
  Laid BY PROGRAM, IN A SANDBOX (cutbox-rows.mjs): the forced cells as the released guide's own fill.sh prints them over the translation 6d2f718c34c2219e… (all of the seat's roots in one cut). By AI agents, Wed Nov 11 2026. No macro, syntax, notation, axiom, sorry.
-/
import Derived.Test.YtbppgngfiijclaaChecked
import GoSem.Claim
import GoSem.ClaimJoined
import GoSem.ClaimMapViews
import Derived.JoinedTies
import Derived.KernelRfl
namespace Go.Proofs.Ytbppgngfiijclaa
/- THE CELL 'sum', in the pinned program and in every row, IS THE sha256 OF THE DUMP (.gsa) THAT YtbppgngfiijclaaProg.lean LOADS. Nothing in Lean hashes anything: it is a label: what it is worth is what the hold of that sum in a sandbox is worth. -/
noncomputable def Try.pinned : Pinned := { name := "ytbppgngfiijclaa", sum := "6d2f718c34c2219ecc0a9d12106d4d73a1206d1a067cddc9e3cb2ee6a7d754d7", checked := Try.checked }
namespace Rows
def none {H : Type} : Left H := { results := [], args := [] }

/-- 'laws.FnExactNewCopies': WHATEVER THE INPUT: true; the input reads as it did. -/
def fnExactNewCopiesSpec : ChangeSpec := { name := "fnExactNewCopies", fn := fun _ => fun
  | [d] => { results := [.lit (.bool true)], args := [d] }
  | _ => none }
def fnExactNewCopiesRow : OpenClaim := { program := "ytbppgngfiijclaa", sum := "6d2f718c34c2219ecc0a9d12106d4d73a1206d1a067cddc9e3cb2ee6a7d754d7", func := "loop.example/g00216/laws.FnExactNewCopies", spec := "fnExactNewCopies", apart := false }
def FnExactNewCopiesSaid : Prop := fnExactNewCopiesRow.holds Try.pinned (OpenSpec.ofChange fnExactNewCopiesSpec)

/-- ITS FALSE NEIGHBOUR: 'it returns false'. Refute it at one input. -/
def fnExactNewCopiesWrong : ChangeSpec := { name := "fnExactNewCopies", fn := fun _ => fun
  | [d] => { results := [.lit (.bool false)], args := [d] }
  | _ => none }
def FnExactNewCopiesWrongFalsely : Prop := fnExactNewCopiesRow.holds Try.pinned (OpenSpec.ofChange fnExactNewCopiesWrong)

/-- 'laws.FnExactCopiesFault': WHATEVER THE INPUT: true; the input reads as it did. -/
def fnExactCopiesFaultSpec : ChangeSpec := { name := "fnExactCopiesFault", fn := fun _ => fun
  | [d] => { results := [.lit (.bool true)], args := [d] }
  | _ => none }
def fnExactCopiesFaultRow : OpenClaim := { program := "ytbppgngfiijclaa", sum := "6d2f718c34c2219ecc0a9d12106d4d73a1206d1a067cddc9e3cb2ee6a7d754d7", func := "loop.example/g00216/laws.FnExactCopiesFault", spec := "fnExactCopiesFault", unfollowed := true, recurses := true, apart := false }
def FnExactCopiesFaultSaid : Prop := fnExactCopiesFaultRow.holds Try.pinned (OpenSpec.ofChange fnExactCopiesFaultSpec)

/-- ITS FALSE NEIGHBOUR: 'it returns false'. Refute it at one input. -/
def fnExactCopiesFaultWrong : ChangeSpec := { name := "fnExactCopiesFault", fn := fun _ => fun
  | [d] => { results := [.lit (.bool false)], args := [d] }
  | _ => none }
def FnExactCopiesFaultWrongFalsely : Prop := fnExactCopiesFaultRow.holds Try.pinned (OpenSpec.ofChange fnExactCopiesFaultWrong)

/-- 'laws.FnRecs': WHATEVER THE INPUT: true; the input reads as it did. -/
def fnRecsSpec : ChangeSpec := { name := "fnRecs", fn := fun _ => fun
  | [d] => { results := [.lit (.bool true)], args := [d] }
  | _ => none }
def fnRecsRow : OpenClaim := { program := "ytbppgngfiijclaa", sum := "6d2f718c34c2219ecc0a9d12106d4d73a1206d1a067cddc9e3cb2ee6a7d754d7", func := "loop.example/g00216/laws.FnRecs", spec := "fnRecs", apart := false }
def FnRecsSaid : Prop := fnRecsRow.holds Try.pinned (OpenSpec.ofChange fnRecsSpec)

/-- ITS FALSE NEIGHBOUR: 'it returns false'. Refute it at one input. -/
def fnRecsWrong : ChangeSpec := { name := "fnRecs", fn := fun _ => fun
  | [d] => { results := [.lit (.bool false)], args := [d] }
  | _ => none }
def FnRecsWrongFalsely : Prop := fnRecsRow.holds Try.pinned (OpenSpec.ofChange fnRecsWrong)

/-- 'laws.FnExactAppendRec': WHATEVER THE INPUT: true; the input reads as it did. -/
def fnExactAppendRecSpec : ChangeSpec := { name := "fnExactAppendRec", fn := fun _ => fun
  | [d1, d2] => { results := [.lit (.bool true)], args := [d1, d2] }
  | _ => none }
def fnExactAppendRecRow : OpenClaim := { program := "ytbppgngfiijclaa", sum := "6d2f718c34c2219ecc0a9d12106d4d73a1206d1a067cddc9e3cb2ee6a7d754d7", func := "loop.example/g00216/laws.FnExactAppendRec", spec := "fnExactAppendRec", apart := false }
def FnExactAppendRecSaid : Prop := fnExactAppendRecRow.holds Try.pinned (OpenSpec.ofChange fnExactAppendRecSpec)

/-- ITS FALSE NEIGHBOUR: 'it returns false'. Refute it at one input. -/
def fnExactAppendRecWrong : ChangeSpec := { name := "fnExactAppendRec", fn := fun _ => fun
  | [d1, d2] => { results := [.lit (.bool false)], args := [d1, d2] }
  | _ => none }
def FnExactAppendRecWrongFalsely : Prop := fnExactAppendRecRow.holds Try.pinned (OpenSpec.ofChange fnExactAppendRecWrong)

/-- 'laws.FnExactStoreFault': WHATEVER THE INPUT: true; the input reads as it did. -/
def fnExactStoreFaultSpec : ChangeSpec := { name := "fnExactStoreFault", fn := fun _ => fun
  | [d] => { results := [.lit (.bool true)], args := [d] }
  | _ => none }
def fnExactStoreFaultRow : OpenClaim := { program := "ytbppgngfiijclaa", sum := "6d2f718c34c2219ecc0a9d12106d4d73a1206d1a067cddc9e3cb2ee6a7d754d7", func := "loop.example/g00216/laws.FnExactStoreFault", spec := "fnExactStoreFault", unfollowed := true, recurses := true, apart := false }
def FnExactStoreFaultSaid : Prop := fnExactStoreFaultRow.holds Try.pinned (OpenSpec.ofChange fnExactStoreFaultSpec)

/-- ITS FALSE NEIGHBOUR: 'it returns false'. Refute it at one input. -/
def fnExactStoreFaultWrong : ChangeSpec := { name := "fnExactStoreFault", fn := fun _ => fun
  | [d] => { results := [.lit (.bool false)], args := [d] }
  | _ => none }
def FnExactStoreFaultWrongFalsely : Prop := fnExactStoreFaultRow.holds Try.pinned (OpenSpec.ofChange fnExactStoreFaultWrong)

/-- 'laws.FnExactGarbageOf': WHATEVER THE INPUT: true; the input reads as it did. -/
def fnExactGarbageOfSpec : ChangeSpec := { name := "fnExactGarbageOf", fn := fun _ => fun
  | [d] => { results := [.lit (.bool true)], args := [d] }
  | _ => none }
def fnExactGarbageOfRow : OpenClaim := { program := "ytbppgngfiijclaa", sum := "6d2f718c34c2219ecc0a9d12106d4d73a1206d1a067cddc9e3cb2ee6a7d754d7", func := "loop.example/g00216/laws.FnExactGarbageOf", spec := "fnExactGarbageOf", inPlace := ["slices.overlaps[loop.example/g00216/impl.Row]"], unfollowed := true, recurses := true, apart := false }
def FnExactGarbageOfSaid : Prop := fnExactGarbageOfRow.holds Try.pinned (OpenSpec.ofChange fnExactGarbageOfSpec)

/-- ITS FALSE NEIGHBOUR: 'it returns false'. Refute it at one input. -/
def fnExactGarbageOfWrong : ChangeSpec := { name := "fnExactGarbageOf", fn := fun _ => fun
  | [d] => { results := [.lit (.bool false)], args := [d] }
  | _ => none }
def FnExactGarbageOfWrongFalsely : Prop := fnExactGarbageOfRow.holds Try.pinned (OpenSpec.ofChange fnExactGarbageOfWrong)

/- THE SECOND FORM. 'bulk': how many values and letters a reading holds, each counted each time it is reached (what is shared counts as often as it is met; a slice's spare places count too). A statement '..UptoSaid' is the law's where the arguments, and the package variables that the reading takes, are together of bulk at most 1048576: NARROWER than '..Said'. Prove '..Said' where nothing that the law and all that it calls make is longer than what came in: it says more and counts as full. Else prove '..UptoSaid'. A law counts once. -/
mutual
def uptoBulk {H : Type} : DataW H → Nat
  | .lit (.string bytes) => bytes.length + 1
  | .lit _ => 1
  | .nil => 1
  | .ptr d => uptoBulk d + 1
  | .slice elems spare => uptoBulkAll elems + uptoBulkAll spare + 1
  | .agg parts => uptoBulkAll parts + 1
  | .iface _ d => uptoBulk d + 1
  | .map entries => uptoBulkEntries entries + 1
  | .held _ => 1
def uptoBulkAll {H : Type} : List (DataW H) → Nat
  | [] => 0
  | d :: r => uptoBulk d + uptoBulkAll r
def uptoBulkEntries {H : Type} : List (Lit × DataW H) → Nat
  | [] => 0
  | x :: r => uptoBulkEntry x + uptoBulkEntries r
def uptoBulkEntry {H : Type} : Lit × DataW H → Nat
  | (.string bytes, d) => bytes.length + uptoBulk d + 1
  | (_, d) => uptoBulk d + 1
 end
def uptoSmall : (H : Type) → List (DataW H) → Bool := fun _ ds => decide (uptoBulkAll ds ≤ 1048576)
def OpenSpec.upto (s : _root_.Go.ChangeSpec) : _root_.Go.OpenSpec := { _root_.Go.OpenSpec.ofChange s with cond := some uptoSmall }

/-- 'laws.FnExactNewCopies', WHERE WHAT IT READS IS OF BULK AT MOST 1048576: true; the input reads as it did. -/
def fnExactNewCopiesUptoRow : OpenClaim := { program := "ytbppgngfiijclaa", sum := "6d2f718c34c2219ecc0a9d12106d4d73a1206d1a067cddc9e3cb2ee6a7d754d7", func := "loop.example/g00216/laws.FnExactNewCopies", spec := "fnExactNewCopies", apart := false, narrowed := true }
def FnExactNewCopiesUptoSaid : Prop := fnExactNewCopiesUptoRow.holds Try.pinned (OpenSpec.upto fnExactNewCopiesSpec)

/-- 'laws.FnExactCopiesFault', WHERE WHAT IT READS IS OF BULK AT MOST 1048576: true; the input reads as it did. -/
def fnExactCopiesFaultUptoRow : OpenClaim := { program := "ytbppgngfiijclaa", sum := "6d2f718c34c2219ecc0a9d12106d4d73a1206d1a067cddc9e3cb2ee6a7d754d7", func := "loop.example/g00216/laws.FnExactCopiesFault", spec := "fnExactCopiesFault", unfollowed := true, recurses := true, apart := false, narrowed := true }
def FnExactCopiesFaultUptoSaid : Prop := fnExactCopiesFaultUptoRow.holds Try.pinned (OpenSpec.upto fnExactCopiesFaultSpec)

/-- 'laws.FnRecs', WHERE WHAT IT READS IS OF BULK AT MOST 1048576: true; the input reads as it did. -/
def fnRecsUptoRow : OpenClaim := { program := "ytbppgngfiijclaa", sum := "6d2f718c34c2219ecc0a9d12106d4d73a1206d1a067cddc9e3cb2ee6a7d754d7", func := "loop.example/g00216/laws.FnRecs", spec := "fnRecs", apart := false, narrowed := true }
def FnRecsUptoSaid : Prop := fnRecsUptoRow.holds Try.pinned (OpenSpec.upto fnRecsSpec)

/-- 'laws.FnExactAppendRec', WHERE WHAT IT READS IS OF BULK AT MOST 1048576: true; the input reads as it did. -/
def fnExactAppendRecUptoRow : OpenClaim := { program := "ytbppgngfiijclaa", sum := "6d2f718c34c2219ecc0a9d12106d4d73a1206d1a067cddc9e3cb2ee6a7d754d7", func := "loop.example/g00216/laws.FnExactAppendRec", spec := "fnExactAppendRec", apart := false, narrowed := true }
def FnExactAppendRecUptoSaid : Prop := fnExactAppendRecUptoRow.holds Try.pinned (OpenSpec.upto fnExactAppendRecSpec)

/-- 'laws.FnExactStoreFault', WHERE WHAT IT READS IS OF BULK AT MOST 1048576: true; the input reads as it did. -/
def fnExactStoreFaultUptoRow : OpenClaim := { program := "ytbppgngfiijclaa", sum := "6d2f718c34c2219ecc0a9d12106d4d73a1206d1a067cddc9e3cb2ee6a7d754d7", func := "loop.example/g00216/laws.FnExactStoreFault", spec := "fnExactStoreFault", unfollowed := true, recurses := true, apart := false, narrowed := true }
def FnExactStoreFaultUptoSaid : Prop := fnExactStoreFaultUptoRow.holds Try.pinned (OpenSpec.upto fnExactStoreFaultSpec)

/-- 'laws.FnExactGarbageOf', WHERE WHAT IT READS IS OF BULK AT MOST 1048576: true; the input reads as it did. -/
def fnExactGarbageOfUptoRow : OpenClaim := { program := "ytbppgngfiijclaa", sum := "6d2f718c34c2219ecc0a9d12106d4d73a1206d1a067cddc9e3cb2ee6a7d754d7", func := "loop.example/g00216/laws.FnExactGarbageOf", spec := "fnExactGarbageOf", inPlace := ["slices.overlaps[loop.example/g00216/impl.Row]"], unfollowed := true, recurses := true, apart := false, narrowed := true }
def FnExactGarbageOfUptoSaid : Prop := fnExactGarbageOfUptoRow.holds Try.pinned (OpenSpec.upto fnExactGarbageOfSpec)

end Rows
end Go.Proofs.Ytbppgngfiijclaa
