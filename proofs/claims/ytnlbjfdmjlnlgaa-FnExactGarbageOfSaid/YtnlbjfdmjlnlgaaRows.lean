/-
  No cell of these rows narrows 'for every input' (looked for: loops, veiled, ifaces, maps, wideKeys, modest, calm, conditions, laid).
  DERIVED. THE GIVEN ROWS OF THIS SEAT. 3 by the template 'for every input the law returns true; each argument reads behind the call as it read before'; 0 by the template 'total and deterministic' (their statements: YtnlbjfdmjlnlgaaTotals.lean).
  GIVEN WITH THE SEED: the statements are not yours to turn. If you find one false, say at which input.
  Laid BY PROGRAM, IN A SANDBOX (cutbox-rows.mjs): the forced cells as the released guide's own fill.sh prints them over the translation 9f1bf3642d2f4c51… (all of the seat's roots in one cut). By AI agents, Wed Nov 11 2026. No macro, syntax, notation, axiom, sorry.
-/
import Derived.Test.YtnlbjfdmjlnlgaaChecked
import GoSem.Claim
import GoSem.ClaimJoined
import GoSem.ClaimMapViews
import Derived.JoinedTies
import Derived.KernelRfl
namespace Go.Proofs.Ytnlbjfdmjlnlgaa
/- THE CELL 'sum', in the pinned program and in every row, IS THE sha256 OF THE DUMP (.gsa) THAT YtnlbjfdmjlnlgaaProg.lean LOADS. Nothing in Lean hashes anything: it is a label: what it is worth is what the hold of that sum in a sandbox is worth. -/
noncomputable def Try.pinned : Pinned := { name := "ytnlbjfdmjlnlgaa", sum := "9f1bf3642d2f4c518a52fb8c1d9c64c1b6f728edd4271af173db62eb79b3274b", checked := Try.checked }
namespace Rows
def none {H : Type} : Left H := { results := [], args := [] }

/-- 'laws.FnExactBeginTxn': WHATEVER THE INPUT: true; the input reads as it did. -/
def fnExactBeginTxnSpec : ChangeSpec := { name := "fnExactBeginTxn", fn := fun _ => fun
  | [d] => { results := [.lit (.bool true)], args := [d] }
  | _ => none }
def fnExactBeginTxnRow : OpenClaim := { program := "ytnlbjfdmjlnlgaa", sum := "9f1bf3642d2f4c518a52fb8c1d9c64c1b6f728edd4271af173db62eb79b3274b", func := "loop.example/g00216/laws.FnExactBeginTxn", spec := "fnExactBeginTxn", unfollowed := true, recurses := true, apart := false }
def FnExactBeginTxnSaid : Prop := fnExactBeginTxnRow.holds Try.pinned (OpenSpec.ofChange fnExactBeginTxnSpec)

/-- ITS FALSE NEIGHBOUR: 'it returns false'. Refute it at one input. -/
def fnExactBeginTxnWrong : ChangeSpec := { name := "fnExactBeginTxn", fn := fun _ => fun
  | [d] => { results := [.lit (.bool false)], args := [d] }
  | _ => none }
def FnExactBeginTxnWrongFalsely : Prop := fnExactBeginTxnRow.holds Try.pinned (OpenSpec.ofChange fnExactBeginTxnWrong)

/-- 'laws.FnExactCommitTxn': WHATEVER THE INPUT: true; the input reads as it did. -/
def fnExactCommitTxnSpec : ChangeSpec := { name := "fnExactCommitTxn", fn := fun _ => fun
  | [d1, d2] => { results := [.lit (.bool true)], args := [d1, d2] }
  | _ => none }
def fnExactCommitTxnRow : OpenClaim := { program := "ytnlbjfdmjlnlgaa", sum := "9f1bf3642d2f4c518a52fb8c1d9c64c1b6f728edd4271af173db62eb79b3274b", func := "loop.example/g00216/laws.FnExactCommitTxn", spec := "fnExactCommitTxn", unfollowed := true, recurses := true, apart := false }
def FnExactCommitTxnSaid : Prop := fnExactCommitTxnRow.holds Try.pinned (OpenSpec.ofChange fnExactCommitTxnSpec)

/-- ITS FALSE NEIGHBOUR: 'it returns false'. Refute it at one input. -/
def fnExactCommitTxnWrong : ChangeSpec := { name := "fnExactCommitTxn", fn := fun _ => fun
  | [d1, d2] => { results := [.lit (.bool false)], args := [d1, d2] }
  | _ => none }
def FnExactCommitTxnWrongFalsely : Prop := fnExactCommitTxnRow.holds Try.pinned (OpenSpec.ofChange fnExactCommitTxnWrong)

/-- 'laws.FnExactGarbageOf': WHATEVER THE INPUT: true; the input reads as it did. -/
def fnExactGarbageOfSpec : ChangeSpec := { name := "fnExactGarbageOf", fn := fun _ => fun
  | [d] => { results := [.lit (.bool true)], args := [d] }
  | _ => none }
def fnExactGarbageOfRow : OpenClaim := { program := "ytnlbjfdmjlnlgaa", sum := "9f1bf3642d2f4c518a52fb8c1d9c64c1b6f728edd4271af173db62eb79b3274b", func := "loop.example/g00216/laws.FnExactGarbageOf", spec := "fnExactGarbageOf", inPlace := ["slices.overlaps[loop.example/g00216/impl.Row]"], unfollowed := true, recurses := true, apart := false }
def FnExactGarbageOfSaid : Prop := fnExactGarbageOfRow.holds Try.pinned (OpenSpec.ofChange fnExactGarbageOfSpec)

/-- ITS FALSE NEIGHBOUR: 'it returns false'. Refute it at one input. -/
def fnExactGarbageOfWrong : ChangeSpec := { name := "fnExactGarbageOf", fn := fun _ => fun
  | [d] => { results := [.lit (.bool false)], args := [d] }
  | _ => none }
def FnExactGarbageOfWrongFalsely : Prop := fnExactGarbageOfRow.holds Try.pinned (OpenSpec.ofChange fnExactGarbageOfWrong)

/- THE SECOND FORM. 'bulk': how many values and letters a reading holds, each counted each time it is reached (what is shared counts as often as it is met; a slice's spare places count too). A statement '..UptoSaid' is the law's where the arguments, and the package variables that the reading takes, are together of bulk at most 1048576: NARROWER than '..Said'. Prove '..Said' where nothing that the law and all that it calls make is longer than what came in: it says more and counts as full. Else prove '..UptoSaid'. A law counts once. -/
mutual
def uptoBulk {H : Type} : DataW H → Nat
  | .lit (.string bytes) => bytes.length + 1
  | .lit _ => 1
  | .nil => 1
  | .ptr d => uptoBulk d + 1
  | .slice elems spare => uptoBulkAll elems + uptoBulkAll spare + 1
  | .agg parts => uptoBulkAll parts + 1
  | .iface _ d => uptoBulk d + 1
  | .map entries => uptoBulkEntries entries + 1
  | .held _ => 1
def uptoBulkAll {H : Type} : List (DataW H) → Nat
  | [] => 0
  | d :: r => uptoBulk d + uptoBulkAll r
def uptoBulkEntries {H : Type} : List (Lit × DataW H) → Nat
  | [] => 0
  | x :: r => uptoBulkEntry x + uptoBulkEntries r
def uptoBulkEntry {H : Type} : Lit × DataW H → Nat
  | (.string bytes, d) => bytes.length + uptoBulk d + 1
  | (_, d) => uptoBulk d + 1
 end
def uptoSmall : (H : Type) → List (DataW H) → Bool := fun _ ds => decide (uptoBulkAll ds ≤ 1048576)
def OpenSpec.upto (s : _root_.Go.ChangeSpec) : _root_.Go.OpenSpec := { _root_.Go.OpenSpec.ofChange s with cond := some uptoSmall }

/-- 'laws.FnExactBeginTxn', WHERE WHAT IT READS IS OF BULK AT MOST 1048576: true; the input reads as it did. -/
def fnExactBeginTxnUptoRow : OpenClaim := { program := "ytnlbjfdmjlnlgaa", sum := "9f1bf3642d2f4c518a52fb8c1d9c64c1b6f728edd4271af173db62eb79b3274b", func := "loop.example/g00216/laws.FnExactBeginTxn", spec := "fnExactBeginTxn", unfollowed := true, recurses := true, apart := false, narrowed := true }
def FnExactBeginTxnUptoSaid : Prop := fnExactBeginTxnUptoRow.holds Try.pinned (OpenSpec.upto fnExactBeginTxnSpec)

/-- 'laws.FnExactCommitTxn', WHERE WHAT IT READS IS OF BULK AT MOST 1048576: true; the input reads as it did. -/
def fnExactCommitTxnUptoRow : OpenClaim := { program := "ytnlbjfdmjlnlgaa", sum := "9f1bf3642d2f4c518a52fb8c1d9c64c1b6f728edd4271af173db62eb79b3274b", func := "loop.example/g00216/laws.FnExactCommitTxn", spec := "fnExactCommitTxn", unfollowed := true, recurses := true, apart := false, narrowed := true }
def FnExactCommitTxnUptoSaid : Prop := fnExactCommitTxnUptoRow.holds Try.pinned (OpenSpec.upto fnExactCommitTxnSpec)

/-- 'laws.FnExactGarbageOf', WHERE WHAT IT READS IS OF BULK AT MOST 1048576: true; the input reads as it did. -/
def fnExactGarbageOfUptoRow : OpenClaim := { program := "ytnlbjfdmjlnlgaa", sum := "9f1bf3642d2f4c518a52fb8c1d9c64c1b6f728edd4271af173db62eb79b3274b", func := "loop.example/g00216/laws.FnExactGarbageOf", spec := "fnExactGarbageOf", inPlace := ["slices.overlaps[loop.example/g00216/impl.Row]"], unfollowed := true, recurses := true, apart := false, narrowed := true }
def FnExactGarbageOfUptoSaid : Prop := fnExactGarbageOfUptoRow.holds Try.pinned (OpenSpec.upto fnExactGarbageOfSpec)

end Rows
end Go.Proofs.Ytnlbjfdmjlnlgaa
