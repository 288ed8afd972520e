/-
  No cell of these rows narrows 'for every input' (looked for: loops, veiled, ifaces, maps, wideKeys, modest, calm, conditions, laid).
  DERIVED. THE GIVEN ROWS OF THIS SEAT. 9 by the template 'for every input the law returns true; each argument reads behind the call as it read before'; 0 by the template 'total and deterministic' (their statements: YtnlbjfdmjlnlgaaGreatTotals.lean).
  GIVEN WITH THE SEED: the statements are not yours to turn. If you find one false, say at which input.
  Laid BY PROGRAM, IN A SANDBOX (cutbox-rows.mjs): the forced cells as the released guide's own fill.sh prints them over the translation 281f3cab78693a51… (all of the seat's roots in one cut). By AI agents, Wed Nov 11 2026. No macro, syntax, notation, axiom, sorry.
-/
import Derived.Test.YtnlbjfdmjlnlgaaGreatChecked
import GoSem.Claim
import GoSem.ClaimJoined
import GoSem.ClaimMapViews
import Derived.JoinedTies
import Derived.KernelRfl
namespace Go.Proofs.YtnlbjfdmjlnlgaaGreat
/- THE CELL 'sum', in the pinned program and in every row, IS THE sha256 OF THE DUMP (.gsa) THAT YtnlbjfdmjlnlgaaGreatProg.lean LOADS. Nothing in Lean hashes anything: it is a label: what it is worth is what the hold of that sum in a sandbox is worth. -/
noncomputable def Tryz.pinned : Pinned := { name := "ytnlbjfdmjlnlgaagreat", sum := "281f3cab78693a51a17f629f71f65f841b404e0c13974c4d870db435369bcc5d", checked := Tryz.checked }
namespace Rows
def none {H : Type} : Left H := { results := [], args := [] }

/-- 'laws.FnExactAbortTxn': WHATEVER THE INPUT: true; the input reads as it did. -/
def fnExactAbortTxnSpec : ChangeSpec := { name := "fnExactAbortTxn", fn := fun _ => fun
  | [d1, d2] => { results := [.lit (.bool true)], args := [d1, d2] }
  | _ => none }
def fnExactAbortTxnRow : OpenClaim := { program := "ytnlbjfdmjlnlgaagreat", sum := "281f3cab78693a51a17f629f71f65f841b404e0c13974c4d870db435369bcc5d", func := "loop.example/g00216/laws.FnExactAbortTxn", spec := "fnExactAbortTxn", inPlace := ["slices.overlaps[loop.example/g00216/impl.Row]"], unfollowed := true, recurses := true, apart := false }
def FnExactAbortTxnSaid : Prop := fnExactAbortTxnRow.holds Tryz.pinned (OpenSpec.ofChange fnExactAbortTxnSpec)

/-- ITS FALSE NEIGHBOUR: 'it returns false'. Refute it at one input. -/
def fnExactAbortTxnWrong : ChangeSpec := { name := "fnExactAbortTxn", fn := fun _ => fun
  | [d1, d2] => { results := [.lit (.bool false)], args := [d1, d2] }
  | _ => none }
def FnExactAbortTxnWrongFalsely : Prop := fnExactAbortTxnRow.holds Tryz.pinned (OpenSpec.ofChange fnExactAbortTxnWrong)

/-- 'laws.FnExactRollTo': WHATEVER THE INPUT: true; the input reads as it did. -/
def fnExactRollToSpec : ChangeSpec := { name := "fnExactRollTo", fn := fun _ => fun
  | [d1, d2, d3] => { results := [.lit (.bool true)], args := [d1, d2, d3] }
  | _ => none }
def fnExactRollToRow : OpenClaim := { program := "ytnlbjfdmjlnlgaagreat", sum := "281f3cab78693a51a17f629f71f65f841b404e0c13974c4d870db435369bcc5d", func := "loop.example/g00216/laws.FnExactRollTo", spec := "fnExactRollTo", inPlace := ["slices.overlaps[loop.example/g00216/impl.Row]"], unfollowed := true, recurses := true, apart := false }
def FnExactRollToSaid : Prop := fnExactRollToRow.holds Tryz.pinned (OpenSpec.ofChange fnExactRollToSpec)

/-- ITS FALSE NEIGHBOUR: 'it returns false'. Refute it at one input. -/
def fnExactRollToWrong : ChangeSpec := { name := "fnExactRollTo", fn := fun _ => fun
  | [d1, d2, d3] => { results := [.lit (.bool false)], args := [d1, d2, d3] }
  | _ => none }
def FnExactRollToWrongFalsely : Prop := fnExactRollToRow.holds Tryz.pinned (OpenSpec.ofChange fnExactRollToWrong)

/-- 'laws.FnExactPurgeEngine': WHATEVER THE INPUT: true; the input reads as it did. -/
def fnExactPurgeEngineSpec : ChangeSpec := { name := "fnExactPurgeEngine", fn := fun _ => fun
  | [d] => { results := [.lit (.bool true)], args := [d] }
  | _ => none }
def fnExactPurgeEngineRow : OpenClaim := { program := "ytnlbjfdmjlnlgaagreat", sum := "281f3cab78693a51a17f629f71f65f841b404e0c13974c4d870db435369bcc5d", func := "loop.example/g00216/laws.FnExactPurgeEngine", spec := "fnExactPurgeEngine", inPlace := ["slices.overlaps[loop.example/g00216/impl.Row]"], unfollowed := true, recurses := true, apart := false }
def FnExactPurgeEngineSaid : Prop := fnExactPurgeEngineRow.holds Tryz.pinned (OpenSpec.ofChange fnExactPurgeEngineSpec)

/-- ITS FALSE NEIGHBOUR: 'it returns false'. Refute it at one input. -/
def fnExactPurgeEngineWrong : ChangeSpec := { name := "fnExactPurgeEngine", fn := fun _ => fun
  | [d] => { results := [.lit (.bool false)], args := [d] }
  | _ => none }
def FnExactPurgeEngineWrongFalsely : Prop := fnExactPurgeEngineRow.holds Tryz.pinned (OpenSpec.ofChange fnExactPurgeEngineWrong)

/-- 'laws.FnExactPutKey': WHATEVER THE INPUT: true; the input reads as it did. -/
def fnExactPutKeySpec : ChangeSpec := { name := "fnExactPutKey", fn := fun _ => fun
  | [d1, d2, d3, d4] => { results := [.lit (.bool true)], args := [d1, d2, d3, d4] }
  | _ => none }
def fnExactPutKeyRow : OpenClaim := { program := "ytnlbjfdmjlnlgaagreat", sum := "281f3cab78693a51a17f629f71f65f841b404e0c13974c4d870db435369bcc5d", func := "loop.example/g00216/laws.FnExactPutKey", spec := "fnExactPutKey", inPlace := ["slices.overlaps[loop.example/g00216/impl.Row]"], unfollowed := true, recurses := true, apart := false }
def FnExactPutKeySaid : Prop := fnExactPutKeyRow.holds Tryz.pinned (OpenSpec.ofChange fnExactPutKeySpec)

/-- ITS FALSE NEIGHBOUR: 'it returns false'. Refute it at one input. -/
def fnExactPutKeyWrong : ChangeSpec := { name := "fnExactPutKey", fn := fun _ => fun
  | [d1, d2, d3, d4] => { results := [.lit (.bool false)], args := [d1, d2, d3, d4] }
  | _ => none }
def FnExactPutKeyWrongFalsely : Prop := fnExactPutKeyRow.holds Tryz.pinned (OpenSpec.ofChange fnExactPutKeyWrong)

/-- 'laws.FnExactDropKey': WHATEVER THE INPUT: true; the input reads as it did. -/
def fnExactDropKeySpec : ChangeSpec := { name := "fnExactDropKey", fn := fun _ => fun
  | [d1, d2, d3] => { results := [.lit (.bool true)], args := [d1, d2, d3] }
  | _ => none }
def fnExactDropKeyRow : OpenClaim := { program := "ytnlbjfdmjlnlgaagreat", sum := "281f3cab78693a51a17f629f71f65f841b404e0c13974c4d870db435369bcc5d", func := "loop.example/g00216/laws.FnExactDropKey", spec := "fnExactDropKey", inPlace := ["slices.overlaps[loop.example/g00216/impl.Row]"], unfollowed := true, recurses := true, apart := false }
def FnExactDropKeySaid : Prop := fnExactDropKeyRow.holds Tryz.pinned (OpenSpec.ofChange fnExactDropKeySpec)

/-- ITS FALSE NEIGHBOUR: 'it returns false'. Refute it at one input. -/
def fnExactDropKeyWrong : ChangeSpec := { name := "fnExactDropKey", fn := fun _ => fun
  | [d1, d2, d3] => { results := [.lit (.bool false)], args := [d1, d2, d3] }
  | _ => none }
def FnExactDropKeyWrongFalsely : Prop := fnExactDropKeyRow.holds Tryz.pinned (OpenSpec.ofChange fnExactDropKeyWrong)

/-- 'laws.FnExactFindByValue': WHATEVER THE INPUT: true; the input reads as it did. -/
def fnExactFindByValueSpec : ChangeSpec := { name := "fnExactFindByValue", fn := fun _ => fun
  | [d1, d2, d3, d4] => { results := [.lit (.bool true)], args := [d1, d2, d3, d4] }
  | _ => none }
def fnExactFindByValueRow : OpenClaim := { program := "ytnlbjfdmjlnlgaagreat", sum := "281f3cab78693a51a17f629f71f65f841b404e0c13974c4d870db435369bcc5d", func := "loop.example/g00216/laws.FnExactFindByValue", spec := "fnExactFindByValue", unfollowed := true, recurses := true, apart := false }
def FnExactFindByValueSaid : Prop := fnExactFindByValueRow.holds Tryz.pinned (OpenSpec.ofChange fnExactFindByValueSpec)

/-- ITS FALSE NEIGHBOUR: 'it returns false'. Refute it at one input. -/
def fnExactFindByValueWrong : ChangeSpec := { name := "fnExactFindByValue", fn := fun _ => fun
  | [d1, d2, d3, d4] => { results := [.lit (.bool false)], args := [d1, d2, d3, d4] }
  | _ => none }
def FnExactFindByValueWrongFalsely : Prop := fnExactFindByValueRow.holds Tryz.pinned (OpenSpec.ofChange fnExactFindByValueWrong)

/-- 'laws.FnExactVacuumIndex': WHATEVER THE INPUT: true; the input reads as it did. -/
def fnExactVacuumIndexSpec : ChangeSpec := { name := "fnExactVacuumIndex", fn := fun _ => fun
  | [d1, d2] => { results := [.lit (.bool true)], args := [d1, d2] }
  | _ => none }
def fnExactVacuumIndexRow : OpenClaim := { program := "ytnlbjfdmjlnlgaagreat", sum := "281f3cab78693a51a17f629f71f65f841b404e0c13974c4d870db435369bcc5d", func := "loop.example/g00216/laws.FnExactVacuumIndex", spec := "fnExactVacuumIndex", unfollowed := true, recurses := true, apart := false }
def FnExactVacuumIndexSaid : Prop := fnExactVacuumIndexRow.holds Tryz.pinned (OpenSpec.ofChange fnExactVacuumIndexSpec)

/-- ITS FALSE NEIGHBOUR: 'it returns false'. Refute it at one input. -/
def fnExactVacuumIndexWrong : ChangeSpec := { name := "fnExactVacuumIndex", fn := fun _ => fun
  | [d1, d2] => { results := [.lit (.bool false)], args := [d1, d2] }
  | _ => none }
def FnExactVacuumIndexWrongFalsely : Prop := fnExactVacuumIndexRow.holds Tryz.pinned (OpenSpec.ofChange fnExactVacuumIndexWrong)

/-- 'laws.FnExactScanByValue': WHATEVER THE INPUT: true; the input reads as it did. -/
def fnExactScanByValueSpec : ChangeSpec := { name := "fnExactScanByValue", fn := fun _ => fun
  | [d1, d2, d3, d4, d5] => { results := [.lit (.bool true)], args := [d1, d2, d3, d4, d5] }
  | _ => none }
def fnExactScanByValueRow : OpenClaim := { program := "ytnlbjfdmjlnlgaagreat", sum := "281f3cab78693a51a17f629f71f65f841b404e0c13974c4d870db435369bcc5d", func := "loop.example/g00216/laws.FnExactScanByValue", spec := "fnExactScanByValue", unfollowed := true, recurses := true, apart := false }
def FnExactScanByValueSaid : Prop := fnExactScanByValueRow.holds Tryz.pinned (OpenSpec.ofChange fnExactScanByValueSpec)

/-- ITS FALSE NEIGHBOUR: 'it returns false'. Refute it at one input. -/
def fnExactScanByValueWrong : ChangeSpec := { name := "fnExactScanByValue", fn := fun _ => fun
  | [d1, d2, d3, d4, d5] => { results := [.lit (.bool false)], args := [d1, d2, d3, d4, d5] }
  | _ => none }
def FnExactScanByValueWrongFalsely : Prop := fnExactScanByValueRow.holds Tryz.pinned (OpenSpec.ofChange fnExactScanByValueWrong)

/-- 'laws.FnEngines': WHATEVER THE INPUT: true; the input reads as it did. -/
def fnEnginesSpec : ChangeSpec := { name := "fnEngines", fn := fun _ => fun
  | [d] => { results := [.lit (.bool true)], args := [d] }
  | _ => none }
def fnEnginesRow : OpenClaim := { program := "ytnlbjfdmjlnlgaagreat", sum := "281f3cab78693a51a17f629f71f65f841b404e0c13974c4d870db435369bcc5d", func := "loop.example/g00216/laws.FnEngines", spec := "fnEngines", inPlace := ["slices.overlaps[loop.example/g00216/impl.Row]"], unfollowed := true, recurses := true, apart := false }
def FnEnginesSaid : Prop := fnEnginesRow.holds Tryz.pinned (OpenSpec.ofChange fnEnginesSpec)

/-- ITS FALSE NEIGHBOUR: 'it returns false'. Refute it at one input. -/
def fnEnginesWrong : ChangeSpec := { name := "fnEngines", fn := fun _ => fun
  | [d] => { results := [.lit (.bool false)], args := [d] }
  | _ => none }
def FnEnginesWrongFalsely : Prop := fnEnginesRow.holds Tryz.pinned (OpenSpec.ofChange fnEnginesWrong)

/- THE SECOND FORM. 'bulk': how many values and letters a reading holds, each counted each time it is reached (what is shared counts as often as it is met; a slice's spare places count too). A statement '..UptoSaid' is the law's where the arguments, and the package variables that the reading takes, are together of bulk at most 1048576: NARROWER than '..Said'. Prove '..Said' where nothing that the law and all that it calls make is longer than what came in: it says more and counts as full. Else prove '..UptoSaid'. A law counts once. -/
mutual
def uptoBulk {H : Type} : DataW H → Nat
  | .lit (.string bytes) => bytes.length + 1
  | .lit _ => 1
  | .nil => 1
  | .ptr d => uptoBulk d + 1
  | .slice elems spare => uptoBulkAll elems + uptoBulkAll spare + 1
  | .agg parts => uptoBulkAll parts + 1
  | .iface _ d => uptoBulk d + 1
  | .map entries => uptoBulkEntries entries + 1
  | .held _ => 1
def uptoBulkAll {H : Type} : List (DataW H) → Nat
  | [] => 0
  | d :: r => uptoBulk d + uptoBulkAll r
def uptoBulkEntries {H : Type} : List (Lit × DataW H) → Nat
  | [] => 0
  | x :: r => uptoBulkEntry x + uptoBulkEntries r
def uptoBulkEntry {H : Type} : Lit × DataW H → Nat
  | (.string bytes, d) => bytes.length + uptoBulk d + 1
  | (_, d) => uptoBulk d + 1
 end
def uptoSmall : (H : Type) → List (DataW H) → Bool := fun _ ds => decide (uptoBulkAll ds ≤ 1048576)
def OpenSpec.upto (s : _root_.Go.ChangeSpec) : _root_.Go.OpenSpec := { _root_.Go.OpenSpec.ofChange s with cond := some uptoSmall }

/-- 'laws.FnExactAbortTxn', WHERE WHAT IT READS IS OF BULK AT MOST 1048576: true; the input reads as it did. -/
def fnExactAbortTxnUptoRow : OpenClaim := { program := "ytnlbjfdmjlnlgaagreat", sum := "281f3cab78693a51a17f629f71f65f841b404e0c13974c4d870db435369bcc5d", func := "loop.example/g00216/laws.FnExactAbortTxn", spec := "fnExactAbortTxn", inPlace := ["slices.overlaps[loop.example/g00216/impl.Row]"], unfollowed := true, recurses := true, apart := false, narrowed := true }
def FnExactAbortTxnUptoSaid : Prop := fnExactAbortTxnUptoRow.holds Tryz.pinned (OpenSpec.upto fnExactAbortTxnSpec)

/-- 'laws.FnExactRollTo', WHERE WHAT IT READS IS OF BULK AT MOST 1048576: true; the input reads as it did. -/
def fnExactRollToUptoRow : OpenClaim := { program := "ytnlbjfdmjlnlgaagreat", sum := "281f3cab78693a51a17f629f71f65f841b404e0c13974c4d870db435369bcc5d", func := "loop.example/g00216/laws.FnExactRollTo", spec := "fnExactRollTo", inPlace := ["slices.overlaps[loop.example/g00216/impl.Row]"], unfollowed := true, recurses := true, apart := false, narrowed := true }
def FnExactRollToUptoSaid : Prop := fnExactRollToUptoRow.holds Tryz.pinned (OpenSpec.upto fnExactRollToSpec)

/-- 'laws.FnExactPurgeEngine', WHERE WHAT IT READS IS OF BULK AT MOST 1048576: true; the input reads as it did. -/
def fnExactPurgeEngineUptoRow : OpenClaim := { program := "ytnlbjfdmjlnlgaagreat", sum := "281f3cab78693a51a17f629f71f65f841b404e0c13974c4d870db435369bcc5d", func := "loop.example/g00216/laws.FnExactPurgeEngine", spec := "fnExactPurgeEngine", inPlace := ["slices.overlaps[loop.example/g00216/impl.Row]"], unfollowed := true, recurses := true, apart := false, narrowed := true }
def FnExactPurgeEngineUptoSaid : Prop := fnExactPurgeEngineUptoRow.holds Tryz.pinned (OpenSpec.upto fnExactPurgeEngineSpec)

/-- 'laws.FnExactPutKey', WHERE WHAT IT READS IS OF BULK AT MOST 1048576: true; the input reads as it did. -/
def fnExactPutKeyUptoRow : OpenClaim := { program := "ytnlbjfdmjlnlgaagreat", sum := "281f3cab78693a51a17f629f71f65f841b404e0c13974c4d870db435369bcc5d", func := "loop.example/g00216/laws.FnExactPutKey", spec := "fnExactPutKey", inPlace := ["slices.overlaps[loop.example/g00216/impl.Row]"], unfollowed := true, recurses := true, apart := false, narrowed := true }
def FnExactPutKeyUptoSaid : Prop := fnExactPutKeyUptoRow.holds Tryz.pinned (OpenSpec.upto fnExactPutKeySpec)

/-- 'laws.FnExactDropKey', WHERE WHAT IT READS IS OF BULK AT MOST 1048576: true; the input reads as it did. -/
def fnExactDropKeyUptoRow : OpenClaim := { program := "ytnlbjfdmjlnlgaagreat", sum := "281f3cab78693a51a17f629f71f65f841b404e0c13974c4d870db435369bcc5d", func := "loop.example/g00216/laws.FnExactDropKey", spec := "fnExactDropKey", inPlace := ["slices.overlaps[loop.example/g00216/impl.Row]"], unfollowed := true, recurses := true, apart := false, narrowed := true }
def FnExactDropKeyUptoSaid : Prop := fnExactDropKeyUptoRow.holds Tryz.pinned (OpenSpec.upto fnExactDropKeySpec)

/-- 'laws.FnExactFindByValue', WHERE WHAT IT READS IS OF BULK AT MOST 1048576: true; the input reads as it did. -/
def fnExactFindByValueUptoRow : OpenClaim := { program := "ytnlbjfdmjlnlgaagreat", sum := "281f3cab78693a51a17f629f71f65f841b404e0c13974c4d870db435369bcc5d", func := "loop.example/g00216/laws.FnExactFindByValue", spec := "fnExactFindByValue", unfollowed := true, recurses := true, apart := false, narrowed := true }
def FnExactFindByValueUptoSaid : Prop := fnExactFindByValueUptoRow.holds Tryz.pinned (OpenSpec.upto fnExactFindByValueSpec)

/-- 'laws.FnExactVacuumIndex', WHERE WHAT IT READS IS OF BULK AT MOST 1048576: true; the input reads as it did. -/
def fnExactVacuumIndexUptoRow : OpenClaim := { program := "ytnlbjfdmjlnlgaagreat", sum := "281f3cab78693a51a17f629f71f65f841b404e0c13974c4d870db435369bcc5d", func := "loop.example/g00216/laws.FnExactVacuumIndex", spec := "fnExactVacuumIndex", unfollowed := true, recurses := true, apart := false, narrowed := true }
def FnExactVacuumIndexUptoSaid : Prop := fnExactVacuumIndexUptoRow.holds Tryz.pinned (OpenSpec.upto fnExactVacuumIndexSpec)

/-- 'laws.FnExactScanByValue', WHERE WHAT IT READS IS OF BULK AT MOST 1048576: true; the input reads as it did. -/
def fnExactScanByValueUptoRow : OpenClaim := { program := "ytnlbjfdmjlnlgaagreat", sum := "281f3cab78693a51a17f629f71f65f841b404e0c13974c4d870db435369bcc5d", func := "loop.example/g00216/laws.FnExactScanByValue", spec := "fnExactScanByValue", unfollowed := true, recurses := true, apart := false, narrowed := true }
def FnExactScanByValueUptoSaid : Prop := fnExactScanByValueUptoRow.holds Tryz.pinned (OpenSpec.upto fnExactScanByValueSpec)

/-- 'laws.FnEngines', WHERE WHAT IT READS IS OF BULK AT MOST 1048576: true; the input reads as it did. -/
def fnEnginesUptoRow : OpenClaim := { program := "ytnlbjfdmjlnlgaagreat", sum := "281f3cab78693a51a17f629f71f65f841b404e0c13974c4d870db435369bcc5d", func := "loop.example/g00216/laws.FnEngines", spec := "fnEngines", inPlace := ["slices.overlaps[loop.example/g00216/impl.Row]"], unfollowed := true, recurses := true, apart := false, narrowed := true }
def FnEnginesUptoSaid : Prop := fnEnginesUptoRow.holds Tryz.pinned (OpenSpec.upto fnEnginesSpec)

end Rows
end Go.Proofs.YtnlbjfdmjlnlgaaGreat
