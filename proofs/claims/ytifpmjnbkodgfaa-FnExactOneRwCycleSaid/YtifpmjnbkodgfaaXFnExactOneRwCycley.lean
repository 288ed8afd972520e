/- The law FnExactOneRwCycle answers true at every input: its plain statement, its plain lemmas and its row; no condition. Written by a program of this session. -/
import Derived.Test.YtifpmjnbkodgfaaXFnExactOneRwCyclex4
import Derived.Test.YtifpmjnbkodgfaaXOpen
namespace Go.Proofs.Ytifpmjnbkodgfaa.XFnExactOneRwCycle
open Go.RowKit Go.Proofs.YtifpmjnbkodgfaaW.PrintWords Go.Proofs.YtifpmjnbkodgfaaW.PrintLast Go.Proofs.YtifpmjnbkodgfaaW.PrintMore
set_option linter.unusedVariables false
def ok60 (x : S60) : Prop := (Lit.int .i64 (x.f0)).wf = true ∧ (Lit.int .i64 (x.f1)).wf = true ∧ (Lit.int .i64 (x.f2)).wf = true
theorem opens60 : Opens Try.prog 60 k60 ok60 := Opens.struct (fun p => ⟨p.1, p.2.1, p.2.2⟩) (fun _ => rfl) Try.underlying60 (by kernel_rfl) (OpensF.cons rfl (by kernel_rfl) (Opens.int Try.underlying2) rfl (OpensF.cons rfl (by kernel_rfl) (Opens.int Try.underlying2) rfl (OpensF.one rfl (by kernel_rfl) (Opens.int Try.underlying2))))
def laws_FnExactOneRwCycle.Pure : Prop := ∀ (l0 : List (S60)), (l0.length ≤ maxLen ∧ ∀ y ∈ l0, ok60 y) → ∃ k, laws_FnExactOneRwCycle.f k l0 = some true
end Go.Proofs.Ytifpmjnbkodgfaa.XFnExactOneRwCycle
