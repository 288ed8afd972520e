/- The law FnExactCommittedOf answers true at every input: its plain statement, its plain lemmas and its row; no condition. Written by a program of this session. -/
import Derived.Test.YtifpmjnbkodgfaaXFnExactCommittedOfx6
import Derived.Test.YtifpmjnbkodgfaaXOpen
namespace Go.Proofs.Ytifpmjnbkodgfaa.XFnExactCommittedOf
open Go.RowKit Go.Proofs.YtifpmjnbkodgfaaW.PrintWords Go.Proofs.YtifpmjnbkodgfaaW.PrintLast Go.Proofs.YtifpmjnbkodgfaaW.PrintMore
set_option linter.unusedVariables false
def ok72 (x : S72) : Prop := (Lit.int .i64 (x.f0)).wf = true ∧ (Lit.int .i64 (x.f1)).wf = true ∧ (Lit.int .i64 (x.f2)).wf = true ∧ (Lit.int .i64 (x.f3)).wf = true
theorem opens72 : Opens Try.prog 72 k72 ok72 := Opens.struct (fun p => ⟨p.1, p.2.1, p.2.2.1, p.2.2.2⟩) (fun _ => rfl) Try.underlying72 (by kernel_rfl) (OpensF.cons rfl (by kernel_rfl) (Opens.int Try.underlying2) rfl (OpensF.cons rfl (by kernel_rfl) (Opens.int Try.underlying2) rfl (OpensF.cons rfl (by kernel_rfl) (Opens.int Try.underlying2) rfl (OpensF.one rfl (by kernel_rfl) (Opens.int Try.underlying2)))))
def laws_FnExactCommittedOf.Pure : Prop := ∀ (l0 : List (S72)), (l0.length ≤ maxLen ∧ ∀ y ∈ l0, ok72 y) → ∃ k, laws_FnExactCommittedOf.f k l0 = some true
end Go.Proofs.Ytifpmjnbkodgfaa.XFnExactCommittedOf
