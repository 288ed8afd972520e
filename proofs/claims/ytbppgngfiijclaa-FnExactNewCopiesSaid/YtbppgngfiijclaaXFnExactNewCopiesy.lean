/- The law FnExactNewCopies answers true at every input: its plain statement, its plain lemmas and its row; no condition. Written by a program of this session. -/
import Derived.Test.YtbppgngfiijclaaXFnExactNewCopiesx11
import Derived.Test.YtbppgngfiijclaaVXOpen
namespace Go.Proofs.Ytbppgngfiijclaa.XFnExactNewCopies
open Go.RowKit Go.Proofs.YtbppgngfiijclaaW.PrintWords Go.Proofs.YtbppgngfiijclaaW.PrintLast Go.Proofs.YtbppgngfiijclaaW.PrintMore
set_option linter.unusedVariables false
def ok120 (x : S120) : Prop := (Lit.int .i64 (x.f0)).wf = true ∧ (Lit.int .i64 (x.f1)).wf = true
theorem opens120 : Opens Try.prog 120 k120 ok120 := Opens.struct (fun p => ⟨p.1, p.2⟩) (fun _ => rfl) Try.underlying120 (by kernel_rfl) (OpensF.cons rfl (by kernel_rfl) (Opens.int Try.underlying2) rfl (OpensF.one rfl (by kernel_rfl) (Opens.int Try.underlying2)))
def laws_FnExactNewCopies.Pure : Prop := ∀ (l0 : List (S120)), (l0.length ≤ maxLen ∧ ∀ y ∈ l0, ok120 y) → ∃ k, laws_FnExactNewCopies.f k l0 = some true
end Go.Proofs.Ytbppgngfiijclaa.XFnExactNewCopies
