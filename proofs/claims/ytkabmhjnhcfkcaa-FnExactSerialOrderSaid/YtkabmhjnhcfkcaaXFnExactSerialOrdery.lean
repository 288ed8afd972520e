/- The law FnExactSerialOrder answers true at every input: its plain statement, its plain lemmas and its row; no condition. Written by a program of this session. -/
import Derived.Test.YtkabmhjnhcfkcaaXFnExactSerialOrderx14
import Derived.Test.YtkabmhjnhcfkcaaVXOpen
namespace Go.Proofs.Ytkabmhjnhcfkcaa.XFnExactSerialOrder
open Go.RowKit Go.Proofs.YtkabmhjnhcfkcaaW.PrintWords Go.Proofs.YtkabmhjnhcfkcaaW.PrintLast Go.Proofs.YtkabmhjnhcfkcaaW.PrintMore
set_option linter.unusedVariables false
def ok50 (x : S50) : Prop := (Lit.int .i64 (x.f0)).wf = true ∧ (Lit.int .i64 (x.f1)).wf = true ∧ (Lit.int .i64 (x.f2)).wf = true ∧ (Lit.int .i64 (x.f3)).wf = true
theorem opens50 : Opens Try.prog 50 k50 ok50 := Opens.struct (fun p => ⟨p.1, p.2.1, p.2.2.1, p.2.2.2⟩) (fun _ => rfl) Try.underlying50 (by kernel_rfl) (OpensF.cons rfl (by kernel_rfl) (Opens.int Try.underlying2) rfl (OpensF.cons rfl (by kernel_rfl) (Opens.int Try.underlying2) rfl (OpensF.cons rfl (by kernel_rfl) (Opens.int Try.underlying2) rfl (OpensF.one rfl (by kernel_rfl) (Opens.int Try.underlying2)))))
def laws_FnExactSerialOrder.Pure : Prop := ∀ (l0 : List (S50)), (l0.length ≤ maxLen ∧ ∀ y ∈ l0, ok50 y) → ∃ k, laws_FnExactSerialOrder.f k l0 = some true
end Go.Proofs.Ytkabmhjnhcfkcaa.XFnExactSerialOrder
