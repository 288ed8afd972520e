/- The law FnExactSameReplies answers true at every input: its plain statement, its plain lemmas and its row; no condition. Written by a program of this session. -/
import Derived.Test.YtifpmjnbkodgfaaXFnExactSameRepliesx6
import Derived.Test.YtifpmjnbkodgfaaXOpen
namespace Go.Proofs.Ytifpmjnbkodgfaa.XFnExactSameReplies
open Go.RowKit Go.Proofs.YtifpmjnbkodgfaaW.PrintWords Go.Proofs.YtifpmjnbkodgfaaW.PrintLast Go.Proofs.YtifpmjnbkodgfaaW.PrintMore
set_option linter.unusedVariables false
def ok103 (x : S103) : Prop := (Lit.int .i64 (x.f0)).wf = true ∧ (Lit.int .i64 (x.f1)).wf = true
theorem opens103 : Opens Try.prog 103 k103 ok103 := Opens.struct (fun p => ⟨p.1, p.2⟩) (fun _ => rfl) Try.underlying103 (by kernel_rfl) (OpensF.cons rfl (by kernel_rfl) (Opens.int Try.underlying2) rfl (OpensF.one rfl (by kernel_rfl) (Opens.int Try.underlying2)))
def ok78 (x : S78) : Prop := (Lit.int .i64 (x.f0)).wf = true ∧ (Lit.int .i64 (x.f1)).wf = true ∧ ((x.f2).length ≤ maxLen ∧ ∀ y ∈ (x.f2), ok103 y)
theorem opens78 : Opens Try.prog 78 k78 ok78 := Opens.struct (fun p => ⟨p.1, p.2.1, p.2.2⟩) (fun _ => rfl) Try.underlying78 (by kernel_rfl) (OpensF.cons rfl (by kernel_rfl) (Opens.int Try.underlying2) rfl (OpensF.cons rfl (by kernel_rfl) (Opens.int Try.underlying2) rfl (OpensF.one rfl (by kernel_rfl) (Opens.slice Try.underlying76 (by kernel_rfl) opens103))))
def laws_FnExactSameReplies.Pure : Prop := ∀ (l0 : List (S78)) (l1 : List (S78)), (l0.length ≤ maxLen ∧ ∀ y ∈ l0, ok78 y) → (l1.length ≤ maxLen ∧ ∀ y ∈ l1, ok78 y) → ∃ k, laws_FnExactSameReplies.f k l0 l1 = some true
end Go.Proofs.Ytifpmjnbkodgfaa.XFnExactSameReplies
