/- FnExactSameReplies: at every two rows of replies the program's SameReplies answers what the reference's does; no condition. -/
import Derived.Test.YtifpmjnbkodgfaaXFnExactSameRepliesz
namespace Go.Proofs.Ytifpmjnbkodgfaa.Pure
open Go.RowKit Go.Proofs.YtifpmjnbkodgfaaW.PrintWords Go.Proofs.YtifpmjnbkodgfaaW.PrintLast Go.Proofs.YtifpmjnbkodgfaaW.PrintMore Go.Proofs.Ytifpmjnbkodgfaa.XFnExactSameReplies
set_option linter.unusedVariables false
set_option linter.unusedSimpArgs false

theorem FnExactSameReplies : laws_FnExactSameReplies.Pure := by
  intro l0 l1 h0 h1
  refine FnExactSameReplies_of l0 l1 h0 h1 (eqfB replyB (l0.map cv78) (l1.map cv78)) (fun hl => ?_) (fun hl => ?_)
  · refine replies_ev _ _ (by rw [List.length_map]; exact hl.1.1) (fun y hy => ?_)
    obtain ⟨z, hz, rfl⟩ := List.mem_map.1 hy
    exact bd_cv78 z (hl.1.2 z hz)
  · unfold impl_SameReplies.f
    exact Ev.now _

end Go.Proofs.Ytifpmjnbkodgfaa.Pure
