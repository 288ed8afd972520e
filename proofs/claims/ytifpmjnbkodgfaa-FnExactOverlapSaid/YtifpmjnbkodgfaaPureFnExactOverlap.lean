/- FnExactOverlap: at every history and every two numbers the program's Overlap answers what the reference's does; no condition. -/
import Derived.Test.YtifpmjnbkodgfaaXFnExactOverlapz
namespace Go.Proofs.Ytifpmjnbkodgfaa.Pure
open Go.RowKit Go.Proofs.YtifpmjnbkodgfaaW.PrintWords Go.Proofs.YtifpmjnbkodgfaaW.PrintLast Go.Proofs.YtifpmjnbkodgfaaW.PrintMore Go.Proofs.Ytifpmjnbkodgfaa.XFnExactOverlap
set_option linter.unusedVariables false
set_option linter.unusedSimpArgs false

theorem FnExactOverlap : laws_FnExactOverlap.Pure := by
  intro l0 a1 a2 h0 h1 h2
  have hlen : l0.length ≤ 1048576 → (l0.map cv72).length ≤ 9223372036854775807 := fun h => by rw [List.length_map]; omega
  refine FnExactOverlap_of l0 a1 a2 h0 h1 h2 (if histCode (l0.map cv72) = 0 then ovB (l0.map cv72) a1 a2 else false) (fun hl => ?_) (fun hl => ?_)
  · unfold spec_Overlap.f
    refine Ev.bind (specHist _ (hlen hl)) ?_
    by_cases h : histCode (l0.map cv72) = 0
    · rw [if_pos h]; exact Ev.pos h (Ev.bind (l10Overlap_ev _ _ _ (hlen hl)) (Ev.now _))
    · rw [if_neg h]; exact Ev.neg h (Ev.now _)
  · unfold impl_Overlap.f
    refine Ev.bind (Ev.eq (implHist _)) ?_
    by_cases h : histCode (l0.map cv72) = 0
    · simp only [if_pos h]; exact Ev.bind (Ev.eq (overlap_eq _ _ _)) (Ev.now _)
    · simp only [if_neg h]; exact Ev.now _

end Go.Proofs.Ytifpmjnbkodgfaa.Pure
