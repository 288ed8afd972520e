/- FnExactCommittedOf: at every history the program's CommittedOf answers what the reference's does, in memory of its own; no condition. -/
import Derived.Test.YtifpmjnbkodgfaaXFnExactCommittedOfz
namespace Go.Proofs.Ytifpmjnbkodgfaa.Pure
open Go.RowKit Go.Proofs.YtifpmjnbkodgfaaW.PrintWords Go.Proofs.YtifpmjnbkodgfaaW.PrintLast Go.Proofs.YtifpmjnbkodgfaaW.PrintMore Go.Proofs.Ytifpmjnbkodgfaa.XFnExactCommittedOf
set_option linter.unusedVariables false
set_option linter.unusedSimpArgs false

theorem FnExactCommittedOf : laws_FnExactCommittedOf.Pure := by
  intro l0 h0
  have hlen : l0.length ≤ 1048576 → (l0.map cv72).length ≤ 1048576 := fun h => by rw [List.length_map]; omega
  refine FnExactCommittedOf_of l0 h0 (histCode (l0.map cv72)) (if histCode (l0.map cv72) = 0 then commL (l0.map cv72) else []) (fun hl => ?_) (fun hl => ?_) (fun hl => ?_)
  · unfold spec_CommittedOf.f
    refine Ev.bind (specHist _ (Nat.le_trans (hlen hl) (by omega))) ?_
    by_cases h : histCode (l0.map cv72) = 0
    · rw [if_pos h]; exact Ev.pos h (Ev.bind (l10Committed_ev _ (hlen hl)) (Ev.val (Ev.now _) (by rw [h])))
    · rw [if_neg h]; exact Ev.neg h (Ev.now _)
  · unfold impl_CommittedOf.f
    refine Ev.bind (Ev.eq (implHist _)) ?_
    by_cases h : histCode (l0.map cv72) = 0
    · rw [if_pos h]; exact Ev.pos h (Ev.bind (impl_committed.ev _ (hlen hl)) (Ev.val (Ev.now _) (by rw [h])))
    · rw [if_neg h]; exact Ev.neg h (Ev.now _)
  · split
    · have := commL_len (l0.map cv72); have := hlen hl; omega
    · simp

end Go.Proofs.Ytifpmjnbkodgfaa.Pure
