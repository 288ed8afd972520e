/- FnExactWritersOf: at every history and key the program's WritersOf answers what the reference's does, in memory of its own; no condition. -/
import Derived.Test.YtifpmjnbkodgfaaXFnExactWritersOfz
namespace Go.Proofs.Ytifpmjnbkodgfaa.Pure
open Go.RowKit Go.Proofs.YtifpmjnbkodgfaaW.PrintWords Go.Proofs.YtifpmjnbkodgfaaW.PrintLast Go.Proofs.YtifpmjnbkodgfaaW.PrintMore Go.Proofs.Ytifpmjnbkodgfaa.XFnExactWritersOf
set_option linter.unusedVariables false
set_option linter.unusedSimpArgs false

theorem FnExactWritersOf : laws_FnExactWritersOf.Pure := by
  intro l0 a1 h0 h1
  have hlen : l0.length ≤ 1048576 → (l0.map cv72).length ≤ 1048576 := fun h => by rw [List.length_map]; omega
  refine FnExactWritersOf_of l0 a1 h0 h1 (if histCode (l0.map cv72) = 0 then (if withinB a1 0 31 = true then 0 else 3) else histCode (l0.map cv72)) (if histCode (l0.map cv72) = 0 then (if withinB a1 0 31 = true then writersL (l0.map cv72) a1 else []) else []) (fun hl => ?_) (fun hl => ?_) (fun hl => ?_)
  · unfold spec_WritersOf.f
    refine Ev.bind (specHist _ (Nat.le_trans (hlen hl) (by omega))) ?_
    by_cases h : histCode (l0.map cv72) = 0
    · rw [if_pos h, if_pos h]; refine Ev.pos h (Ev.bind (Ev.eq (l1Key_eq _)) ?_)
      by_cases hk : withinB a1 0 31 = true
      · rw [if_pos hk, if_pos hk]; exact Ev.pos hk (Ev.bind (l10Writers_ev _ _ (hlen hl)) (Ev.now _))
      · rw [if_neg hk, if_neg hk]; exact Ev.neg hk (Ev.now _)
    · rw [if_neg h, if_neg h]; exact Ev.neg h (Ev.now _)
  · unfold impl_WritersOf.f
    refine Ev.bind (Ev.eq (implHist _)) ?_
    by_cases h : histCode (l0.map cv72) = 0
    · rw [if_pos h, if_pos h]
      refine Ev.pos h (Ev.bind (Ev.eq (r := withinB a1 0 31) rfl) ?_)
      refine Ev.step (fun k => by rw [impl_WritersOf.j0]) ?_
      by_cases hk : withinB a1 0 31 = true
      · rw [if_pos hk, if_pos hk]
        exact Ev.neg (by simp [hk]) (Ev.pos h (Ev.bind (Ev.eq (writers_eq _ _ (hlen hl))) (Ev.now _)))
      · rw [if_neg hk, if_neg hk]
        exact Ev.pos (by simpa using hk) (Ev.now _)
    · rw [if_neg h, if_neg h]
      refine Ev.neg h ?_
      refine Ev.step (fun k => by rw [impl_WritersOf.j0]) ?_
      exact Ev.neg (by simp) (Ev.neg h (Ev.now _))
  · have := writersL_len (l0.map cv72) a1
    have := hlen hl
    split
    · split
      · omega
      · simp
    · simp

end Go.Proofs.Ytifpmjnbkodgfaa.Pure
