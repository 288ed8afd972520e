/- FnExactLostUpdates: at every history the program's LostUpdates answers what the reference's does, in memory of its own; no condition. -/
import Derived.Test.YtkabmhjnhcfkcaaXFnExactLostUpdatesz
namespace Go.Proofs.Ytkabmhjnhcfkcaa.Pure
open Go.RowKit Go.Proofs.YtkabmhjnhcfkcaaW.PrintWords Go.Proofs.YtkabmhjnhcfkcaaW.PrintLast Go.Proofs.YtkabmhjnhcfkcaaW.PrintMore Go.Proofs.Ytkabmhjnhcfkcaa.XFnExactLostUpdates
set_option linter.unusedVariables false
set_option linter.unusedSimpArgs false

theorem FnExactLostUpdates : laws_FnExactLostUpdates.Pure := by
  intro l0 h0
  have hlen : l0.length ≤ 1048576 → (l0.map cv50).length ≤ 1048576 := fun h => by rw [List.length_map]; omega
  refine FnExactLostUpdates_of l0 h0 (if histCode (l0.map cv50) = 0 then 0 else histCode (l0.map cv50)) (if histCode (l0.map cv50) = 0 then lostL (l0.map cv50) 32 else []) (fun hl => ?_) (fun hl => ?_) (fun hl => ?_)
  · unfold spec_LostUpdates.f
    refine Ev.bind (specHist _ (Nat.le_trans (hlen hl) (by omega))) ?_
    by_cases h : histCode (l0.map cv50) = 0
    · simp only [if_pos h]; exact lost_l0 _ (hlen hl) 0 32 0 (by omega)
    · simp only [if_neg h]; exact Ev.now _
  · unfold impl_LostUpdates.f
    by_cases h : histCode (l0.map cv50) = 0
    · simp only [if_pos h]; exact Ev.now _
    · simp only [if_neg h]; exact Ev.now _
  · split
    · have := lostL_len (l0.map cv50) 32; omega
    · simp

end Go.Proofs.Ytkabmhjnhcfkcaa.Pure
