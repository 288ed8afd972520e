/- FnExactStartOrdered: at every history the program's StartOrdered answers what the reference's does; no condition. -/
import Derived.Test.YtkabmhjnhcfkcaaXFnExactStartOrderedz
namespace Go.Proofs.Ytkabmhjnhcfkcaa.Pure
open Go.RowKit Go.Proofs.YtkabmhjnhcfkcaaW.PrintWords Go.Proofs.YtkabmhjnhcfkcaaW.PrintLast Go.Proofs.YtkabmhjnhcfkcaaW.PrintMore Go.Proofs.Ytkabmhjnhcfkcaa.XFnExactStartOrdered
set_option linter.unusedVariables false
set_option linter.unusedSimpArgs false

theorem FnExactStartOrdered : laws_FnExactStartOrdered.Pure := by
  intro l0 h0
  have hlen : l0.length ≤ 1048576 → (l0.map cv50).length ≤ 1048576 := fun h => by rw [List.length_map]; omega
  refine FnExactStartOrdered_of l0 h0 (if histCode (l0.map cv50) = 0 then !((edgesL (l0.map cv50) 32).any (startB (l0.map cv50))) else false) (fun hl => ?_) (fun hl => ?_)
  · unfold spec_StartOrdered.f
    refine Ev.bind (specHist _ (Nat.le_trans (hlen hl) (by omega))) ?_
    by_cases h : histCode (l0.map cv50) = 0
    · simp only [if_pos h]
      have h1 := edgesL_le (l0.map cv50) 32
      have h2 := histCode_len _ h
      have h3 := started_l0 _ (hlen hl) (edgesL (l0.map cv50) 32) (by omega) _ 0 (Nat.zero_add _)
      rw [List.drop_zero] at h3
      exact Ev.bind (l11Edges_ev _ h) h3
    · simp only [if_neg h]; exact Ev.now _
  · exact Ev.now _

end Go.Proofs.Ytkabmhjnhcfkcaa.Pure
