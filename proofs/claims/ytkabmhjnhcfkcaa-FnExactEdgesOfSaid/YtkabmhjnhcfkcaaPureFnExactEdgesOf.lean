/- FnExactEdgesOf: at every history the program's EdgesOf answers what the reference's does, in memory of its own; no condition. -/
import Derived.Test.YtkabmhjnhcfkcaaXFnExactEdgesOfz
namespace Go.Proofs.Ytkabmhjnhcfkcaa.Pure
open Go.RowKit Go.Proofs.YtkabmhjnhcfkcaaW.PrintWords Go.Proofs.YtkabmhjnhcfkcaaW.PrintLast Go.Proofs.YtkabmhjnhcfkcaaW.PrintMore Go.Proofs.Ytkabmhjnhcfkcaa.XFnExactEdgesOf
set_option linter.unusedVariables false
set_option linter.unusedSimpArgs false

theorem FnExactEdgesOf : laws_FnExactEdgesOf.Pure := by
  intro l0 h0
  have hlen : l0.length ≤ 1048576 → (l0.map cv50).length ≤ 1048576 := fun h => by rw [List.length_map]; omega
  refine FnExactEdgesOf_of l0 h0 (histCode (l0.map cv50)) (if histCode (l0.map cv50) = 0 then edgesL (l0.map cv50) 32 else []) (fun hl => ?_) (fun hl => ?_) (fun hl => ?_)
  · unfold spec_EdgesOf.f
    refine Ev.bind (specHist _ (Nat.le_trans (hlen hl) (by omega))) ?_
    by_cases h : histCode (l0.map cv50) = 0
    · rw [if_pos h]; exact Ev.pos h (Ev.bind (l11Edges_ev _ h) (Ev.val (Ev.now _) (by rw [h])))
    · rw [if_neg h]; exact Ev.neg h (Ev.now _)
  · unfold impl_EdgesOf.f
    refine Ev.bind (Ev.eq (implHist _)) ?_
    by_cases h : histCode (l0.map cv50) = 0
    · simp only [if_pos h]; exact Ev.bind (Ev.eq (if_pos (histCode_len _ h))) (Ev.val (Ev.now _) (by rw [h]))
    · simp only [if_neg h]; exact Ev.now _
  · split
    · rename_i h; have := edgesL_le (l0.map cv50) 32; have := histCode_len _ h; omega
    · simp

end Go.Proofs.Ytkabmhjnhcfkcaa.Pure
