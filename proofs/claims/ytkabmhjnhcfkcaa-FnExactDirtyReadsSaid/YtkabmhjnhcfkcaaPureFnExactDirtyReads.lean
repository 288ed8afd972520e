/- FnExactDirtyReads: at every history the program's DirtyReads answers what the reference's does, in memory of its own; no condition. -/
import Derived.Test.YtkabmhjnhcfkcaaXFnExactDirtyReadsz
namespace Go.Proofs.Ytkabmhjnhcfkcaa.Pure
open Go.RowKit Go.Proofs.YtkabmhjnhcfkcaaW.PrintWords Go.Proofs.YtkabmhjnhcfkcaaW.PrintLast Go.Proofs.YtkabmhjnhcfkcaaW.PrintMore Go.Proofs.Ytkabmhjnhcfkcaa.XFnExactDirtyReads
set_option linter.unusedVariables false
set_option linter.unusedSimpArgs false

theorem FnExactDirtyReads : laws_FnExactDirtyReads.Pure := by
  intro l0 h0
  have hlen : l0.length ≤ 1048576 → (l0.map cv50).length ≤ 1048576 := fun h => by rw [List.length_map]; omega
  refine FnExactDirtyReads_of l0 h0 (if histCode (l0.map cv50) = 0 then 0 else histCode (l0.map cv50)) (if histCode (l0.map cv50) = 0 then Lib.compact ((dirtyL (l0.map cv50) (l0.map cv50).length).mergeSort fun x y => decide (x ≤ y)) else []) (fun hl => ?_) (fun hl => ?_) (fun hl => ?_)
  · unfold spec_DirtyReads.f
    refine Ev.bind (specHist _ (Nat.le_trans (hlen hl) (by omega))) ?_
    by_cases h : histCode (l0.map cv50) = 0
    · simp only [if_pos h]
      refine Ev.bind (l10Committed_ev _ (hlen hl)) (Ev.val (dirty_l0 _ (histCode_len _ h) _ 0 (Nat.zero_add _)) ?_)
      rw [rises_eq]
    · simp only [if_neg h]; exact Ev.now _
  · unfold impl_DirtyReads.f
    by_cases h : histCode (l0.map cv50) = 0
    · simp only [if_pos h]; exact Ev.now _
    · simp only [if_neg h]; exact Ev.now _
  · split
    · rw [← rises_eq]
      have h1 := rises_len (dirtyL (l0.map cv50) (l0.map cv50).length) []
      have h2 := dirtyL_le (l0.map cv50) (l0.map cv50).length
      have h3 := hlen hl
      simp only [List.length_nil] at h1
      omega
    · simp

end Go.Proofs.Ytkabmhjnhcfkcaa.Pure
