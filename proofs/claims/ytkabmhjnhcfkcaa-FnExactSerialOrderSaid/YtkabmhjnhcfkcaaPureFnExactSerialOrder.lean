/- FnExactSerialOrder: at every history the program's SerialOrder answers what the reference's does, in memory of its own; no condition. -/
import Derived.Test.YtkabmhjnhcfkcaaXFnExactSerialOrderz
namespace Go.Proofs.Ytkabmhjnhcfkcaa.Pure
open Go.RowKit Go.Proofs.YtkabmhjnhcfkcaaW.PrintWords Go.Proofs.YtkabmhjnhcfkcaaW.PrintLast Go.Proofs.YtkabmhjnhcfkcaaW.PrintMore Go.Proofs.Ytkabmhjnhcfkcaa.XFnExactSerialOrder
set_option linter.unusedVariables false
set_option linter.unusedSimpArgs false

theorem FnExactSerialOrder : laws_FnExactSerialOrder.Pure := by
  intro l0 h0
  have hlen : l0.length ≤ 1048576 → (l0.map cv50).length ≤ 1048576 := fun h => by rw [List.length_map]; omega
  refine FnExactSerialOrder_of l0 h0 (if histCode (l0.map cv50) = 0 then (serL (l0.map cv50)).1 else histCode (l0.map cv50)) (if histCode (l0.map cv50) = 0 then (serL (l0.map cv50)).2 else []) (fun hl => ?_) (fun hl => ?_) (fun hl => ?_)
  · unfold spec_SerialOrder.f
    refine Ev.bind (specHist _ (Nat.le_trans (hlen hl) (by omega))) ?_
    by_cases h : histCode (l0.map cv50) = 0
    · simp only [if_pos h]
      have h4 := histCode_len _ h
      have he := edgesL_le (l0.map cv50) 32
      have hc := commL_len (l0.map cv50)
      refine Ev.bind (l11Edges_ev _ h) (Ev.bind (l10Committed_ev _ (hlen hl)) (ser_l0 _ _ (by omega) _ ?_ _ 0 [] (Nat.zero_add _) (Nat.zero_le _) (by rw [List.drop_zero])))
      rw [rises_sort _ (histCode_comm _ h).1]
      exact ser_l1 _ (by omega) _ _ [] (List.length_mergeSort _) (by simp; omega)
    · simp only [if_neg h]; exact Ev.now _
  · unfold impl_SerialOrder.f
    by_cases h : histCode (l0.map cv50) = 0
    · simp only [if_pos h]; exact Ev.now _
    · simp only [if_neg h]; exact Ev.now _
  · split
    · have h1 := serGo_len (edgesL (l0.map cv50) 32) (commL (l0.map cv50)).length ((commL (l0.map cv50)).mergeSort fun x y => decide (x ≤ y)) []
      have h2 := commL_len (l0.map cv50)
      have h3 := hlen hl
      unfold serL
      simp only [List.length_nil] at h1
      omega
    · simp

end Go.Proofs.Ytkabmhjnhcfkcaa.Pure
