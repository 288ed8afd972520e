/- FnExactHasCycle: at every row of edges the program's HasCycle answers what the reference's does; no condition. -/
import Derived.Test.YtifpmjnbkodgfaaXFnExactHasCyclez
namespace Go.Proofs.Ytifpmjnbkodgfaa.Pure
open Go.RowKit Go.Proofs.YtifpmjnbkodgfaaW.PrintWords Go.Proofs.YtifpmjnbkodgfaaW.PrintLast Go.Proofs.YtifpmjnbkodgfaaW.PrintMore Go.Proofs.Ytifpmjnbkodgfaa.XFnExactHasCycle
set_option linter.unusedVariables false
set_option linter.unusedSimpArgs false

theorem FnExactHasCycle : laws_FnExactHasCycle.Pure := by
  intro l0 a1 h0 h1
  have hlen : l0.length ≤ 1048576 → (l0.map cv60).length ≤ 1048576 := fun h => by rw [List.length_map]; omega
  have hok : edgesOk (l0.map cv60) = true := by
    unfold edgesOk
    rw [List.all_eq_true]
    intro y hy
    obtain ⟨z, hz, rfl⟩ := List.mem_map.1 hy
    obtain ⟨g0, g1, _⟩ := h0.2 z hz
    rw [show (cv60 z).f0 = z.f0 from rfl, show (cv60 z).f1 = z.f1 from rfl, g0, g1]
    rfl
  refine FnExactHasCycle_of l0 a1 h0 h1 (hasGo (l0.map cv60) (amongB a1) (l0.map cv60) []) (fun hl => has_ev _ _ (hlen hl)) (fun hl => ?_)
  unfold impl_HasCycle.f
  exact Ev.pos ⟨hlen hl, hok⟩ (Ev.now _)

end Go.Proofs.Ytifpmjnbkodgfaa.Pure
