/- FnExactHistoryFault: at every history the program's HistoryFault answers what the reference's does; no condition. -/
import Derived.Test.YtifpmjnbkodgfaaXFnExactHistoryFaultz
namespace Go.Proofs.Ytifpmjnbkodgfaa.Pure
open Go.RowKit Go.Proofs.YtifpmjnbkodgfaaW.PrintWords Go.Proofs.YtifpmjnbkodgfaaW.PrintLast Go.Proofs.YtifpmjnbkodgfaaW.PrintMore Go.Proofs.Ytifpmjnbkodgfaa.XFnExactHistoryFault
set_option linter.unusedVariables false
set_option linter.unusedSimpArgs false

theorem FnExactHistoryFault : laws_FnExactHistoryFault.Pure := by
  intro l0 ⟨hm, hok⟩
  obtain ⟨r, hsz, _, hbd⟩ := laws_szHopS.ev l0 1048576 (by omega) (by omega) hm
  refine Ev.rounds ?_
  unfold laws_FnExactHistoryFault.f
  refine Ev.bind (Ev.eq hsz) ?_
  by_cases hr : r < 0
  · exact Ev.pos hr (Ev.now _)
  · have hl := hbd (by omega)
    have hto := laws_toHopS.ev l0 hl
    have hl2 : (l0.map cv72).length ≤ 9223372036854775807 := by rw [List.length_map]; omega
    exact Ev.neg hr (Ev.bind hto (Ev.bind (specHist _ hl2) (Ev.bind hto (Ev.bind (Ev.eq (implHist _)) (Ev.pos rfl (Ev.bind hto (Ev.bind (laws_eqHopS.ev _ hl2) (Ev.pos rfl (Ev.now _)))))))))

end Go.Proofs.Ytifpmjnbkodgfaa.Pure
