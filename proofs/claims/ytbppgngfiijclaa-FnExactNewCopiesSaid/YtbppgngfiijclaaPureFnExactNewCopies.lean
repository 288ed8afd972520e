/- FnExactNewCopies: at every row of cells the program's NewCopies answers what the reference's does; no condition. -/
import Derived.Test.YtbppgngfiijclaaXFnExactNewCopiesz
namespace Go.Proofs.Ytbppgngfiijclaa.Pure
open Go.RowKit Go.Proofs.YtbppgngfiijclaaW.PrintWords Go.Proofs.YtbppgngfiijclaaW.PrintLast Go.Proofs.YtbppgngfiijclaaW.PrintMore Go.Proofs.Ytbppgngfiijclaa.XFnExactNewCopies
set_option linter.unusedVariables false
set_option linter.unusedSimpArgs false

theorem FnExactNewCopies : laws_FnExactNewCopies.Pure := by
  intro l0 h0
  have hl : ∀ (h : l0.length ≤ 1048576), (l0.map cv120).length ≤ 1048576 := fun h => by rw [List.length_map]; exact h
  by_cases hz : engC (l0.map cv120) = 0
  · refine FnExactNewCopies_of l0 h0 0 0 [] 2 (if (l0.map cv120).length = 0 then 0 else 1) (l0.map cv120) (lastL (l0.map cv120)) (fun h => ?_) (fun h => ?_) (fun h => ?_) (fun h => ?_) (fun h => ?_)
    · obtain ⟨e2, e3, e4, e5, e6, he⟩ := specEng_ev _ (hl h)
      rw [hz] at he
      unfold spec_NewCopies.f
      refine Ev.bind he (Ev.pos rfl (Ev.bind (Ev.now _) ?_))
      have hlim : ([] : List S118).length + (l0.map cv120).length < 8796093022208 := by have := hl h; simp only [List.length_nil]; omega
      refine Ev.pos hlim ?_
      have hg := specCopies_l0 (l0.map cv120) (hl h) (engC_keys _ hz) 2 ([] ++ l0.map cv120) (l0.map cv120).length 0 (List.replicate 32 0) (by omega) (by rw [List.length_replicate])
      rw [List.drop_zero] at hg
      exact hg
    · obtain ⟨e2, e3, e4, e5, e6, he⟩ := implEng_ev _ (hl h)
      rw [hz] at he
      unfold impl_NewCopies.f
      exact Ev.bind he (Ev.pos rfl (Ev.pos ⟨hl h, engC_keys _ hz⟩ (Ev.now _)))
    · simp
    · have := hl h; omega
    · have hlast : ∀ (l : List S118) (a : List Int), (l.foldl (fun a c => a.set c.f0.toNat 1) a).length = a.length := by
        intro l
        induction l with
        | nil => intro a; rfl
        | cons x l ih => intro a; rw [List.foldl_cons, ih, List.length_set]
      unfold lastL
      rw [hlast, List.length_replicate]
      omega
  · refine FnExactNewCopies_of l0 h0 (engC (l0.map cv120)) 0 [] 0 0 [] [] (fun h => ?_) (fun h => ?_) (fun h => by simp) (fun h => by simp) (fun h => by simp)
    · obtain ⟨e2, e3, e4, e5, e6, he⟩ := specEng_ev _ (hl h)
      unfold spec_NewCopies.f
      exact Ev.bind he (Ev.neg hz (Ev.bind (Ev.eq rfl) (Ev.now _)))
    · obtain ⟨e2, e3, e4, e5, e6, he⟩ := implEng_ev _ (hl h)
      unfold impl_NewCopies.f
      exact Ev.bind he (Ev.neg hz (Ev.now _))

end Go.Proofs.Ytbppgngfiijclaa.Pure
