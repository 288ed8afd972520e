/- Part 4 of the proof that the law FnExactDropKey answers true at every input: memory as trees, the program walked over them, and what it computes; no condition. -/
import Derived.Test.YtnlbjfdmjlnlgaaGreatU3
namespace Go.Proofs.YtnlbjfdmjlnlgaaGreat
open Go Go.Px Go.RowKit Go.Proofs
set_option linter.unnecessarySimpa false
set_option linter.unusedVariables false
set_option linter.unusedSimpArgs false
set_option maxRecDepth 100000
set_option maxHeartbeats 1000000
attribute [-simp] Int.not_le Int.not_lt
def eRow (x : DEngine) (r1 : Nm) (q1 : Path) (r2 : Nm) (q2 : Path) : List Cell := [.v (.int .i64 x.next), .v (.int .i64 x.clock), .sl r1 q1 5 0 x.txns.length, .sl r2 q2 2 0 x.rows.length]
set_option maxHeartbeats 16000000 in
theorem spec_l6Txns (H : HH) {r0 q0 r1 q1 r2 q2} {x : DEngine} (hnx : 1 ≤ x.next ∧ x.next ≤ 999) (hl : x.le 1048576) (a0 : arrAt H r0 q0 = some (4, [eRow x r1 q1 r2 q2])) (a1 : arrAt H r1 q1 = some (5, x.txns.map DTxn.enc)) :
    PFun Tryz.prog 136 [.c (.pt r0 q0 4 0 0)] H (I (txsF x.next x.clock none x.txns)) := by
  obtain ⟨⟨b1, b1p⟩, b2, b2p⟩ := hl
  have wn : IntKind.i64.wrap (x.next - 1) = x.next - 1 := w64 (by omega) (by omega)
  obtain ⟨R, hR⟩ : ∃ R, R = txsF x.next x.clock none x.txns := ⟨_, rfl⟩
  rw [← hR]
  refine PFun.of [0, 2, 3, 4, 5, 12, 63, 121, 125] Tryz.func136 rfl (by simp [Tryz.f136]) ?_
  intro d hd0 hfr hcl hout
  have hcd : ∀ n q, CleanH (hit [((d, n), q)]) H := fun n q => hcl.at
  have a0_n : ∀ n, ¬ (d, n) = r0 := fun n => nm_ne (ne_of_arr hfr a0)
  have a0_d : ¬ r0.1 = d := ne_of_arr hfr a0
  have a0_m : ∀ n, ¬ r0 = (d, n) := fun n => nm_ne' (ne_of_arr hfr a0)
  have a1_n : ∀ n, ¬ (d, n) = r1 := fun n => nm_ne (ne_of_arr hfr a1)
  have a1_d : ¬ r1.1 = d := ne_of_arr hfr a1
  have a1_m : ∀ n, ¬ r1 = (d, n) := fun n => nm_ne' (ne_of_arr hfr a1)
  simp (maxSteps := 4000000) [hd0, hfr, hout, hcl, hcd, delA_none, a0, a0_n, a0_d, a0_m, a1, a1_n, a1_d, a1_m, Tryz.f136]
  refine LoopK.intro (fun m s => ∃ i : Nat, i + m = x.txns.length ∧ txsF x.next x.clock (prv DTxn.id_ x.txns i) (x.txns.drop i) = R ∧ s = ⟨[(0, .c (.pt r0 q0 4 0 0)), (3, I i)], H, []⟩) (x.txns.length + 1)
    (LK.intro x.txns.length [0, 3] [] (by omega) (by decide) (by simp (maxSteps := 4000000) [hd0, hfr, hout, hcl, hcd, delA_none, a0, a0_n, a0_d, a0_m, a1, a1_n, a1_d, a1_m]) ⟨0, by simp [prv, hR]⟩) ?_
  rintro m s ⟨i, him, hinv, rfl⟩
  by_cases hi' : i < x.txns.length
  case neg =>
    rw [List.drop_eq_nil_of_le (by omega)] at hinv
    simp only [txsF] at hinv
    simp (maxSteps := 4000000) [hd0, hfr, hout, hcl, hcd, delA_none, a0, a0_n, a0_d, a0_m, a1, a1_n, a1_d, a1_m, eRow, eq_false (show ¬ (i : Int) < x.txns.length by omega), hinv.symm]
  rw [List.drop_eq_getElem_cons hi'] at hinv
  simp only [txsF] at hinv
  have w1 : IntKind.i64.wrap ((i : Int) + 1) = i + 1 := w64 (by omega) (by omega)
  have w2 : i ≠ 0 → IntKind.i64.wrap ((i : Int) - 1) = (i - 1 : Nat) := fun h => by rw [w64 (by omega) (by omega)]; omega
  have hend := prv_succ (f := DTxn.id_) hi'
  have hbu : x.txns[i].undos.length ≤ 1048576 := b1p _ (List.getElem_mem hi')
  simp (maxSteps := 4000000) [hd0, hfr, hout, hcl, hcd, delA_none, a0, a0_n, a0_d, a0_m, a1, a1_n, a1_d, a1_m, eRow, eq_true (show (i : Int) < x.txns.length by omega)]
  refine DrawK.intro 43 [0, 3, 4, 63] rfl (by kernel_rfl) (by decide) ?_
  simp (maxSteps := 4000000) [hd0, hfr, hout, hcl, hcd, delA_none, a0, a0_n, a0_d, a0_m, a1, a1_n, a1_d, a1_m, eRow, hi', DTxn.enc, wn]
  refine ⟨_, spec_l1In _ _ _ _, ?_⟩
  by_cases d1 : inR x.txns[i].id_ 1 (x.next - 1) = true
  case neg => simp only [Bool.not_eq_true] at d1; simp [tRange, d1] at hinv; simp (maxSteps := 4000000) [hd0, hfr, hout, hcl, hcd, delA_none, a0, a0_n, a0_d, a0_m, a1, a1_n, a1_d, a1_m, d1, hinv.symm]
  simp (maxSteps := 4000000) [hd0, hfr, hout, hcl, hcd, delA_none, a0, a0_n, a0_d, a0_m, a1, a1_n, a1_d, a1_m, d1, eRow, hi', DTxn.enc]
  refine ⟨_, spec_l1In _ _ _ _, ?_⟩
  by_cases d2 : inR x.txns[i].at_ 0 x.clock = true
  case neg => simp only [Bool.not_eq_true] at d2; simp [tRange, d2] at hinv; simp (maxSteps := 4000000) [hd0, hfr, hout, hcl, hcd, delA_none, a0, a0_n, a0_d, a0_m, a1, a1_n, a1_d, a1_m, d2, hinv.symm]
  simp (maxSteps := 4000000) [hd0, hfr, hout, hcl, hcd, delA_none, a0, a0_n, a0_d, a0_m, a1, a1_n, a1_d, a1_m, d2, eRow, hi', DTxn.enc]
  refine ⟨_, spec_l1In _ _ _ _, ?_⟩
  by_cases d3 : inR x.txns[i].state 1 3 = true
  case neg => simp only [Bool.not_eq_true] at d3; simp [tRange, d3] at hinv; simp (maxSteps := 4000000) [hd0, hfr, hout, hcl, hcd, delA_none, a0, a0_n, a0_d, a0_m, a1, a1_n, a1_d, a1_m, d3, hinv.symm]
  simp (maxSteps := 4000000) [hd0, hfr, hout, hcl, hcd, delA_none, a0, a0_n, a0_d, a0_m, a1, a1_n, a1_d, a1_m, d3, eRow, hi', DTxn.enc]
  refine ⟨_, spec_l1In _ _ _ _, ?_⟩
  by_cases d4 : inR x.txns[i].done 0 x.clock = true
  case neg => simp only [Bool.not_eq_true] at d4; simp [tRange, d4] at hinv; simp (maxSteps := 4000000) [hd0, hfr, hout, hcl, hcd, delA_none, a0, a0_n, a0_d, a0_m, a1, a1_n, a1_d, a1_m, d4, hinv.symm]
  have hv : tRange x.next x.clock x.txns[i] = true := by simp [tRange, d1, d2, d3, d4]
  rw [hv, if_neg (by simp)] at hinv
  have hone : tForm (prv DTxn.id_ x.txns i) x.txns[i] = false → R = 1 := fun h => by rw [if_pos h] at hinv; exact hinv.symm
  have hfin : tForm (prv DTxn.id_ x.txns i) x.txns[i] = true → (if undosF x.txns[i].undos ≠ 0 then undosF x.txns[i].undos else txsF x.next x.clock (some x.txns[i].id_) (x.txns.drop (i + 1))) = R := fun h => by rw [h] at hinv; simpa using hinv
  clear hinv
  simp (maxSteps := 4000000) [hd0, hfr, hout, hcl, hcd, delA_none, a0, a0_n, a0_d, a0_m, a1, a1_n, a1_d, a1_m, d4]
  refine DrawK.intro 58 [0, 3, 4, 121] rfl (by kernel_rfl) (by decide) ?_
  by_cases hi0 : i = 0
  · have hnab : (!nab (prv DTxn.id_ x.txns i) x.txns[i].id_) = true := by simp [hi0, prv, nab]
    by_cases e1 : x.txns[i].done = 0
    · have hdn : (decide (x.txns[i].done = 0) || (decide (x.txns[i].state = 2) && decide (x.txns[i].at_ < x.txns[i].done))) = true := by simp [e1]
      by_cases e4 : x.txns[i].undos.length = 0
      · have hun : (decide (x.txns[i].undos.length = 0) || decide (x.txns[i].state = 1)) = true := by simp [e4]
        have hf := hfin (by unfold tForm; rw [hnab, hdn, hun]; rfl)
        simp (maxSteps := 4000000) [hd0, hfr, hout, hcl, hcd, delA_none, a0, a0_n, a0_d, a0_m, a1, a1_n, a1_d, a1_m, eq_false (show ¬ (0 : Int) < (i : Int) by omega), eq_false (show ¬ 0 < i by omega), eq_true hi0, eq_true e1, eq_false (show ¬ (0 : Int) < (x.txns[i].undos.length : Int) by omega), eq_false (show ¬ 0 < x.txns[i].undos.length by omega), eq_true (show x.txns[i].undos = [] from List.eq_nil_of_length_eq_zero e4), eRow, hi', DTxn.enc]
        refine (spec_l6Undos _ hi' hbu (by simp (maxSteps := 4000000) [hd0, hfr, hout, hcl, hcd, delA_none, a0, a0_n, a0_d, a0_m, a1, a1_n, a1_d, a1_m])).useCK ?_
        by_cases e6 : undosF x.txns[i].undos = 0
        · rw [if_neg (by simp [e6])] at hf
          simp (maxSteps := 4000000) [hd0, hfr, hout, hcl, hcd, delA_none, a0, a0_n, a0_d, a0_m, a1, a1_n, a1_d, a1_m, e6, w1]
          refine LK.intro (m - 1) [0, 3] [] (by omega) (by decide) (by simp (maxSteps := 4000000) [hd0, hfr, hout, hcl, hcd, delA_none, a0, a0_n, a0_d, a0_m, a1, a1_n, a1_d, a1_m]) ⟨i + 1, by omega, by rw [hend]; exact hf, by simp⟩
        · rw [if_pos e6] at hf
          have hRne : ¬ R = 0 := by rw [← hf]; exact e6
          simp (maxSteps := 4000000) [hd0, hfr, hout, hcl, hcd, delA_none, a0, a0_n, a0_d, a0_m, a1, a1_n, a1_d, a1_m, hf, eq_false hRne]
      · by_cases e5 : x.txns[i].state = 1
        · have hun : (decide (x.txns[i].undos.length = 0) || decide (x.txns[i].state = 1)) = true := by simp [e5]
          have hf := hfin (by unfold tForm; rw [hnab, hdn, hun]; rfl)
          simp (maxSteps := 4000000) [hd0, hfr, hout, hcl, hcd, delA_none, a0, a0_n, a0_d, a0_m, a1, a1_n, a1_d, a1_m, eq_false (show ¬ (0 : Int) < (i : Int) by omega), eq_false (show ¬ 0 < i by omega), eq_true hi0, eq_true e1, eq_true (show (0 : Int) < (x.txns[i].undos.length : Int) by omega), eq_true (show 0 < x.txns[i].undos.length by omega), eq_false (show ¬ x.txns[i].undos = [] from fun h => e4 (by rw [h]; rfl)), eq_true e5, eRow, hi', DTxn.enc]
          refine (spec_l6Undos _ hi' hbu (by simp (maxSteps := 4000000) [hd0, hfr, hout, hcl, hcd, delA_none, a0, a0_n, a0_d, a0_m, a1, a1_n, a1_d, a1_m])).useCK ?_
          by_cases e6 : undosF x.txns[i].undos = 0
          · rw [if_neg (by simp [e6])] at hf
            simp (maxSteps := 4000000) [hd0, hfr, hout, hcl, hcd, delA_none, a0, a0_n, a0_d, a0_m, a1, a1_n, a1_d, a1_m, e6, w1]
            refine LK.intro (m - 1) [0, 3] [] (by omega) (by decide) (by simp (maxSteps := 4000000) [hd0, hfr, hout, hcl, hcd, delA_none, a0, a0_n, a0_d, a0_m, a1, a1_n, a1_d, a1_m]) ⟨i + 1, by omega, by rw [hend]; exact hf, by simp⟩
          · rw [if_pos e6] at hf
            have hRne : ¬ R = 0 := by rw [← hf]; exact e6
            simp (maxSteps := 4000000) [hd0, hfr, hout, hcl, hcd, delA_none, a0, a0_n, a0_d, a0_m, a1, a1_n, a1_d, a1_m, hf, eq_false hRne]
        · have h1 := hone (by simp [tForm, e4, e5])
          simp (maxSteps := 4000000) [hd0, hfr, hout, hcl, hcd, delA_none, a0, a0_n, a0_d, a0_m, a1, a1_n, a1_d, a1_m, eq_false (show ¬ (0 : Int) < (i : Int) by omega), eq_false (show ¬ 0 < i by omega), eq_true hi0, eq_true e1, eq_true (show (0 : Int) < (x.txns[i].undos.length : Int) by omega), eq_true (show 0 < x.txns[i].undos.length by omega), eq_false (show ¬ x.txns[i].undos = [] from fun h => e4 (by rw [h]; rfl)), eq_false e5, h1, eRow, hi', DTxn.enc]
    · by_cases e2 : x.txns[i].state = 2
      · by_cases e3 : x.txns[i].done ≤ x.txns[i].at_
        · have h1 := hone (by simp [tForm, e1, show ¬ x.txns[i].at_ < x.txns[i].done by omega])
          simp (maxSteps := 4000000) [hd0, hfr, hout, hcl, hcd, delA_none, a0, a0_n, a0_d, a0_m, a1, a1_n, a1_d, a1_m, eq_false (show ¬ (0 : Int) < (i : Int) by omega), eq_false (show ¬ 0 < i by omega), eq_true hi0, eq_false e1, eq_true e2, eq_true e3, h1, eRow, hi', DTxn.enc]
        · have hdn : (decide (x.txns[i].done = 0) || (decide (x.txns[i].state = 2) && decide (x.txns[i].at_ < x.txns[i].done))) = true := by simp [e2, show x.txns[i].at_ < x.txns[i].done by omega]
          by_cases e4 : x.txns[i].undos.length = 0
          · have hun : (decide (x.txns[i].undos.length = 0) || decide (x.txns[i].state = 1)) = true := by simp [e4]
            have hf := hfin (by unfold tForm; rw [hnab, hdn, hun]; rfl)
            simp (maxSteps := 4000000) [hd0, hfr, hout, hcl, hcd, delA_none, a0, a0_n, a0_d, a0_m, a1, a1_n, a1_d, a1_m, eq_false (show ¬ (0 : Int) < (i : Int) by omega), eq_false (show ¬ 0 < i by omega), eq_true hi0, eq_false e1, eq_true e2, eq_false e3, eq_false (show ¬ (0 : Int) < (x.txns[i].undos.length : Int) by omega), eq_false (show ¬ 0 < x.txns[i].undos.length by omega), eq_true (show x.txns[i].undos = [] from List.eq_nil_of_length_eq_zero e4), eRow, hi', DTxn.enc]
            refine (spec_l6Undos _ hi' hbu (by simp (maxSteps := 4000000) [hd0, hfr, hout, hcl, hcd, delA_none, a0, a0_n, a0_d, a0_m, a1, a1_n, a1_d, a1_m])).useCK ?_
            by_cases e6 : undosF x.txns[i].undos = 0
            · rw [if_neg (by simp [e6])] at hf
              simp (maxSteps := 4000000) [hd0, hfr, hout, hcl, hcd, delA_none, a0, a0_n, a0_d, a0_m, a1, a1_n, a1_d, a1_m, e6, w1]
              refine LK.intro (m - 1) [0, 3] [] (by omega) (by decide) (by simp (maxSteps := 4000000) [hd0, hfr, hout, hcl, hcd, delA_none, a0, a0_n, a0_d, a0_m, a1, a1_n, a1_d, a1_m]) ⟨i + 1, by omega, by rw [hend]; exact hf, by simp⟩
            · rw [if_pos e6] at hf
              have hRne : ¬ R = 0 := by rw [← hf]; exact e6
              simp (maxSteps := 4000000) [hd0, hfr, hout, hcl, hcd, delA_none, a0, a0_n, a0_d, a0_m, a1, a1_n, a1_d, a1_m, hf, eq_false hRne]
          · by_cases e5 : x.txns[i].state = 1
            · have hun : (decide (x.txns[i].undos.length = 0) || decide (x.txns[i].state = 1)) = true := by simp [e5]
              have hf := hfin (by unfold tForm; rw [hnab, hdn, hun]; rfl)
              simp (maxSteps := 4000000) [hd0, hfr, hout, hcl, hcd, delA_none, a0, a0_n, a0_d, a0_m, a1, a1_n, a1_d, a1_m, eq_false (show ¬ (0 : Int) < (i : Int) by omega), eq_false (show ¬ 0 < i by omega), eq_true hi0, eq_false e1, eq_true e2, eq_false e3, eq_true (show (0 : Int) < (x.txns[i].undos.length : Int) by omega), eq_true (show 0 < x.txns[i].undos.length by omega), eq_false (show ¬ x.txns[i].undos = [] from fun h => e4 (by rw [h]; rfl)), eq_true e5, eRow, hi', DTxn.enc]
              refine (spec_l6Undos _ hi' hbu (by simp (maxSteps := 4000000) [hd0, hfr, hout, hcl, hcd, delA_none, a0, a0_n, a0_d, a0_m, a1, a1_n, a1_d, a1_m])).useCK ?_
              by_cases e6 : undosF x.txns[i].undos = 0
              · rw [if_neg (by simp [e6])] at hf
                simp (maxSteps := 4000000) [hd0, hfr, hout, hcl, hcd, delA_none, a0, a0_n, a0_d, a0_m, a1, a1_n, a1_d, a1_m, e6, w1]
                refine LK.intro (m - 1) [0, 3] [] (by omega) (by decide) (by simp (maxSteps := 4000000) [hd0, hfr, hout, hcl, hcd, delA_none, a0, a0_n, a0_d, a0_m, a1, a1_n, a1_d, a1_m]) ⟨i + 1, by omega, by rw [hend]; exact hf, by simp⟩
              · rw [if_pos e6] at hf
                have hRne : ¬ R = 0 := by rw [← hf]; exact e6
                simp (maxSteps := 4000000) [hd0, hfr, hout, hcl, hcd, delA_none, a0, a0_n, a0_d, a0_m, a1, a1_n, a1_d, a1_m, hf, eq_false hRne]
            · have h1 := hone (by simp [tForm, e4, e5])
              simp (maxSteps := 4000000) [hd0, hfr, hout, hcl, hcd, delA_none, a0, a0_n, a0_d, a0_m, a1, a1_n, a1_d, a1_m, eq_false (show ¬ (0 : Int) < (i : Int) by omega), eq_false (show ¬ 0 < i by omega), eq_true hi0, eq_false e1, eq_true e2, eq_false e3, eq_true (show (0 : Int) < (x.txns[i].undos.length : Int) by omega), eq_true (show 0 < x.txns[i].undos.length by omega), eq_false (show ¬ x.txns[i].undos = [] from fun h => e4 (by rw [h]; rfl)), eq_false e5, h1, eRow, hi', DTxn.enc]
      · have h1 := hone (by simp [tForm, e1, e2])
        simp (maxSteps := 4000000) [hd0, hfr, hout, hcl, hcd, delA_none, a0, a0_n, a0_d, a0_m, a1, a1_n, a1_d, a1_m, eq_false (show ¬ (0 : Int) < (i : Int) by omega), eq_false (show ¬ 0 < i by omega), eq_true hi0, eq_false e1, eq_false e2, h1, eRow, hi', DTxn.enc]
  · have h3 : i - 1 < x.txns.length := by omega
    have hp := prv_pos (f := DTxn.id_) hi0 h3
    by_cases h4 : x.txns[i].id_ ≤ x.txns[i-1].id_
    · have h1 := hone (by simp [tForm, hp, nab, h4])
      simp (maxSteps := 4000000) [hd0, hfr, hout, hcl, hcd, delA_none, a0, a0_n, a0_d, a0_m, a1, a1_n, a1_d, a1_m, eq_true (show (0 : Int) < (i : Int) by omega), eq_true (show 0 < i by omega), hi0, w2 hi0, h3, eq_true h4, h1, eRow, hi', DTxn.enc]
    · have hnab : (!nab (prv DTxn.id_ x.txns i) x.txns[i].id_) = true := by rw [hp]; simp [nab]; omega
      by_cases e1 : x.txns[i].done = 0
      · have hdn : (decide (x.txns[i].done = 0) || (decide (x.txns[i].state = 2) && decide (x.txns[i].at_ < x.txns[i].done))) = true := by simp [e1]
        by_cases e4 : x.txns[i].undos.length = 0
        · have hun : (decide (x.txns[i].undos.length = 0) || decide (x.txns[i].state = 1)) = true := by simp [e4]
          have hf := hfin (by unfold tForm; rw [hnab, hdn, hun]; rfl)
          simp (maxSteps := 4000000) [hd0, hfr, hout, hcl, hcd, delA_none, a0, a0_n, a0_d, a0_m, a1, a1_n, a1_d, a1_m, eq_true (show (0 : Int) < (i : Int) by omega), eq_true (show 0 < i by omega), hi0, w2 hi0, h3, eq_false h4, eq_true e1, eq_false (show ¬ (0 : Int) < (x.txns[i].undos.length : Int) by omega), eq_false (show ¬ 0 < x.txns[i].undos.length by omega), eq_true (show x.txns[i].undos = [] from List.eq_nil_of_length_eq_zero e4), eRow, hi', DTxn.enc]
          refine (spec_l6Undos _ hi' hbu (by simp (maxSteps := 4000000) [hd0, hfr, hout, hcl, hcd, delA_none, a0, a0_n, a0_d, a0_m, a1, a1_n, a1_d, a1_m])).useCK ?_
          by_cases e6 : undosF x.txns[i].undos = 0
          · rw [if_neg (by simp [e6])] at hf
            simp (maxSteps := 4000000) [hd0, hfr, hout, hcl, hcd, delA_none, a0, a0_n, a0_d, a0_m, a1, a1_n, a1_d, a1_m, e6, w1]
            refine LK.intro (m - 1) [0, 3] [] (by omega) (by decide) (by simp (maxSteps := 4000000) [hd0, hfr, hout, hcl, hcd, delA_none, a0, a0_n, a0_d, a0_m, a1, a1_n, a1_d, a1_m]) ⟨i + 1, by omega, by rw [hend]; exact hf, by simp⟩
          · rw [if_pos e6] at hf
            have hRne : ¬ R = 0 := by rw [← hf]; exact e6
            simp (maxSteps := 4000000) [hd0, hfr, hout, hcl, hcd, delA_none, a0, a0_n, a0_d, a0_m, a1, a1_n, a1_d, a1_m, hf, eq_false hRne]
        · by_cases e5 : x.txns[i].state = 1
          · have hun : (decide (x.txns[i].undos.length = 0) || decide (x.txns[i].state = 1)) = true := by simp [e5]
            have hf := hfin (by unfold tForm; rw [hnab, hdn, hun]; rfl)
            simp (maxSteps := 4000000) [hd0, hfr, hout, hcl, hcd, delA_none, a0, a0_n, a0_d, a0_m, a1, a1_n, a1_d, a1_m, eq_true (show (0 : Int) < (i : Int) by omega), eq_true (show 0 < i by omega), hi0, w2 hi0, h3, eq_false h4, eq_true e1, eq_true (show (0 : Int) < (x.txns[i].undos.length : Int) by omega), eq_true (show 0 < x.txns[i].undos.length by omega), eq_false (show ¬ x.txns[i].undos = [] from fun h => e4 (by rw [h]; rfl)), eq_true e5, eRow, hi', DTxn.enc]
            refine (spec_l6Undos _ hi' hbu (by simp (maxSteps := 4000000) [hd0, hfr, hout, hcl, hcd, delA_none, a0, a0_n, a0_d, a0_m, a1, a1_n, a1_d, a1_m])).useCK ?_
            by_cases e6 : undosF x.txns[i].undos = 0
            · rw [if_neg (by simp [e6])] at hf
              simp (maxSteps := 4000000) [hd0, hfr, hout, hcl, hcd, delA_none, a0, a0_n, a0_d, a0_m, a1, a1_n, a1_d, a1_m, e6, w1]
              refine LK.intro (m - 1) [0, 3] [] (by omega) (by decide) (by simp (maxSteps := 4000000) [hd0, hfr, hout, hcl, hcd, delA_none, a0, a0_n, a0_d, a0_m, a1, a1_n, a1_d, a1_m]) ⟨i + 1, by omega, by rw [hend]; exact hf, by simp⟩
            · rw [if_pos e6] at hf
              have hRne : ¬ R = 0 := by rw [← hf]; exact e6
              simp (maxSteps := 4000000) [hd0, hfr, hout, hcl, hcd, delA_none, a0, a0_n, a0_d, a0_m, a1, a1_n, a1_d, a1_m, hf, eq_false hRne]
          · have h1 := hone (by simp [tForm, e4, e5])
            simp (maxSteps := 4000000) [hd0, hfr, hout, hcl, hcd, delA_none, a0, a0_n, a0_d, a0_m, a1, a1_n, a1_d, a1_m, eq_true (show (0 : Int) < (i : Int) by omega), eq_true (show 0 < i by omega), hi0, w2 hi0, h3, eq_false h4, eq_true e1, eq_true (show (0 : Int) < (x.txns[i].undos.length : Int) by omega), eq_true (show 0 < x.txns[i].undos.length by omega), eq_false (show ¬ x.txns[i].undos = [] from fun h => e4 (by rw [h]; rfl)), eq_false e5, h1, eRow, hi', DTxn.enc]
      · by_cases e2 : x.txns[i].state = 2
        · by_cases e3 : x.txns[i].done ≤ x.txns[i].at_
          · have h1 := hone (by simp [tForm, e1, show ¬ x.txns[i].at_ < x.txns[i].done by omega])
            simp (maxSteps := 4000000) [hd0, hfr, hout, hcl, hcd, delA_none, a0, a0_n, a0_d, a0_m, a1, a1_n, a1_d, a1_m, eq_true (show (0 : Int) < (i : Int) by omega), eq_true (show 0 < i by omega), hi0, w2 hi0, h3, eq_false h4, eq_false e1, eq_true e2, eq_true e3, h1, eRow, hi', DTxn.enc]
          · have hdn : (decide (x.txns[i].done = 0) || (decide (x.txns[i].state = 2) && decide (x.txns[i].at_ < x.txns[i].done))) = true := by simp [e2, show x.txns[i].at_ < x.txns[i].done by omega]
            by_cases e4 : x.txns[i].undos.length = 0
            · have hun : (decide (x.txns[i].undos.length = 0) || decide (x.txns[i].state = 1)) = true := by simp [e4]
              have hf := hfin (by unfold tForm; rw [hnab, hdn, hun]; rfl)
              simp (maxSteps := 4000000) [hd0, hfr, hout, hcl, hcd, delA_none, a0, a0_n, a0_d, a0_m, a1, a1_n, a1_d, a1_m, eq_true (show (0 : Int) < (i : Int) by omega), eq_true (show 0 < i by omega), hi0, w2 hi0, h3, eq_false h4, eq_false e1, eq_true e2, eq_false e3, eq_false (show ¬ (0 : Int) < (x.txns[i].undos.length : Int) by omega), eq_false (show ¬ 0 < x.txns[i].undos.length by omega), eq_true (show x.txns[i].undos = [] from List.eq_nil_of_length_eq_zero e4), eRow, hi', DTxn.enc]
              refine (spec_l6Undos _ hi' hbu (by simp (maxSteps := 4000000) [hd0, hfr, hout, hcl, hcd, delA_none, a0, a0_n, a0_d, a0_m, a1, a1_n, a1_d, a1_m])).useCK ?_
              by_cases e6 : undosF x.txns[i].undos = 0
              · rw [if_neg (by simp [e6])] at hf
                simp (maxSteps := 4000000) [hd0, hfr, hout, hcl, hcd, delA_none, a0, a0_n, a0_d, a0_m, a1, a1_n, a1_d, a1_m, e6, w1]
                refine LK.intro (m - 1) [0, 3] [] (by omega) (by decide) (by simp (maxSteps := 4000000) [hd0, hfr, hout, hcl, hcd, delA_none, a0, a0_n, a0_d, a0_m, a1, a1_n, a1_d, a1_m]) ⟨i + 1, by omega, by rw [hend]; exact hf, by simp⟩
              · rw [if_pos e6] at hf
                have hRne : ¬ R = 0 := by rw [← hf]; exact e6
                simp (maxSteps := 4000000) [hd0, hfr, hout, hcl, hcd, delA_none, a0, a0_n, a0_d, a0_m, a1, a1_n, a1_d, a1_m, hf, eq_false hRne]
            · by_cases e5 : x.txns[i].state = 1
              · have hun : (decide (x.txns[i].undos.length = 0) || decide (x.txns[i].state = 1)) = true := by simp [e5]
                have hf := hfin (by unfold tForm; rw [hnab, hdn, hun]; rfl)
                simp (maxSteps := 4000000) [hd0, hfr, hout, hcl, hcd, delA_none, a0, a0_n, a0_d, a0_m, a1, a1_n, a1_d, a1_m, eq_true (show (0 : Int) < (i : Int) by omega), eq_true (show 0 < i by omega), hi0, w2 hi0, h3, eq_false h4, eq_false e1, eq_true e2, eq_false e3, eq_true (show (0 : Int) < (x.txns[i].undos.length : Int) by omega), eq_true (show 0 < x.txns[i].undos.length by omega), eq_false (show ¬ x.txns[i].undos = [] from fun h => e4 (by rw [h]; rfl)), eq_true e5, eRow, hi', DTxn.enc]
                refine (spec_l6Undos _ hi' hbu (by simp (maxSteps := 4000000) [hd0, hfr, hout, hcl, hcd, delA_none, a0, a0_n, a0_d, a0_m, a1, a1_n, a1_d, a1_m])).useCK ?_
                by_cases e6 : undosF x.txns[i].undos = 0
                · rw [if_neg (by simp [e6])] at hf
                  simp (maxSteps := 4000000) [hd0, hfr, hout, hcl, hcd, delA_none, a0, a0_n, a0_d, a0_m, a1, a1_n, a1_d, a1_m, e6, w1]
                  refine LK.intro (m - 1) [0, 3] [] (by omega) (by decide) (by simp (maxSteps := 4000000) [hd0, hfr, hout, hcl, hcd, delA_none, a0, a0_n, a0_d, a0_m, a1, a1_n, a1_d, a1_m]) ⟨i + 1, by omega, by rw [hend]; exact hf, by simp⟩
                · rw [if_pos e6] at hf
                  have hRne : ¬ R = 0 := by rw [← hf]; exact e6
                  simp (maxSteps := 4000000) [hd0, hfr, hout, hcl, hcd, delA_none, a0, a0_n, a0_d, a0_m, a1, a1_n, a1_d, a1_m, hf, eq_false hRne]
              · have h1 := hone (by simp [tForm, e4, e5])
                simp (maxSteps := 4000000) [hd0, hfr, hout, hcl, hcd, delA_none, a0, a0_n, a0_d, a0_m, a1, a1_n, a1_d, a1_m, eq_true (show (0 : Int) < (i : Int) by omega), eq_true (show 0 < i by omega), hi0, w2 hi0, h3, eq_false h4, eq_false e1, eq_true e2, eq_false e3, eq_true (show (0 : Int) < (x.txns[i].undos.length : Int) by omega), eq_true (show 0 < x.txns[i].undos.length by omega), eq_false (show ¬ x.txns[i].undos = [] from fun h => e4 (by rw [h]; rfl)), eq_false e5, h1, eRow, hi', DTxn.enc]
        · have h1 := hone (by simp [tForm, e1, e2])
          simp (maxSteps := 4000000) [hd0, hfr, hout, hcl, hcd, delA_none, a0, a0_n, a0_d, a0_m, a1, a1_n, a1_d, a1_m, eq_true (show (0 : Int) < (i : Int) by omega), eq_true (show 0 < i by omega), hi0, w2 hi0, h3, eq_false h4, eq_false e1, eq_false e2, h1, eRow, hi', DTxn.enc]
end Go.Proofs.YtnlbjfdmjlnlgaaGreat


namespace Go.Proofs.YtnlbjfdmjlnlgaaGreat
open Go Go.Px Go.RowKit Go.Proofs
set_option linter.unnecessarySimpa false
set_option linter.unusedVariables false
set_option linter.unusedSimpArgs false
set_option maxRecDepth 100000
set_option maxHeartbeats 1000000
attribute [-simp] Int.not_le Int.not_lt
def writF (l : List DVersion) : Int := match l with | [] => 0 | v :: _ => if v.at_ = 0 then v.txn else 0
def ixF {α : Type} (p : α → Bool) : Nat → List α → Int
  | _, [] => -1
  | n, a :: l => if p a = true then n else ixF p (n + 1) l
theorem ixF_none {α : Type} {p : α → Bool} : ∀ {l : List α} {n : Nat}, (∀ x ∈ l, p x = false) → ixF p n l = -1
  | [], _, _ => rfl
  | a :: l, n, h => by
    have h1 := h a (by simp)
    simp only [ixF, h1]
    exact ixF_none (fun x hx => h x (by simp [hx]))
theorem ixF_some {α : Type} {p : α → Bool} : ∀ {l : List α} {n : Nat}, ixF p n l = -1 ∧ (∀ x ∈ l, p x = false) ∨ ∃ i, ∃ h : i < l.length, ixF p n l = n + i ∧ p l[i] = true
  | [], _ => .inl ⟨rfl, by simp⟩
  | a :: l, n => by
    by_cases h1 : p a = true
    · exact .inr ⟨0, by simp, by simp [ixF, h1], by simpa using h1⟩
    · simp only [Bool.not_eq_true] at h1
      rcases ixF_some (p := p) (l := l) (n := n + 1) with ⟨h2, h3⟩ | ⟨i, hi, h2, h3⟩
      · refine .inl ⟨by simp [ixF, h1, h2], ?_⟩
        intro x hx
        rcases List.mem_cons.1 hx with rfl | hx
        · exact h1
        · exact h3 x hx
      · refine .inr ⟨i + 1, by simpa using hi, by simp [ixF, h1, h2]; omega, by simpa using h3⟩
theorem spec_l5Writer (H : HH) {r q} {l : List DVersion} (ha : arrAt H r q = some (4, l.map DVersion.enc)) : PFun Tryz.prog 146 [.c (.sl r q 4 0 l.length)] H (I (writF l)) := by
  refine PFun.of [0, 2, 12] Tryz.func146 rfl (by simp [Tryz.f146]) ?_
  intro d hd0 hfr hcl hout
  have hcd : ∀ n q, CleanH (hit [((d, n), q)]) H := fun n q => hcl.at
  have ha_n : ∀ n, ¬ (d, n) = r := fun n => nm_ne (ne_of_arr hfr ha)
  have ha_d : ¬ r.1 = d := ne_of_arr hfr ha
  have ha_m : ∀ n, ¬ r = (d, n) := fun n => nm_ne' (ne_of_arr hfr ha)
  simp (maxSteps := 4000000) [hd0, hfr, hout, hcl, hcd, delA_none, ha, ha_n, ha_d, ha_m, Tryz.f146]
  cases l with
  | nil => simp (maxSteps := 4000000) [hd0, hfr, hout, hcl, hcd, delA_none, ha, ha_n, ha_d, ha_m, writF]
  | cons v l =>
    by_cases hz : v.at_ = 0
    · simp (maxSteps := 4000000) [hd0, hfr, hout, hcl, hcd, delA_none, ha, ha_n, ha_d, ha_m, eq_true (show (0 : Int) < (l.length : Int) + 1 by omega), DVersion.enc, hz, writF]
    · simp (maxSteps := 4000000) [hd0, hfr, hout, hcl, hcd, delA_none, ha, ha_n, ha_d, ha_m, eq_true (show (0 : Int) < (l.length : Int) + 1 by omega), DVersion.enc, hz, writF]
theorem spec_l6Txn (H : HH) {r0 q0 r1 q1 r2 q2} {x : DEngine} {id : Int} (hl : x.le 1048576) (a0 : arrAt H r0 q0 = some (4, [eRow x r1 q1 r2 q2])) (a1 : arrAt H r1 q1 = some (5, x.txns.map DTxn.enc)) :
    PFun Tryz.prog 118 [.c (.pt r0 q0 4 0 0), I id] H (I (ixF (fun t : DTxn => decide (t.id_ = id)) 0 x.txns)) := by
  obtain ⟨⟨b1, b1p⟩, b2, b2p⟩ := hl
  obtain ⟨R, hR⟩ : ∃ R, R = ixF (fun t : DTxn => decide (t.id_ = id)) 0 x.txns := ⟨_, rfl⟩
  rw [← hR]
  refine PFun.of [0, 1, 4, 5, 12, 24] Tryz.func118 rfl (by simp [Tryz.f118]) ?_
  intro d hd0 hfr hcl hout
  have hcd : ∀ n q, CleanH (hit [((d, n), q)]) H := fun n q => hcl.at
  have a0_n : ∀ n, ¬ (d, n) = r0 := fun n => nm_ne (ne_of_arr hfr a0)
  have a0_d : ¬ r0.1 = d := ne_of_arr hfr a0
  have a0_m : ∀ n, ¬ r0 = (d, n) := fun n => nm_ne' (ne_of_arr hfr a0)
  have a1_n : ∀ n, ¬ (d, n) = r1 := fun n => nm_ne (ne_of_arr hfr a1)
  have a1_d : ¬ r1.1 = d := ne_of_arr hfr a1
  have a1_m : ∀ n, ¬ r1 = (d, n) := fun n => nm_ne' (ne_of_arr hfr a1)
  simp (maxSteps := 4000000) [hd0, hfr, hout, hcl, hcd, delA_none, a0, a0_n, a0_d, a0_m, a1, a1_n, a1_d, a1_m, Tryz.f118]
  refine LoopK.intro (fun m s => ∃ i : Nat, i + m = x.txns.length ∧ ixF (fun t : DTxn => decide (t.id_ = id)) i (x.txns.drop i) = R ∧ s = ⟨[(0, .c (.pt r0 q0 4 0 0)), (1, I id), (5, I i)], H, []⟩) (x.txns.length + 1)
    (LK.intro x.txns.length [0, 1, 5] [] (by omega) (by decide) (by simp (maxSteps := 4000000) [hd0, hfr, hout, hcl, hcd, delA_none, a0, a0_n, a0_d, a0_m, a1, a1_n, a1_d, a1_m]) ⟨0, by simp [hR]⟩) ?_
  rintro m s ⟨i, him, hinv, rfl⟩
  by_cases hi' : i < x.txns.length
  case neg =>
    rw [List.drop_eq_nil_of_le (by omega)] at hinv
    simp only [ixF] at hinv
    simp (maxSteps := 4000000) [hd0, hfr, hout, hcl, hcd, delA_none, a0, a0_n, a0_d, a0_m, a1, a1_n, a1_d, a1_m, eRow, eq_false (show ¬ (i : Int) < x.txns.length by omega), hinv.symm]
  rw [List.drop_eq_getElem_cons hi'] at hinv
  simp only [ixF] at hinv
  have w1 : IntKind.i64.wrap ((i : Int) + 1) = i + 1 := w64 (by omega) (by omega)
  by_cases he : x.txns[i].id_ = id
  · rw [if_pos (by simp [he])] at hinv
    simp (maxSteps := 4000000) [hd0, hfr, hout, hcl, hcd, delA_none, a0, a0_n, a0_d, a0_m, a1, a1_n, a1_d, a1_m, eRow, eq_true (show (i : Int) < x.txns.length by omega), hi', DTxn.enc, eq_true he, hinv.symm]
  · rw [if_neg (by simp [he])] at hinv
    simp (maxSteps := 4000000) [hd0, hfr, hout, hcl, hcd, delA_none, a0, a0_n, a0_d, a0_m, a1, a1_n, a1_d, a1_m, eRow, eq_true (show (i : Int) < x.txns.length by omega), hi', DTxn.enc, eq_false he, w1]
    refine LK.intro (m - 1) [0, 1, 5] [] (by omega) (by decide) (by simp (maxSteps := 4000000) [hd0, hfr, hout, hcl, hcd, delA_none, a0, a0_n, a0_d, a0_m, a1, a1_n, a1_d, a1_m]) ⟨i + 1, by omega, hinv, by simp⟩
theorem spec_l6Row (H : HH) {r0 q0 r1 q1 r2 q2} {x : DEngine} {k : Int} (hl : x.le 1048576) (a0 : arrAt H r0 q0 = some (4, [eRow x r1 q1 r2 q2])) (a1 : arrAt H r2 q2 = some (2, x.rows.map DRow.enc)) :
    PFun Tryz.prog 120 [.c (.pt r0 q0 4 0 0), I k] H (I (ixF (fun t : DRow => decide (t.key = k)) 0 x.rows)) := by
  obtain ⟨⟨b1, b1p⟩, b2, b2p⟩ := hl
  obtain ⟨R, hR⟩ : ∃ R, R = ixF (fun t : DRow => decide (t.key = k)) 0 x.rows := ⟨_, rfl⟩
  rw [← hR]
  refine PFun.of [0, 1, 4, 5, 12, 24] Tryz.func120 rfl (by simp [Tryz.f120]) ?_
  intro d hd0 hfr hcl hout
  have hcd : ∀ n q, CleanH (hit [((d, n), q)]) H := fun n q => hcl.at
  have a0_n : ∀ n, ¬ (d, n) = r0 := fun n => nm_ne (ne_of_arr hfr a0)
  have a0_d : ¬ r0.1 = d := ne_of_arr hfr a0
  have a0_m : ∀ n, ¬ r0 = (d, n) := fun n => nm_ne' (ne_of_arr hfr a0)
  have a1_n : ∀ n, ¬ (d, n) = r2 := fun n => nm_ne (ne_of_arr hfr a1)
  have a1_d : ¬ r2.1 = d := ne_of_arr hfr a1
  have a1_m : ∀ n, ¬ r2 = (d, n) := fun n => nm_ne' (ne_of_arr hfr a1)
  simp (maxSteps := 4000000) [hd0, hfr, hout, hcl, hcd, delA_none, a0, a0_n, a0_d, a0_m, a1, a1_n, a1_d, a1_m, Tryz.f120]
  refine LoopK.intro (fun m s => ∃ i : Nat, i + m = x.rows.length ∧ ixF (fun t : DRow => decide (t.key = k)) i (x.rows.drop i) = R ∧ s = ⟨[(0, .c (.pt r0 q0 4 0 0)), (1, I k), (5, I i)], H, []⟩) (x.rows.length + 1)
    (LK.intro x.rows.length [0, 1, 5] [] (by omega) (by decide) (by simp (maxSteps := 4000000) [hd0, hfr, hout, hcl, hcd, delA_none, a0, a0_n, a0_d, a0_m, a1, a1_n, a1_d, a1_m]) ⟨0, by simp [hR]⟩) ?_
  rintro m s ⟨i, him, hinv, rfl⟩
  by_cases hi' : i < x.rows.length
  case neg =>
    rw [List.drop_eq_nil_of_le (by omega)] at hinv
    simp only [ixF] at hinv
    simp (maxSteps := 4000000) [hd0, hfr, hout, hcl, hcd, delA_none, a0, a0_n, a0_d, a0_m, a1, a1_n, a1_d, a1_m, eRow, eq_false (show ¬ (i : Int) < x.rows.length by omega), hinv.symm]
  rw [List.drop_eq_getElem_cons hi'] at hinv
  simp only [ixF] at hinv
  have w1 : IntKind.i64.wrap ((i : Int) + 1) = i + 1 := w64 (by omega) (by omega)
  by_cases he : x.rows[i].key = k
  · rw [if_pos (by simp [he])] at hinv
    simp (maxSteps := 4000000) [hd0, hfr, hout, hcl, hcd, delA_none, a0, a0_n, a0_d, a0_m, a1, a1_n, a1_d, a1_m, eRow, eq_true (show (i : Int) < x.rows.length by omega), hi', DRow.enc, eq_true he, hinv.symm]
  · rw [if_neg (by simp [he])] at hinv
    simp (maxSteps := 4000000) [hd0, hfr, hout, hcl, hcd, delA_none, a0, a0_n, a0_d, a0_m, a1, a1_n, a1_d, a1_m, eRow, eq_true (show (i : Int) < x.rows.length by omega), hi', DRow.enc, eq_false he, w1]
    refine LK.intro (m - 1) [0, 1, 5] [] (by omega) (by decide) (by simp (maxSteps := 4000000) [hd0, hfr, hout, hcl, hcd, delA_none, a0, a0_n, a0_d, a0_m, a1, a1_n, a1_d, a1_m]) ⟨i + 1, by omega, hinv, by simp⟩
theorem spec_l6Wrote (H : HH) {r q ix} {ts : List DTxn} {k : Int} (hix : ix < ts.length) (hb : ts[ix].undos.length ≤ 1048576) (ha : arrAt H r q = some (5, ts.map DTxn.enc)) :
    PFun Tryz.prog 207 [.c (.pt r q 5 ix 0), I k] H (B (wroteF ts[ix].undos k)) := by
  have hsub := arrAt_sub ha (i := ix) (f := 4) (row := ts[ix].enc) (by simp [hix]) rfl
  generalize hl : ts[ix].undos = l at *
  obtain ⟨R, hR⟩ : ∃ R, R = wroteF l k := ⟨_, rfl⟩
  rw [← hR]
  refine PFun.of [0, 1, 4, 5, 12, 24] Tryz.func207 rfl (by simp [Tryz.f207]) ?_
  intro d hd0 hfr hcl hout
  have hcd : ∀ n q, CleanH (hit [((d, n), q)]) H := fun n q => hcl.at
  have ha_n : ∀ n, ¬ (d, n) = r := fun n => nm_ne (ne_of_arr hfr ha)
  have ha_d : ¬ r.1 = d := ne_of_arr hfr ha
  have ha_m : ∀ n, ¬ r = (d, n) := fun n => nm_ne' (ne_of_arr hfr ha)
  simp (maxSteps := 4000000) [hd0, hfr, hout, hcl, hcd, delA_none, ha, ha_n, ha_d, ha_m, Tryz.f207]
  refine LoopK.intro (fun m s => ∃ i : Nat, i + m = l.length ∧ wroteF (l.drop i) k = R ∧ s = ⟨[(0, .c (.pt r q 5 ix 0)), (1, I k), (5, I i)], H, []⟩) (l.length + 1) (LK.intro l.length [0, 1, 5] [] (by omega) (by decide) (by simp (maxSteps := 4000000) [hd0, hfr, hout, hcl, hcd, delA_none, ha, ha_n, ha_d, ha_m]) ⟨0, by simp [hR]⟩) ?_
  rintro m s ⟨i, him, hinv, rfl⟩
  by_cases hi' : i < l.length
  case neg =>
    rw [List.drop_eq_nil_of_le (by omega)] at hinv
    simp only [wroteF, List.any_nil] at hinv
    simp (maxSteps := 4000000) [hd0, hfr, hout, hcl, hcd, delA_none, ha, ha_n, ha_d, ha_m, hix, DTxn.enc, hl, eq_false (show ¬ (i : Int) < l.length by omega), hinv.symm]
  rw [List.drop_eq_getElem_cons hi'] at hinv
  simp only [wroteF, List.any_cons] at hinv
  have w1 : IntKind.i64.wrap ((i : Int) + 1) = i + 1 := w64 (by omega) (by omega)
  by_cases he : l[i].key = k
  · simp only [he, decide_true, Bool.true_or] at hinv
    simp (maxSteps := 4000000) [hd0, hfr, hout, hcl, hcd, delA_none, ha, ha_n, ha_d, ha_m, hix, DTxn.enc, hl, hsub, eq_true (show (i : Int) < l.length by omega), hi', DUndo.enc, eq_true he, hinv.symm]
  · simp only [he, decide_false, Bool.false_or] at hinv
    simp (maxSteps := 4000000) [hd0, hfr, hout, hcl, hcd, delA_none, ha, ha_n, ha_d, ha_m, hix, DTxn.enc, hl, hsub, eq_true (show (i : Int) < l.length by omega), hi', DUndo.enc, eq_false he, w1]
    refine LK.intro (m - 1) [0, 1, 5] [] (by omega) (by decide) (by simp (maxSteps := 4000000) [hd0, hfr, hout, hcl, hcd, delA_none, ha, ha_n, ha_d, ha_m]) ⟨i + 1, by omega, hinv, by simp⟩
theorem txsF_rise {next clock : Int} : ∀ {l : List DTxn} {p}, txsF next clock p l = 0 → (∀ b, p = some b → ∀ t ∈ l, b < t.id_) ∧ (∀ t ∈ l, 1 ≤ t.id_) ∧ ∀ (i j : Nat) (hi : i < l.length) (hj : j < l.length), i < j → l[i].id_ < l[j].id_
  | [], _, _ => ⟨by simp, by simp, fun i j hi => by simp at hi⟩
  | t0 :: l, p, h => by
    simp only [txsF] at h
    split at h
    · omega
    · rename_i h1
      split at h
      · omega
      · rename_i h2
        split at h
        · rename_i h3; exact absurd h h3
        · obtain ⟨k1, k2, k3⟩ := txsF_rise h
          have hk : 1 ≤ t0.id_ := by
            simp only [Bool.not_eq_false] at h1
            unfold tRange inR at h1
            simp only [Bool.and_eq_true, decide_eq_true_eq] at h1
            omega
          have hp : ∀ b, p = some b → b < t0.id_ := by
            intro b hb
            subst hb
            simp only [Bool.not_eq_false] at h2
            simp only [tForm, nab, Bool.and_eq_true, Bool.not_eq_true', decide_eq_false_iff_not] at h2
            omega
          refine ⟨fun b hb x hx => ?_, fun x hx => ?_, fun i j hi hj hij => ?_⟩
          · rcases List.mem_cons.1 hx with rfl | hx
            · exact hp b hb
            · have := hp b hb; have := k1 t0.id_ rfl x hx; omega
          · rcases List.mem_cons.1 hx with rfl | hx
            · exact hk
            · exact k2 x hx
          · cases j with
            | zero => omega
            | succ j =>
              cases i with
              | zero => simpa using k1 t0.id_ rfl _ (List.getElem_mem (by simpa using hj))
              | succ i => simpa using k3 i j (by simpa using hi) (by simpa using hj) (by omega)
theorem any_at {next clock id k : Int} {l : List DTxn} {i : Nat} (h : txsF next clock none l = 0) (hi : i < l.length) (he : l[i].id_ = id) :
    (l.any fun t => decide (t.id_ = id) && undoesF t k) = undoesF l[i] k := by
  obtain ⟨-, -, h3⟩ := txsF_rise h
  rw [Bool.eq_iff_iff, List.any_eq_true]
  constructor
  · rintro ⟨t, ht, h4⟩
    obtain ⟨j, hj, rfl⟩ := List.getElem_of_mem ht
    simp only [Bool.and_eq_true, decide_eq_true_eq] at h4
    have : i = j := by
      rcases Nat.lt_trichotomy i j with h5 | h5 | h5
      · have := h3 i j hi hj h5; omega
      · exact h5
      · have := h3 j i hj hi h5; omega
    subst this
    exact h4.2
  · intro h4
    exact ⟨l[i], List.getElem_mem hi, by simp [he, h4]⟩
end Go.Proofs.YtnlbjfdmjlnlgaaGreat


namespace Go.Proofs.YtnlbjfdmjlnlgaaGreat
open Go Go.Px Go.RowKit Go.Proofs
set_option linter.unnecessarySimpa false
set_option linter.unusedVariables false
set_option linter.unusedSimpArgs false
set_option maxRecDepth 100000
set_option maxHeartbeats 1000000
attribute [-simp] Int.not_le Int.not_lt
theorem rowOpen_zero {txns : List DTxn} {r : DRow} (hv : ∀ v ∈ r.chain, v.txn ≠ 0) (h : writF r.chain = 0) : rowOpenF txns r = true := by
  unfold rowOpenF
  cases hc : r.chain with
  | nil => rfl
  | cons v l =>
    rw [hc] at h
    have h1 := hv v (by rw [hc]; simp)
    simp only [writF] at h
    split at h
    · exact absurd h h1
    · rename_i h2; simp [h2]
theorem rowOpen_some {txns : List DTxn} {r : DRow} (h : writF r.chain ≠ 0) : rowOpenF txns r = txns.any fun t => decide (t.id_ = writF r.chain) && undoesF t r.key := by
  unfold rowOpenF
  cases hc : r.chain with
  | nil => rw [hc] at h; simp [writF] at h
  | cons v l =>
    rw [hc] at h
    simp only [writF] at h ⊢
    split at h
    · rename_i h2; simp [h2]
    · simp at h
theorem spec_l6Open (H : HH) {r0 q0 r1 q1 r2 q2 ix} {x : DEngine} (hix : ix < x.rows.length) (hl : x.le 1048576) (ht : txsF x.next x.clock none x.txns = 0) (hv : ∀ v ∈ x.rows[ix].chain, v.txn ≠ 0)
    (a0 : arrAt H r0 q0 = some (4, [eRow x r1 q1 r2 q2])) (a1 : arrAt H r1 q1 = some (5, x.txns.map DTxn.enc)) (a2 : arrAt H r2 q2 = some (2, x.rows.map DRow.enc)) :
    PFun Tryz.prog 182 [.c (.pt r0 q0 4 0 0), .c (.pt r2 q2 2 ix 0)] H (B (rowOpenF x.txns x.rows[ix])) := by
  have hsub := arrAt_sub a2 (i := ix) (f := 1) (row := x.rows[ix].enc) (by simp [hix]) rfl
  refine PFun.of [0, 1, 4, 5, 6, 13] Tryz.func182 rfl (by simp [Tryz.f182]) ?_
  intro d hd0 hfr hcl hout
  have hcd : ∀ n q, CleanH (hit [((d, n), q)]) H := fun n q => hcl.at
  have a0_n : ∀ n, ¬ (d, n) = r0 := fun n => nm_ne (ne_of_arr hfr a0)
  have a0_d : ¬ r0.1 = d := ne_of_arr hfr a0
  have a0_m : ∀ n, ¬ r0 = (d, n) := fun n => nm_ne' (ne_of_arr hfr a0)
  have a1_n : ∀ n, ¬ (d, n) = r1 := fun n => nm_ne (ne_of_arr hfr a1)
  have a1_d : ¬ r1.1 = d := ne_of_arr hfr a1
  have a1_m : ∀ n, ¬ r1 = (d, n) := fun n => nm_ne' (ne_of_arr hfr a1)
  have a2_n : ∀ n, ¬ (d, n) = r2 := fun n => nm_ne (ne_of_arr hfr a2)
  have a2_d : ¬ r2.1 = d := ne_of_arr hfr a2
  have a2_m : ∀ n, ¬ r2 = (d, n) := fun n => nm_ne' (ne_of_arr hfr a2)
  simp (maxSteps := 4000000) [hd0, hfr, hout, hcl, hcd, delA_none, a0, a0_n, a0_d, a0_m, a1, a1_n, a1_d, a1_m, a2, a2_n, a2_d, a2_m, Tryz.f182]
  simp (maxSteps := 4000000) [hd0, hfr, hout, hcl, hcd, delA_none, a0, a0_n, a0_d, a0_m, a1, a1_n, a1_d, a1_m, a2, a2_n, a2_d, a2_m, hix, DRow.enc]
  refine (spec_l5Writer _ (l := x.rows[ix].chain) (by simp (maxSteps := 4000000) [hd0, hfr, hout, hcl, hcd, delA_none, a0, a0_n, a0_d, a0_m, a1, a1_n, a1_d, a1_m, a2, a2_n, a2_d, a2_m, hsub])).useCK ?_
  have hz := rowOpen_zero (txns := x.txns) hv
  have hs := rowOpen_some (txns := x.txns) (r := x.rows[ix])
  obtain ⟨b1, b1p⟩ := hl.1
  generalize writF x.rows[ix].chain = w at *
  generalize rowOpenF x.txns x.rows[ix] = R at *
  by_cases hw : w = 0
  case pos => simp (maxSteps := 4000000) [hd0, hfr, hout, hcl, hcd, delA_none, a0, a0_n, a0_d, a0_m, a1, a1_n, a1_d, a1_m, a2, a2_n, a2_d, a2_m, eq_true hw, hz hw]
  simp (maxSteps := 4000000) [hd0, hfr, hout, hcl, hcd, delA_none, a0, a0_n, a0_d, a0_m, a1, a1_n, a1_d, a1_m, a2, a2_n, a2_d, a2_m, eq_false hw]
  refine (spec_l6Txn _ (r1 := r1) (q1 := q1) (r2 := r2) (q2 := q2) hl (by simp (maxSteps := 4000000) [hd0, hfr, hout, hcl, hcd, delA_none, a0, a0_n, a0_d, a0_m, a1, a1_n, a1_d, a1_m, a2, a2_n, a2_d, a2_m]) (by simp (maxSteps := 4000000) [hd0, hfr, hout, hcl, hcd, delA_none, a0, a0_n, a0_d, a0_m, a1, a1_n, a1_d, a1_m, a2, a2_n, a2_d, a2_m])).useCK ?_
  have hR := hs hw
  clear hs hz
  simp (maxSteps := 4000000) [hd0, hfr, hout, hcl, hcd, delA_none, a0, a0_n, a0_d, a0_m, a1, a1_n, a1_d, a1_m, a2, a2_n, a2_d, a2_m]
  refine DrawK.intro 27 [4] rfl (by kernel_rfl) (by decide) ?_
  rcases ixF_some (p := fun t : DTxn => decide (t.id_ = w)) (l := x.txns) (n := 0) with ⟨h2, h3⟩ | ⟨i, hi, h2, h3⟩
  · have hR0 : R = false := by
      rw [hR, List.any_eq_false]
      intro t htm
      have := h3 t htm
      simp only [decide_eq_false_iff_not] at this
      simp [this]
    rw [h2]
    simp (maxSteps := 4000000) [hd0, hfr, hout, hcl, hcd, delA_none, a0, a0_n, a0_d, a0_m, a1, a1_n, a1_d, a1_m, a2, a2_n, a2_d, a2_m, hR0]
  · rw [h2]
    simp only [decide_eq_true_eq] at h3
    rw [any_at ht hi h3] at hR
    subst hR
    by_cases h5 : x.txns[i].state = 1
    · simp (maxSteps := 4000000) [hd0, hfr, hout, hcl, hcd, delA_none, a0, a0_n, a0_d, a0_m, a1, a1_n, a1_d, a1_m, a2, a2_n, a2_d, a2_m, eRow, hi, DTxn.enc, eq_true h5, hix, DRow.enc, eq_true (show (0 : Int) ≤ (i : Int) by omega), eq_true (show (0 : Int) ≤ 0 + (i : Int) by omega), Int.zero_add]
      refine ⟨_, spec_l6Wrote _ hi (b1p _ (List.getElem_mem hi)) (by simp (maxSteps := 4000000) [hd0, hfr, hout, hcl, hcd, delA_none, a0, a0_n, a0_d, a0_m, a1, a1_n, a1_d, a1_m, a2, a2_n, a2_d, a2_m]), ?_⟩
      simp (maxSteps := 4000000) [hd0, hfr, hout, hcl, hcd, delA_none, a0, a0_n, a0_d, a0_m, a1, a1_n, a1_d, a1_m, a2, a2_n, a2_d, a2_m, undoesF, eq_true h5]
    · simp (maxSteps := 4000000) [hd0, hfr, hout, hcl, hcd, delA_none, a0, a0_n, a0_d, a0_m, a1, a1_n, a1_d, a1_m, a2, a2_n, a2_d, a2_m, eRow, hi, DTxn.enc, eq_false h5, undoesF, eq_true (show (0 : Int) ≤ (i : Int) by omega), eq_true (show (0 : Int) ≤ 0 + (i : Int) by omega), Int.zero_add]
end Go.Proofs.YtnlbjfdmjlnlgaaGreat


namespace Go.Proofs.YtnlbjfdmjlnlgaaGreat
open Go Go.Px Go.RowKit Go.Proofs
set_option linter.unnecessarySimpa false
set_option linter.unusedVariables false
set_option linter.unusedSimpArgs false
set_option maxRecDepth 100000
set_option maxHeartbeats 1000000
attribute [-simp] Int.not_le Int.not_lt
theorem foundR_none {l : List DRow} {k : Int} (h : ∀ r ∈ l, r.key ≠ k) : foundR l k = false := by
  unfold foundR
  by_cases h1 : rowP l k < l.length
  · simp only [List.getElem?_eq_getElem h1]
    simpa using h _ (List.getElem_mem h1)
  · simp [List.getElem?_eq_none (show l.length ≤ rowP l k by omega)]
theorem rowP_at {l : List DRow} {k : Int} {j : Nat} (hs : sortedR l) (hj : j < l.length) (he : l[j].key = k) : rowP l k = j := by
  obtain ⟨p1, p2, p3⟩ := rowP_spec (k := k) l
  have h1 : rowP l k ≤ j := by
    apply Nat.le_of_not_lt
    intro h
    have := p2 j hj h
    omega
  have h2 : ¬ rowP l k < j := by
    intro h
    have := p3 (by omega)
    have := hs (rowP l k) j h hj
    omega
  omega
theorem chainR_at {l : List DRow} {k : Int} {j : Nat} (hs : sortedR l) (hj : j < l.length) (he : l[j].key = k) : chainR l k = l[j].chain := by
  have hp := rowP_at hs hj he
  have hf : foundR l k = true := by unfold foundR; simp [hp, List.getElem?_eq_getElem hj, he]
  unfold chainR
  simp [hf, hp, List.getD_eq_getElem?_getD, List.getElem?_eq_getElem hj]
theorem chainR_none {l : List DRow} {k : Int} (h : ∀ r ∈ l, r.key ≠ k) : chainR l k = [] := by
  unfold chainR; simp [foundR_none h]
theorem openF_writ {l : List DVersion} {id : Int} (h : id ≠ 0) : openF l id = decide (writF l = id) := by
  cases l with
  | nil => have h0 : ¬ (0 : Int) = id := fun e => h e.symm
           simp [openF, writF, h0]
  | cons v l =>
    simp only [openF, writF]
    by_cases h1 : v.at_ = 0
    · simp [h1]
    · have h0 : ¬ (0 : Int) = id := fun e => h e.symm
      simp [h1, h0]
theorem take_any_succ {l : List DUndo} {k : Int} {j : Nat} (hj : j < l.length) : ((l.take (j + 1)).any fun x => decide (x.key = k)) = (((l.take j).any fun x => decide (x.key = k)) || decide (l[j].key = k)) := by
  rw [List.take_succ_eq_append_getElem hj, List.any_append]; simp
set_option maxHeartbeats 8000000 in
theorem spec_l6Owns (H : HH) {r0 q0 r1 q1 r2 q2 ti} {x : DEngine} (hti : ti < x.txns.length) (hl : x.le 1048576) (hid : x.txns[ti].id_ ≠ 0) (hs : sortedR x.rows)
    (a0 : arrAt H r0 q0 = some (4, [eRow x r1 q1 r2 q2])) (a1 : arrAt H r1 q1 = some (5, x.txns.map DTxn.enc)) (a2 : arrAt H r2 q2 = some (2, x.rows.map DRow.enc)) :
    PFun Tryz.prog 138 [.c (.pt r0 q0 4 0 0), .c (.pt r1 q1 5 ti 0)] H (B (ownsF x.rows x.txns[ti])) := by
  have hsub := arrAt_sub a1 (i := ti) (f := 4) (row := x.txns[ti].enc) (by simp [hti]) rfl
  have hbu : x.txns[ti].undos.length ≤ 1048576 := hl.1.2 _ (List.getElem_mem hti)
  have hF : (∀ j, j < x.txns[ti].undos.length → ownI x.rows x.txns[ti].id_ x.txns[ti].undos j = true) → ownsF x.rows x.txns[ti] = true := fun h => by
    unfold ownsF; rw [List.all_eq_true]; intro j hj; exact h j (List.mem_range.1 hj)
  have hE : ∀ j, j < x.txns[ti].undos.length → ownI x.rows x.txns[ti].id_ x.txns[ti].undos j = false → ownsF x.rows x.txns[ti] = false := fun j hj h => by
    cases hw : ownsF x.rows x.txns[ti] with
    | false => rfl
    | true =>
      unfold ownsF at hw
      rw [List.all_eq_true] at hw
      have := hw j (List.mem_range.2 hj)
      rw [h] at this; exact absurd this (by simp)
  generalize ownsF x.rows x.txns[ti] = R at *
  generalize hu : x.txns[ti].undos = us at *
  generalize hd' : x.txns[ti].id_ = id at *
  refine PFun.of [0, 1, 4, 5, 6, 7, 8, 9, 16, 47, 50, 70] Tryz.func138 rfl (by simp [Tryz.f138]) ?_
  intro d hd0 hfr hcl hout
  have hcd : ∀ n q, CleanH (hit [((d, n), q)]) H := fun n q => hcl.at
  have a0_n : ∀ n, ¬ (d, n) = r0 := fun n => nm_ne (ne_of_arr hfr a0)
  have a0_d : ¬ r0.1 = d := ne_of_arr hfr a0
  have a0_m : ∀ n, ¬ r0 = (d, n) := fun n => nm_ne' (ne_of_arr hfr a0)
  have a1_n : ∀ n, ¬ (d, n) = r1 := fun n => nm_ne (ne_of_arr hfr a1)
  have a1_d : ¬ r1.1 = d := ne_of_arr hfr a1
  have a1_m : ∀ n, ¬ r1 = (d, n) := fun n => nm_ne' (ne_of_arr hfr a1)
  have a2_n : ∀ n, ¬ (d, n) = r2 := fun n => nm_ne (ne_of_arr hfr a2)
  have a2_d : ¬ r2.1 = d := ne_of_arr hfr a2
  have a2_m : ∀ n, ¬ r2 = (d, n) := fun n => nm_ne' (ne_of_arr hfr a2)
  simp (maxSteps := 4000000) [hd0, hfr, hout, hcl, hcd, delA_none, a0, a0_n, a0_d, a0_m, a1, a1_n, a1_d, a1_m, a2, a2_n, a2_d, a2_m, Tryz.f138]
  refine LoopK.intro (fun m s => ∃ i : Nat, i + m = us.length ∧ (∀ j, j < i → ownI x.rows id us j = true) ∧ s = ⟨[(0, .c (.pt r0 q0 4 0 0)), (1, .c (.pt r1 q1 5 ti 0)), (5, I i)], H, []⟩) (us.length + 1)
    (LK.intro us.length [0, 1, 5] [] (by omega) (by decide) (by simp (maxSteps := 4000000) [hd0, hfr, hout, hcl, hcd, delA_none, a0, a0_n, a0_d, a0_m, a1, a1_n, a1_d, a1_m, a2, a2_n, a2_d, a2_m]) ⟨0, by simp⟩) ?_
  rintro m s ⟨i, him, hinv, rfl⟩
  by_cases hi' : i < us.length
  case neg =>
    simp (maxSteps := 4000000) [hd0, hfr, hout, hcl, hcd, delA_none, a0, a0_n, a0_d, a0_m, a1, a1_n, a1_d, a1_m, a2, a2_n, a2_d, a2_m, hti, DTxn.enc, hu, eq_false (show ¬ (i : Int) < us.length by omega), hF (fun j hj => hinv j (by omega))]
  have w1 : IntKind.i64.wrap ((i : Int) + 1) = i + 1 := w64 (by omega) (by omega)
  have hO : ownI x.rows id us i = (openF (chainR x.rows us[i].key) id && ((us.take i).any (fun x => decide (x.key = us[i].key)) == us[i].had)) := by
    unfold ownI; rw [List.getElem?_eq_getElem hi']
  rw [openF_writ hid] at hO
  simp (maxSteps := 4000000) [hd0, hfr, hout, hcl, hcd, delA_none, a0, a0_n, a0_d, a0_m, a1, a1_n, a1_d, a1_m, a2, a2_n, a2_d, a2_m, hti, DTxn.enc, hu, hsub, hi', DUndo.enc, eq_true (show (i : Int) < us.length by omega)]
  refine (spec_l6Row _ (x := x) (r1 := r1) (q1 := q1) (r2 := r2) (q2 := q2) hl (by simp (maxSteps := 4000000) [hd0, hfr, hout, hcl, hcd, delA_none, a0, a0_n, a0_d, a0_m, a1, a1_n, a1_d, a1_m, a2, a2_n, a2_d, a2_m]) (by simp (maxSteps := 4000000) [hd0, hfr, hout, hcl, hcd, delA_none, a0, a0_n, a0_d, a0_m, a1, a1_n, a1_d, a1_m, a2, a2_n, a2_d, a2_m])).useCK ?_
  rcases ixF_some (p := fun t : DRow => decide (t.key = us[i].key)) (l := x.rows) (n := 0) with ⟨h2, h3⟩ | ⟨k, hk, h2, h3⟩
  · rw [h2]
    rw [chainR_none (by intro r hr; simpa using h3 r hr)] at hO
    have hR := hE i hi' (by rw [hO]; simp [writF, show ¬ (0 : Int) = id from fun e => hid e.symm])
    simp (maxSteps := 4000000) [hd0, hfr, hout, hcl, hcd, delA_none, a0, a0_n, a0_d, a0_m, a1, a1_n, a1_d, a1_m, a2, a2_n, a2_d, a2_m]
    refine DrawK.intro 18 [0, 1, 5, 6, 47] rfl (by kernel_rfl) (by decide) ?_
    simp (maxSteps := 4000000) [hd0, hfr, hout, hcl, hcd, delA_none, a0, a0_n, a0_d, a0_m, a1, a1_n, a1_d, a1_m, a2, a2_n, a2_d, a2_m, hR]
  simp only [decide_eq_true_eq] at h3
  rw [chainR_at hs hk h3] at hO
  rw [h2]
  have hsub2 := arrAt_sub a2 (i := k) (f := 1) (row := x.rows[k].enc) (by simp [hk]) rfl
  simp (maxSteps := 4000000) [hd0, hfr, hout, hcl, hcd, delA_none, a0, a0_n, a0_d, a0_m, a1, a1_n, a1_d, a1_m, a2, a2_n, a2_d, a2_m, Int.zero_add]
  refine DrawK.intro 18 [0, 1, 5, 6, 47] rfl (by kernel_rfl) (by decide) ?_
  simp (maxSteps := 4000000) [hd0, hfr, hout, hcl, hcd, delA_none, a0, a0_n, a0_d, a0_m, a1, a1_n, a1_d, a1_m, a2, a2_n, a2_d, a2_m, eRow, hk, DRow.enc, eq_false (show ¬ (k : Int) < 0 by omega), hti, DTxn.enc]
  refine ⟨_, spec_l5Writer _ (l := x.rows[k].chain) (by simp (maxSteps := 4000000) [hd0, hfr, hout, hcl, hcd, delA_none, a0, a0_n, a0_d, a0_m, a1, a1_n, a1_d, a1_m, a2, a2_n, a2_d, a2_m, hsub2]), ?_⟩
  by_cases e1 : writF x.rows[k].chain = id
  case neg =>
    have hR := hE i hi' (by rw [hO]; simp [e1])
    simp (maxSteps := 4000000) [hd0, hfr, hout, hcl, hcd, delA_none, a0, a0_n, a0_d, a0_m, a1, a1_n, a1_d, a1_m, a2, a2_n, a2_d, a2_m, eq_false e1, hR, hd', hti, DTxn.enc]
  simp (maxSteps := 4000000) [hd0, hfr, hout, hcl, hcd, delA_none, a0, a0_n, a0_d, a0_m, a1, a1_n, a1_d, a1_m, a2, a2_n, a2_d, a2_m, eq_true e1, hd', hti, DTxn.enc]
  refine LoopK.intro (fun m s => ∃ j : Nat, j + m = i ∧ s = ⟨[(0, .c (.pt r0 q0 4 0 0)), (1, .c (.pt r1 q1 5 ti 0)), (5, I i), (6, .c (.pt (d, 6) [] 4 0 0)), (8, B ((us.take j).any fun x => decide (x.key = us[i].key))), (9, I j)], ((d, 6), .own 4 [us[i].enc]) :: H, []⟩) (i + 1)
    (LK.intro i [0, 1, 5, 6, 8, 9] [] (by omega) (by decide) (by simp (maxSteps := 4000000) [hd0, hfr, hout, hcl, hcd, delA_none, a0, a0_n, a0_d, a0_m, a1, a1_n, a1_d, a1_m, a2, a2_n, a2_d, a2_m]) ⟨0, by simp [DUndo.enc]⟩) ?_
  rintro m2 s ⟨j, hjm, rfl⟩
  by_cases hj' : j < i
  · have w2 : IntKind.i64.wrap ((j : Int) + 1) = j + 1 := w64 (by omega) (by omega)
    have hju : j < us.length := by omega
    have hts := take_any_succ (k := us[i].key) hju
    simp (maxSteps := 4000000) [hd0, hfr, hout, hcl, hcd, delA_none, a0, a0_n, a0_d, a0_m, a1, a1_n, a1_d, a1_m, a2, a2_n, a2_d, a2_m, eq_true (show (j : Int) < (i : Int) by omega)]
    refine DrawK.intro 14 [0, 1, 5, 6, 9, 66] rfl (by kernel_rfl) (by decide) ?_
    generalize ((us.take j).any fun x => decide (x.key = us[i].key)) = b at *
    cases b
    · simp (maxSteps := 4000000) [hd0, hfr, hout, hcl, hcd, delA_none, a0, a0_n, a0_d, a0_m, a1, a1_n, a1_d, a1_m, a2, a2_n, a2_d, a2_m, hti, DTxn.enc, hu, hsub, hju, DUndo.enc, w2]
      refine LK.intro (m2 - 1) [0, 1, 5, 6, 8, 9] [] (by omega) (by decide) (by simp (maxSteps := 4000000) [hd0, hfr, hout, hcl, hcd, delA_none, a0, a0_n, a0_d, a0_m, a1, a1_n, a1_d, a1_m, a2, a2_n, a2_d, a2_m]) ⟨j + 1, by omega, by rw [hts]; simp⟩
    · simp (maxSteps := 4000000) [hd0, hfr, hout, hcl, hcd, delA_none, a0, a0_n, a0_d, a0_m, a1, a1_n, a1_d, a1_m, a2, a2_n, a2_d, a2_m, w2]
      refine LK.intro (m2 - 1) [0, 1, 5, 6, 8, 9] [] (by omega) (by decide) (by simp (maxSteps := 4000000) [hd0, hfr, hout, hcl, hcd, delA_none, a0, a0_n, a0_d, a0_m, a1, a1_n, a1_d, a1_m, a2, a2_n, a2_d, a2_m]) ⟨j + 1, by omega, by rw [hts]; simp⟩
  have hji : j = i := by omega
  subst hji
  rw [show decide (writF x.rows[k].chain = id) = true by simp [e1], Bool.true_and] at hO
  generalize ((us.take j).any fun x => decide (x.key = us[j].key)) = b at *
  have hx : b = us[j].had → ownI x.rows id us j = true := fun h => by rw [hO, h]; simp
  have hy : b ≠ us[j].had → R = false := fun h => hE j hi' (by rw [hO]; simpa using h)
  by_cases hb2 : us[j].had = b
  · simp (maxSteps := 4000000) [hd0, hfr, hout, hcl, hcd, delA_none, a0, a0_n, a0_d, a0_m, a1, a1_n, a1_d, a1_m, a2, a2_n, a2_d, a2_m, eq_false (show ¬ (j : Int) < (j : Int) by omega), DUndo.enc, hb2, w1]
    refine LK.intro (m - 1) [0, 1, 5] [6] (by omega) (by decide) (by simp (maxSteps := 4000000) [hd0, hfr, hout, hcl, hcd, delA_none, a0, a0_n, a0_d, a0_m, a1, a1_n, a1_d, a1_m, a2, a2_n, a2_d, a2_m]) ⟨j + 1, by omega, fun k hk => ?_, by simp⟩
    by_cases hkj : k = j
    · subst hkj; exact hx hb2.symm
    · exact hinv k (by omega)
  · simp (maxSteps := 4000000) [hd0, hfr, hout, hcl, hcd, delA_none, a0, a0_n, a0_d, a0_m, a1, a1_n, a1_d, a1_m, a2, a2_n, a2_d, a2_m, eq_false (show ¬ (j : Int) < (j : Int) by omega), DUndo.enc, eq_false hb2, eq_false (fun h => hb2 h.symm : ¬ b = us[j].had), hy (fun h => hb2 h.symm)]
end Go.Proofs.YtnlbjfdmjlnlgaaGreat


namespace Go.Proofs.YtnlbjfdmjlnlgaaGreat
open Go Go.Px Go.RowKit Go.Proofs
set_option linter.unnecessarySimpa false
set_option linter.unusedVariables false
set_option linter.unusedSimpArgs false
set_option maxRecDepth 100000
set_option maxHeartbeats 1000000
attribute [-simp] Int.not_le Int.not_lt
theorem chF_get : ∀ {l : List DVersion} {p}, chF p l = 0 → ∀ v ∈ l, vRange v = true
  | [], _, _ => by simp
  | v0 :: l, p, h => by
    simp only [chF] at h
    split at h
    · omega
    · rename_i h1
      split at h
      · omega
      · intro v hv
        rcases List.mem_cons.1 hv with rfl | hv
        · simpa using h1
        · exact chF_get h v hv
theorem chF_fall : ∀ {l : List DVersion} {b : Int}, chF (some b) l = 0 → b ≠ 0 → ∀ v ∈ l, v.at_ < b
  | [], _, _, _ => by simp
  | v0 :: l, b, h, hb => by
    simp only [chF] at h
    split at h
    · omega
    · split at h
      · omega
      · rename_i h2
        simp only [Bool.or_eq_true, Bool.and_eq_true, badP, decide_eq_true_eq, not_or, not_and] at h2
        have h3 : v0.at_ ≠ 0 := h2.2.1
        have h4 : v0.at_ < b := by have := h2.2.2 hb; omega
        intro v hv
        rcases List.mem_cons.1 hv with rfl | hv
        · exact h4
        · have := chF_fall h h3 v hv; omega
theorem chain_any {c : Int} {v0 v1 : DVersion} {l : List DVersion} (hc : 0 ≤ c) (h : chF none (v0 :: v1 :: l) = 0) :
    ((v0 :: v1 :: l).any fun v => decide (c < v.at_)) = (decide (c < v0.at_) || decide (c < v1.at_)) := by
  have hf : ∀ v ∈ l, v.at_ < v1.at_ := by
    simp only [chF] at h
    split at h
    · omega
    · split at h
      · omega
      · split at h
        · omega
        · split at h
          · omega
          · rename_i h2
            simp only [Bool.or_eq_true, Bool.and_eq_true, badP, decide_eq_true_eq, not_or, not_and] at h2
            exact chF_fall h h2.2.1
  rw [Bool.eq_iff_iff, List.any_eq_true]
  simp only [decide_eq_true_eq, Bool.or_eq_true]
  constructor
  · rintro ⟨v, hv, h1⟩
    rcases List.mem_cons.1 hv with rfl | hv
    · exact .inl h1
    · rcases List.mem_cons.1 hv with rfl | hv
      · exact .inr h1
      · have := hf v hv; exact .inr (by omega)
  · rintro (h1 | h1)
    · exact ⟨v0, by simp, h1⟩
    · exact ⟨v1, by simp, h1⟩
theorem chain_txn {l : List DVersion} (h : chainF l = 0) : ∀ v ∈ l, v.txn ≠ 0 := by
  unfold chainF at h
  split at h
  · omega
  · intro v hv
    have := chF_get h v hv
    unfold vRange inR at this
    simp only [Bool.and_eq_true, decide_eq_true_eq] at this
    omega
theorem chainF_chF {l : List DVersion} (h : chainF l = 0) : chF none l = 0 := by
  unfold chainF at h
  split at h
  · omega
  · exact h
set_option maxHeartbeats 8000000 in
theorem spec_l6Rows (H : HH) {r0 q0 r1 q1 r2 q2} {x : DEngine} (hc : 0 ≤ x.clock) (hl : x.le 1048576) (ht : txsF x.next x.clock none x.txns = 0)
    (a0 : arrAt H r0 q0 = some (4, [eRow x r1 q1 r2 q2])) (a1 : arrAt H r1 q1 = some (5, x.txns.map DTxn.enc)) (a2 : arrAt H r2 q2 = some (2, x.rows.map DRow.enc)) :
    PFun Tryz.prog 137 [.c (.pt r0 q0 4 0 0)] H (I (rowsF x.clock x.txns none x.rows)) := by
  have hl' := hl
  obtain ⟨⟨b1, b1p⟩, b2, b2p⟩ := hl'
  obtain ⟨R, hR⟩ : ∃ R, R = rowsF x.clock x.txns none x.rows := ⟨_, rfl⟩
  rw [← hR]
  refine PFun.of [0, 2, 3, 4, 5, 12, 26, 52, 59, 100] Tryz.func137 rfl (by simp [Tryz.f137]) ?_
  intro d hd0 hfr hcl hout
  have hcd : ∀ n q, CleanH (hit [((d, n), q)]) H := fun n q => hcl.at
  have a0_n : ∀ n, ¬ (d, n) = r0 := fun n => nm_ne (ne_of_arr hfr a0)
  have a0_d : ¬ r0.1 = d := ne_of_arr hfr a0
  have a0_m : ∀ n, ¬ r0 = (d, n) := fun n => nm_ne' (ne_of_arr hfr a0)
  have a1_n : ∀ n, ¬ (d, n) = r1 := fun n => nm_ne (ne_of_arr hfr a1)
  have a1_d : ¬ r1.1 = d := ne_of_arr hfr a1
  have a1_m : ∀ n, ¬ r1 = (d, n) := fun n => nm_ne' (ne_of_arr hfr a1)
  have a2_n : ∀ n, ¬ (d, n) = r2 := fun n => nm_ne (ne_of_arr hfr a2)
  have a2_d : ¬ r2.1 = d := ne_of_arr hfr a2
  have a2_m : ∀ n, ¬ r2 = (d, n) := fun n => nm_ne' (ne_of_arr hfr a2)
  simp (maxSteps := 4000000) [hd0, hfr, hout, hcl, hcd, delA_none, a0, a0_n, a0_d, a0_m, a1, a1_n, a1_d, a1_m, a2, a2_n, a2_d, a2_m, Tryz.f137]
  refine LoopK.intro (fun m s => ∃ i : Nat, i + m = x.rows.length ∧ rowsF x.clock x.txns (prv DRow.key x.rows i) (x.rows.drop i) = R ∧ s = ⟨[(0, .c (.pt r0 q0 4 0 0)), (3, I i)], H, []⟩) (x.rows.length + 1)
    (LK.intro x.rows.length [0, 3] [] (by omega) (by decide) (by simp (maxSteps := 4000000) [hd0, hfr, hout, hcl, hcd, delA_none, a0, a0_n, a0_d, a0_m, a1, a1_n, a1_d, a1_m, a2, a2_n, a2_d, a2_m]) ⟨0, by simp [prv, hR]⟩) ?_
  rintro m s ⟨i, him, hinv, rfl⟩
  by_cases hi' : i < x.rows.length
  case neg =>
    rw [List.drop_eq_nil_of_le (by omega)] at hinv
    simp only [rowsF] at hinv
    simp (maxSteps := 4000000) [hd0, hfr, hout, hcl, hcd, delA_none, a0, a0_n, a0_d, a0_m, a1, a1_n, a1_d, a1_m, a2, a2_n, a2_d, a2_m, eRow, eq_false (show ¬ (i : Int) < x.rows.length by omega), hinv.symm]
  rw [List.drop_eq_getElem_cons hi'] at hinv
  simp only [rowsF] at hinv
  have w1 : IntKind.i64.wrap ((i : Int) + 1) = i + 1 := w64 (by omega) (by omega)
  have w2 : i ≠ 0 → IntKind.i64.wrap ((i : Int) - 1) = (i - 1 : Nat) := fun h => by rw [w64 (by omega) (by omega)]; omega
  have hend := prv_succ (f := DRow.key) hi'
  have hbc := b2p _ (List.getElem_mem hi')
  have hsub := arrAt_sub a2 (i := i) (f := 1) (row := x.rows[i].enc) (by simp [hi']) rfl
  simp (maxSteps := 4000000) [hd0, hfr, hout, hcl, hcd, delA_none, a0, a0_n, a0_d, a0_m, a1, a1_n, a1_d, a1_m, a2, a2_n, a2_d, a2_m, eRow, eq_true (show (i : Int) < x.rows.length by omega), hi', DRow.enc]
  refine (spec_l1Key _ _).useCK ?_
  by_cases d1 : inR x.rows[i].key 0 31 = true
  case neg => simp only [Bool.not_eq_true] at d1; simp [d1] at hinv; simp (maxSteps := 4000000) [hd0, hfr, hout, hcl, hcd, delA_none, a0, a0_n, a0_d, a0_m, a1, a1_n, a1_d, a1_m, a2, a2_n, a2_d, a2_m, d1, hinv.symm]
  rw [d1, if_neg (by simp)] at hinv
  simp (maxSteps := 4000000) [hd0, hfr, hout, hcl, hcd, delA_none, a0, a0_n, a0_d, a0_m, a1, a1_n, a1_d, a1_m, a2, a2_n, a2_d, a2_m, d1]
  refine DrawK.intro 26 [0, 3, 4, 52] rfl (by kernel_rfl) (by decide) ?_
  have hone : (nab (prv DRow.key x.rows i) x.rows[i].key || decide (x.rows[i].chain.length = 0)) = true → R = 1 := fun h => by rw [if_pos h] at hinv; exact hinv.symm
  by_cases e0 : x.rows[i].chain.length = 0
  case pos =>
    have h1 := hone (by simp [e0])
    have e0' : x.rows[i].chain = [] := List.eq_nil_of_length_eq_zero e0
    by_cases hi0 : i = 0
    · simp (maxSteps := 4000000) [hd0, hfr, hout, hcl, hcd, delA_none, a0, a0_n, a0_d, a0_m, a1, a1_n, a1_d, a1_m, a2, a2_n, a2_d, a2_m, eq_false (show ¬ (0 : Int) < (i : Int) by omega), eq_false (show ¬ 0 < i by omega), eq_true hi0, hi', DRow.enc, e0', h1]
    · have h3 : i - 1 < x.rows.length := by omega
      by_cases h4 : x.rows[i].key ≤ x.rows[i-1].key
      · simp (maxSteps := 4000000) [hd0, hfr, hout, hcl, hcd, delA_none, a0, a0_n, a0_d, a0_m, a1, a1_n, a1_d, a1_m, a2, a2_n, a2_d, a2_m, eRow, eq_true (show (0 : Int) < (i : Int) by omega), eq_true (show 0 < i by omega), hi0, w2 hi0, h3, hi', DRow.enc, eq_true h4, e0', h1]
      · simp (maxSteps := 4000000) [hd0, hfr, hout, hcl, hcd, delA_none, a0, a0_n, a0_d, a0_m, a1, a1_n, a1_d, a1_m, a2, a2_n, a2_d, a2_m, eRow, eq_true (show (0 : Int) < (i : Int) by omega), eq_true (show 0 < i by omega), hi0, w2 hi0, h3, hi', DRow.enc, eq_false h4, e0', h1]
  have e0' : ¬ x.rows[i].chain = [] := fun h => e0 (by rw [h]; rfl)
  by_cases hi0 : i = 0
  case' pos =>
    have hnab : nab (prv DRow.key x.rows i) x.rows[i].key = false := by simp [hi0, prv, nab]
    simp (maxSteps := 4000000) [hd0, hfr, hout, hcl, hcd, delA_none, a0, a0_n, a0_d, a0_m, a1, a1_n, a1_d, a1_m, a2, a2_n, a2_d, a2_m, eq_false (show ¬ (0 : Int) < (i : Int) by omega), eq_false (show ¬ 0 < i by omega), eq_true hi0, hi', DRow.enc, eq_false e0']
  case' neg =>
    have h3 : i - 1 < x.rows.length := by omega
    have hp := prv_pos (f := DRow.key) hi0 h3
    by_cases h4 : x.rows[i].key ≤ x.rows[i-1].key
    case pos =>
      have h1 := hone (by simp [hp, nab, h4])
      simp (maxSteps := 4000000) [hd0, hfr, hout, hcl, hcd, delA_none, a0, a0_n, a0_d, a0_m, a1, a1_n, a1_d, a1_m, a2, a2_n, a2_d, a2_m, eRow, eq_true (show (0 : Int) < (i : Int) by omega), eq_true (show 0 < i by omega), hi0, w2 hi0, h3, hi', DRow.enc, eq_true h4, h1]
    have hnab : nab (prv DRow.key x.rows i) x.rows[i].key = false := by rw [hp]; simp [nab]; omega
    simp (maxSteps := 4000000) [hd0, hfr, hout, hcl, hcd, delA_none, a0, a0_n, a0_d, a0_m, a1, a1_n, a1_d, a1_m, a2, a2_n, a2_d, a2_m, eRow, eq_true (show (0 : Int) < (i : Int) by omega), eq_true (show 0 < i by omega), hi0, w2 hi0, h3, hi', DRow.enc, eq_false h4, eq_false e0']
  all_goals
    rw [if_neg (by simp [hnab, e0])] at hinv
    refine (spec_ChainFault _ hbc (by simp (maxSteps := 4000000) [hd0, hfr, hout, hcl, hcd, delA_none, a0, a0_n, a0_d, a0_m, a1, a1_n, a1_d, a1_m, a2, a2_n, a2_d, a2_m, hsub])).useCK ?_
    by_cases e1 : chainF x.rows[i].chain = 0
    case neg =>
      rw [if_pos e1] at hinv
      have hRne : ¬ R = 0 := by rw [← hinv]; exact e1
      simp (maxSteps := 4000000) [hd0, hfr, hout, hcl, hcd, delA_none, a0, a0_n, a0_d, a0_m, a1, a1_n, a1_d, a1_m, a2, a2_n, a2_d, a2_m, hinv, eq_false hRne]
    rw [if_neg (by simp [e1])] at hinv
    rw [e1]
    simp (maxSteps := 4000000) [hd0, hfr, hout, hcl, hcd, delA_none, a0, a0_n, a0_d, a0_m, a1, a1_n, a1_d, a1_m, a2, a2_n, a2_d, a2_m]
    refine DrawK.intro 40 [0, 3, 100] rfl (by kernel_rfl) (by decide) ?_
    have hone2 : ((x.rows[i].chain.any fun v => decide (x.clock < v.at_)) || !rowOpenF x.txns x.rows[i]) = true → R = 1 := fun h => by rw [if_pos h] at hinv; exact hinv.symm
    have hfin2 : (x.rows[i].chain.any fun v => decide (x.clock < v.at_)) = false → rowOpenF x.txns x.rows[i] = true → rowsF x.clock x.txns (some x.rows[i].key) (x.rows.drop (i + 1)) = R := fun h1 h2 => by rw [if_neg (by simp [h1, h2])] at hinv; exact hinv
    clear hinv
    have hO := fun H' h1 h2 h3 => spec_l6Open H' (x := x) (r0 := r0) (q0 := q0) (r1 := r1) (q1 := q1) (r2 := r2) (q2 := q2) hi' hl ht (chain_txn e1) h1 h2 h3
    generalize rowOpenF x.txns x.rows[i] = op at *
    have e2 := chainF_chF e1
    have h0l : 0 < x.rows[i].chain.length := by omega
    by_cases h1l : 1 < x.rows[i].chain.length
    case' pos =>
      obtain ⟨v0, v1, rest, hcf⟩ : ∃ v0 v1 rest, x.rows[i].chain = v0 :: v1 :: rest := by
        cases hcc : x.rows[i].chain with
        | nil => exact absurd hcc e0'
        | cons a l => cases l with
          | nil => rw [hcc] at h1l; simp at h1l
          | cons b l => exact ⟨a, b, l, rfl⟩
      have hg0 : x.rows[i].chain[0] = v0 := by simp [hcf]
      have hg1 : x.rows[i].chain[1] = v1 := by simp [hcf]
      have hany : (x.rows[i].chain.any fun v => decide (x.clock < v.at_)) = (decide (x.clock < v0.at_) || decide (x.clock < v1.at_)) := by rw [hcf] at e2 ⊢; exact chain_any hc e2
      rw [hany] at hone2 hfin2
      by_cases k0 : x.clock < v0.at_
      case pos =>
        have hR := hone2 (by simp [k0])
        simp (maxSteps := 4000000) [hd0, hfr, hout, hcl, hcd, delA_none, a0, a0_n, a0_d, a0_m, a1, a1_n, a1_d, a1_m, a2, a2_n, a2_d, a2_m, eRow, hi', DRow.enc, hsub, h0l, hg0, DVersion.enc, eq_true k0, hR]
      by_cases k1 : x.clock < v1.at_
      case pos =>
        have hR := hone2 (by simp [k1])
        simp (maxSteps := 4000000) [hd0, hfr, hout, hcl, hcd, delA_none, a0, a0_n, a0_d, a0_m, a1, a1_n, a1_d, a1_m, a2, a2_n, a2_d, a2_m, eRow, hi', DRow.enc, hsub, h0l, h1l, hg0, hg1, DVersion.enc, eq_false k0, eq_true (show (1 : Int) < (x.rows[i].chain.length : Int) by omega), eq_true k1, hR]
      simp (maxSteps := 4000000) [hd0, hfr, hout, hcl, hcd, delA_none, a0, a0_n, a0_d, a0_m, a1, a1_n, a1_d, a1_m, a2, a2_n, a2_d, a2_m, eRow, hi', DRow.enc, hsub, h0l, h1l, hg0, hg1, DVersion.enc, eq_false k0, eq_true (show (1 : Int) < (x.rows[i].chain.length : Int) by omega), eq_false k1]
    case' neg =>
      obtain ⟨v0, hcf⟩ : ∃ v0, x.rows[i].chain = [v0] := by
        cases hcc : x.rows[i].chain with
        | nil => exact absurd hcc e0'
        | cons a l => cases l with
          | nil => exact ⟨a, rfl⟩
          | cons b l => rw [hcc] at h1l; simp at h1l
      have hg0 : x.rows[i].chain[0] = v0 := by simp [hcf]
      have hany : (x.rows[i].chain.any fun v => decide (x.clock < v.at_)) = decide (x.clock < v0.at_) := by rw [hcf]; simp
      rw [hany] at hone2 hfin2
      by_cases k0 : x.clock < v0.at_
      case pos =>
        have hR := hone2 (by simp [k0])
        simp (maxSteps := 4000000) [hd0, hfr, hout, hcl, hcd, delA_none, a0, a0_n, a0_d, a0_m, a1, a1_n, a1_d, a1_m, a2, a2_n, a2_d, a2_m, eRow, hi', DRow.enc, hsub, h0l, hg0, DVersion.enc, eq_true k0, hR]
      have k1 := k0
      simp (maxSteps := 4000000) [hd0, hfr, hout, hcl, hcd, delA_none, a0, a0_n, a0_d, a0_m, a1, a1_n, a1_d, a1_m, a2, a2_n, a2_d, a2_m, eRow, hi', DRow.enc, hsub, h0l, hg0, DVersion.enc, eq_false k0, eq_false (show ¬ (1 : Int) < (x.rows[i].chain.length : Int) by omega)]
    all_goals
      refine ⟨_, hO _ (by simp (maxSteps := 4000000) [hd0, hfr, hout, hcl, hcd, delA_none, a0, a0_n, a0_d, a0_m, a1, a1_n, a1_d, a1_m, a2, a2_n, a2_d, a2_m]) (by simp (maxSteps := 4000000) [hd0, hfr, hout, hcl, hcd, delA_none, a0, a0_n, a0_d, a0_m, a1, a1_n, a1_d, a1_m, a2, a2_n, a2_d, a2_m]) (by simp (maxSteps := 4000000) [hd0, hfr, hout, hcl, hcd, delA_none, a0, a0_n, a0_d, a0_m, a1, a1_n, a1_d, a1_m, a2, a2_n, a2_d, a2_m]), ?_⟩
      cases op
      · have hR := hone2 (by simp)
        simp (maxSteps := 4000000) [hd0, hfr, hout, hcl, hcd, delA_none, a0, a0_n, a0_d, a0_m, a1, a1_n, a1_d, a1_m, a2, a2_n, a2_d, a2_m, hR]
      · have hf := hfin2 (by simp [k0, k1]) rfl
        simp (maxSteps := 4000000) [hd0, hfr, hout, hcl, hcd, delA_none, a0, a0_n, a0_d, a0_m, a1, a1_n, a1_d, a1_m, a2, a2_n, a2_d, a2_m, w1]
        refine LK.intro (m - 1) [0, 3] [] (by omega) (by decide) (by simp (maxSteps := 4000000) [hd0, hfr, hout, hcl, hcd, delA_none, a0, a0_n, a0_d, a0_m, a1, a1_n, a1_d, a1_m, a2, a2_n, a2_d, a2_m]) ⟨i + 1, by omega, by rw [hend]; exact hf, by simp⟩
end Go.Proofs.YtnlbjfdmjlnlgaaGreat


namespace Go.Proofs.YtnlbjfdmjlnlgaaGreat
open Go Go.Px Go.RowKit Go.Proofs
set_option linter.unnecessarySimpa false
set_option linter.unusedVariables false
set_option linter.unusedSimpArgs false
set_option maxRecDepth 100000
set_option maxHeartbeats 1000000
attribute [-simp] Int.not_le Int.not_lt
set_option maxHeartbeats 8000000 in
theorem spec_l6Fault (H : HH) {r0 q0 r1 q1 r2 q2} {x : DEngine} (hl : x.le 1048576)
    (a0 : arrAt H r0 q0 = some (4, [eRow x r1 q1 r2 q2])) (a1 : arrAt H r1 q1 = some (5, x.txns.map DTxn.enc)) (a2 : arrAt H r2 q2 = some (2, x.rows.map DRow.enc)) :
    PFun Tryz.prog 70 [.c (.pt r0 q0 4 0 0)] H (I (engF x)) := by
  obtain ⟨⟨b1, b1p⟩, b2, b2p⟩ := id hl
  refine PFun.of [0, 2, 3, 4, 5, 19, 33, 37, 42, 50, 61] Tryz.func70 rfl (by simp [Tryz.f70]) ?_
  intro d hd0 hfr hcl hout
  have hcd : ∀ n q, CleanH (hit [((d, n), q)]) H := fun n q => hcl.at
  have a0_n : ∀ n, ¬ (d, n) = r0 := fun n => nm_ne (ne_of_arr hfr a0)
  have a0_d : ¬ r0.1 = d := ne_of_arr hfr a0
  have a0_m : ∀ n, ¬ r0 = (d, n) := fun n => nm_ne' (ne_of_arr hfr a0)
  have a1_n : ∀ n, ¬ (d, n) = r1 := fun n => nm_ne (ne_of_arr hfr a1)
  have a1_d : ¬ r1.1 = d := ne_of_arr hfr a1
  have a1_m : ∀ n, ¬ r1 = (d, n) := fun n => nm_ne' (ne_of_arr hfr a1)
  have a2_n : ∀ n, ¬ (d, n) = r2 := fun n => nm_ne (ne_of_arr hfr a2)
  have a2_d : ¬ r2.1 = d := ne_of_arr hfr a2
  have a2_m : ∀ n, ¬ r2 = (d, n) := fun n => nm_ne' (ne_of_arr hfr a2)
  simp (maxSteps := 4000000) [hd0, hfr, hout, hcl, hcd, delA_none, a0, a0_n, a0_d, a0_m, a1, a1_n, a1_d, a1_m, a2, a2_n, a2_d, a2_m, Tryz.f70]
  simp (maxSteps := 4000000) [hd0, hfr, hout, hcl, hcd, delA_none, a0, a0_n, a0_d, a0_m, a1, a1_n, a1_d, a1_m, a2, a2_n, a2_d, a2_m, eRow]
  refine (spec_l5Txn _ _).useCK ?_
  by_cases c1 : inR x.next 1 999 = true
  case neg => simp only [Bool.not_eq_true] at c1; simp (maxSteps := 4000000) [hd0, hfr, hout, hcl, hcd, delA_none, a0, a0_n, a0_d, a0_m, a1, a1_n, a1_d, a1_m, a2, a2_n, a2_d, a2_m, c1, engF]
  simp (maxSteps := 4000000) [hd0, hfr, hout, hcl, hcd, delA_none, a0, a0_n, a0_d, a0_m, a1, a1_n, a1_d, a1_m, a2, a2_n, a2_d, a2_m, c1, eRow]
  refine (spec_l1In _ _ _ _).useCK ?_
  by_cases c2 : inR x.clock 0 1000000 = true
  case neg => simp only [Bool.not_eq_true] at c2; simp (maxSteps := 4000000) [hd0, hfr, hout, hcl, hcd, delA_none, a0, a0_n, a0_d, a0_m, a1, a1_n, a1_d, a1_m, a2, a2_n, a2_d, a2_m, c1, c2, engF]
  by_cases g1 : 20 < x.txns.length
  case pos => simp (maxSteps := 4000000) [hd0, hfr, hout, hcl, hcd, delA_none, a0, a0_n, a0_d, a0_m, a1, a1_n, a1_d, a1_m, a2, a2_n, a2_d, a2_m, eRow, eq_true (show 20 < (x.txns.length : Int) by omega), c1, c2, eq_true g1, engF]
  by_cases g2 : 32 < x.rows.length
  case pos => simp (maxSteps := 4000000) [hd0, hfr, hout, hcl, hcd, delA_none, a0, a0_n, a0_d, a0_m, a1, a1_n, a1_d, a1_m, a2, a2_n, a2_d, a2_m, eRow, eq_false (show ¬ 20 < (x.txns.length : Int) by omega), eq_true (show 32 < (x.rows.length : Int) by omega), c1, c2, eq_true g2, engF]
  have hF : engF x = if txsF x.next x.clock none x.txns ≠ 0 then txsF x.next x.clock none x.txns
      else if rowsF x.clock x.txns none x.rows ≠ 0 then rowsF x.clock x.txns none x.rows
      else if (x.txns.all fun t => ownsF x.rows t) = false then 1 else 0 := by
    conv => lhs; unfold engF
    rw [if_neg (by simp [c1, c2]), if_neg (by omega)]
  generalize engF x = R at *
  have hnx : 1 ≤ x.next ∧ x.next ≤ 999 := by simpa [inR] using c1
  have hck : 0 ≤ x.clock ∧ x.clock ≤ 1000000 := by simpa [inR] using c2
  have hT1 := fun H' h1 h2 => spec_l6Txns H' (r0 := r0) (q0 := q0) (r1 := r1) (q1 := q1) (r2 := r2) (q2 := q2) hnx hl h1 h2
  have hR1 := fun ht H' h1 h2 h3 => spec_l6Rows H' (r0 := r0) (q0 := q0) (r1 := r1) (q1 := q1) (r2 := r2) (q2 := q2) hck.1 hl ht h1 h2 h3
  simp (maxSteps := 4000000) [hd0, hfr, hout, hcl, hcd, delA_none, a0, a0_n, a0_d, a0_m, a1, a1_n, a1_d, a1_m, a2, a2_n, a2_d, a2_m, eRow, c2, eq_false (show ¬ 20 < (x.txns.length : Int) by omega), eq_false (show ¬ 32 < (x.rows.length : Int) by omega)]
  refine (hT1 _ (by simp (maxSteps := 4000000) [hd0, hfr, hout, hcl, hcd, delA_none, a0, a0_n, a0_d, a0_m, a1, a1_n, a1_d, a1_m, a2, a2_n, a2_d, a2_m]) (by simp (maxSteps := 4000000) [hd0, hfr, hout, hcl, hcd, delA_none, a0, a0_n, a0_d, a0_m, a1, a1_n, a1_d, a1_m, a2, a2_n, a2_d, a2_m])).useCK ?_
  by_cases c3 : txsF x.next x.clock none x.txns = 0
  case neg =>
    rw [if_pos c3] at hF
    have hRne : ¬ R = 0 := by rw [hF]; exact c3
    simp (maxSteps := 4000000) [hd0, hfr, hout, hcl, hcd, delA_none, a0, a0_n, a0_d, a0_m, a1, a1_n, a1_d, a1_m, a2, a2_n, a2_d, a2_m, ← hF, eq_false hRne]
  rw [if_neg (by simp [c3])] at hF
  rw [c3]
  simp (maxSteps := 4000000) [hd0, hfr, hout, hcl, hcd, delA_none, a0, a0_n, a0_d, a0_m, a1, a1_n, a1_d, a1_m, a2, a2_n, a2_d, a2_m]
  refine (hR1 c3 _ (by simp (maxSteps := 4000000) [hd0, hfr, hout, hcl, hcd, delA_none, a0, a0_n, a0_d, a0_m, a1, a1_n, a1_d, a1_m, a2, a2_n, a2_d, a2_m]) (by simp (maxSteps := 4000000) [hd0, hfr, hout, hcl, hcd, delA_none, a0, a0_n, a0_d, a0_m, a1, a1_n, a1_d, a1_m, a2, a2_n, a2_d, a2_m]) (by simp (maxSteps := 4000000) [hd0, hfr, hout, hcl, hcd, delA_none, a0, a0_n, a0_d, a0_m, a1, a1_n, a1_d, a1_m, a2, a2_n, a2_d, a2_m])).useCK ?_
  by_cases c4 : rowsF x.clock x.txns none x.rows = 0
  case neg =>
    rw [if_pos c4] at hF
    have hRne : ¬ R = 0 := by rw [hF]; exact c4
    simp (maxSteps := 4000000) [hd0, hfr, hout, hcl, hcd, delA_none, a0, a0_n, a0_d, a0_m, a1, a1_n, a1_d, a1_m, a2, a2_n, a2_d, a2_m, ← hF, eq_false hRne]
  rw [if_neg (by simp [c4])] at hF
  rw [c4]
  have hO1 := fun H' ti hti h1 h2 h3 => spec_l6Owns H' (ti := ti) (r0 := r0) (q0 := q0) (r1 := r1) (q1 := q1) (r2 := r2) (q2 := q2) hti hl (by have := (txsF_rise c3).2.1 _ (List.getElem_mem hti); omega) (rowsF_sorted c4).2.1 h1 h2 h3
  clear hT1 hR1
  simp (maxSteps := 4000000) [hd0, hfr, hout, hcl, hcd, delA_none, a0, a0_n, a0_d, a0_m, a1, a1_n, a1_d, a1_m, a2, a2_n, a2_d, a2_m]
  refine LoopK.intro (fun m s => ∃ i : Nat, i + m = x.txns.length ∧ (∀ j (hj : j < x.txns.length), j < i → ownsF x.rows x.txns[j] = true) ∧ s = ⟨[(0, .c (.pt r0 q0 4 0 0)), (5, I i)], H, []⟩) (x.txns.length + 1)
    (LK.intro x.txns.length [0, 5] [] (by omega) (by decide) (by simp (maxSteps := 4000000) [hd0, hfr, hout, hcl, hcd, delA_none, a0, a0_n, a0_d, a0_m, a1, a1_n, a1_d, a1_m, a2, a2_n, a2_d, a2_m]) ⟨0, by simp⟩) ?_
  rintro m s ⟨i, him, hinv, rfl⟩
  by_cases hi' : i < x.txns.length
  case neg =>
    have hR0 : R = 0 := by
      rw [hF, if_neg]
      simp only [Bool.not_eq_false, List.all_eq_true]
      intro t ht
      obtain ⟨j, hj, rfl⟩ := List.getElem_of_mem ht
      exact hinv j hj (by omega)
    simp (maxSteps := 4000000) [hd0, hfr, hout, hcl, hcd, delA_none, a0, a0_n, a0_d, a0_m, a1, a1_n, a1_d, a1_m, a2, a2_n, a2_d, a2_m, eRow, eq_false (show ¬ (i : Int) < x.txns.length by omega), hR0]
  have w1 : IntKind.i64.wrap ((i : Int) + 1) = i + 1 := w64 (by omega) (by omega)
  simp (maxSteps := 4000000) [hd0, hfr, hout, hcl, hcd, delA_none, a0, a0_n, a0_d, a0_m, a1, a1_n, a1_d, a1_m, a2, a2_n, a2_d, a2_m, eRow, eq_true (show (i : Int) < x.txns.length by omega), hi']
  refine (hO1 _ i hi' (by simp (maxSteps := 4000000) [hd0, hfr, hout, hcl, hcd, delA_none, a0, a0_n, a0_d, a0_m, a1, a1_n, a1_d, a1_m, a2, a2_n, a2_d, a2_m]) (by simp (maxSteps := 4000000) [hd0, hfr, hout, hcl, hcd, delA_none, a0, a0_n, a0_d, a0_m, a1, a1_n, a1_d, a1_m, a2, a2_n, a2_d, a2_m]) (by simp (maxSteps := 4000000) [hd0, hfr, hout, hcl, hcd, delA_none, a0, a0_n, a0_d, a0_m, a1, a1_n, a1_d, a1_m, a2, a2_n, a2_d, a2_m])).useCK ?_
  cases ho : ownsF x.rows x.txns[i]
  · have hR0 : R = 1 := by
      rw [hF, if_pos]
      rw [List.all_eq_false]
      exact ⟨x.txns[i], List.getElem_mem hi', by simp [ho]⟩
    simp (maxSteps := 4000000) [hd0, hfr, hout, hcl, hcd, delA_none, a0, a0_n, a0_d, a0_m, a1, a1_n, a1_d, a1_m, a2, a2_n, a2_d, a2_m, hR0]
  · simp (maxSteps := 4000000) [hd0, hfr, hout, hcl, hcd, delA_none, a0, a0_n, a0_d, a0_m, a1, a1_n, a1_d, a1_m, a2, a2_n, a2_d, a2_m, w1]
    refine LK.intro (m - 1) [0, 5] [] (by omega) (by decide) (by simp (maxSteps := 4000000) [hd0, hfr, hout, hcl, hcd, delA_none, a0, a0_n, a0_d, a0_m, a1, a1_n, a1_d, a1_m, a2, a2_n, a2_d, a2_m]) ⟨i + 1, by omega, fun j hj h => ?_, by simp⟩
    by_cases hji : j = i
    · subst hji; exact ho
    · exact hinv j hj (by omega)
end Go.Proofs.YtnlbjfdmjlnlgaaGreat


namespace Go.Proofs.YtnlbjfdmjlnlgaaGreat
open Go Go.Px Go.RowKit Go.Proofs
set_option linter.unnecessarySimpa false
set_option linter.unusedVariables false
set_option linter.unusedSimpArgs false
set_option maxRecDepth 100000
set_option maxHeartbeats 1000000
attribute [-simp] Int.not_le Int.not_lt
theorem Undo_clean {l : List DUndo} : ∀ K, CleanRows K (l.map DUndo.enc) := by intro K; simp [DUndo.enc, Clean.v]
theorem Version_clean {l : List DVersion} : ∀ K, CleanRows K (l.map DVersion.enc) := by intro K; simp [DVersion.enc, Clean.v]
theorem slices_Clone_Undo (H : HH) {r q n} {l : List DUndo} (hb : l.length ≤ 1048576) (hn : n = l.length) (ha : arrAt H r q = some (4, l.map DUndo.enc)) : PFun Tryz.prog 173 [.c (.sl r q 4 0 n)] H (.c (.own 4 (l.map DUndo.enc))) := by
  subst hn
  refine PFun.of [0, 2, 4] Tryz.func173 rfl (by simp [Tryz.f173]) ?_
  intro d hd0 hfr hcl hout
  have hcd : ∀ n q, CleanH (hit [((d, n), q)]) H := fun n q => hcl.at
  have ha_n : ∀ n, ¬ (d, n) = r := fun n => nm_ne (ne_of_arr hfr ha)
  have ha_d : ¬ r.1 = d := ne_of_arr hfr ha
  have ha_m : ∀ n, ¬ r = (d, n) := fun n => nm_ne' (ne_of_arr hfr ha)
  simp (maxSteps := 4000000) [hd0, hfr, hout, hcl, hcd, delA_none, ha, ha_n, ha_d, ha_m, Tryz.f173]
  simp (maxSteps := 4000000) [hd0, hfr, hout, hcl, hcd, delA_none, ha, ha_n, ha_d, ha_m, DUndo.enc]
  omega
theorem slices_Clone_Version (H : HH) {r q n} {l : List DVersion} (hb : l.length ≤ 1048576) (hn : n = l.length) (ha : arrAt H r q = some (4, l.map DVersion.enc)) : PFun Tryz.prog 127 [.c (.sl r q 4 0 n)] H (.c (.own 4 (l.map DVersion.enc))) := by
  subst hn
  refine PFun.of [0, 2, 4] Tryz.func127 rfl (by simp [Tryz.f127]) ?_
  intro d hd0 hfr hcl hout
  have hcd : ∀ n q, CleanH (hit [((d, n), q)]) H := fun n q => hcl.at
  have ha_n : ∀ n, ¬ (d, n) = r := fun n => nm_ne (ne_of_arr hfr ha)
  have ha_d : ¬ r.1 = d := ne_of_arr hfr ha
  have ha_m : ∀ n, ¬ r = (d, n) := fun n => nm_ne' (ne_of_arr hfr ha)
  simp (maxSteps := 4000000) [hd0, hfr, hout, hcl, hcd, delA_none, ha, ha_n, ha_d, ha_m, Tryz.f127]
  simp (maxSteps := 4000000) [hd0, hfr, hout, hcl, hcd, delA_none, ha, ha_n, ha_d, ha_m, DVersion.enc]
  omega
theorem spec_l5Copy (H : HH) {r q n} {l : List DVersion} (hb : l.length ≤ 1048576) (hn : n = l.length) (ha : arrAt H r q = some (4, l.map DVersion.enc)) : PFun Tryz.prog 119 [.c (.sl r q 4 0 n)] H (.c (.own 4 (l.map DVersion.enc))) := by
  subst hn
  refine PFun.of [0, 2] Tryz.func119 rfl (by simp [Tryz.f119]) ?_
  intro d hd0 hfr hcl hout
  have hcd : ∀ n q, CleanH (hit [((d, n), q)]) H := fun n q => hcl.at
  have ha_n : ∀ n, ¬ (d, n) = r := fun n => nm_ne (ne_of_arr hfr ha)
  have ha_d : ¬ r.1 = d := ne_of_arr hfr ha
  have ha_m : ∀ n, ¬ r = (d, n) := fun n => nm_ne' (ne_of_arr hfr ha)
  simp (maxSteps := 4000000) [hd0, hfr, hout, hcl, hcd, delA_none, ha, ha_n, ha_d, ha_m, Tryz.f119]
  simp (maxSteps := 4000000) [hd0, hfr, hout, hcl, hcd, delA_none, ha, ha_n, ha_d, ha_m, DVersion.enc]
  omega
set_option maxHeartbeats 4000000 in
theorem impl_Engine_copied (H : HH) {r1 q1 r2 q2} {x : DEngine} (hl : x.le 1048576) (a1 : arrAt H r1 q1 = some (5, x.txns.map DTxn.enc)) (a2 : arrAt H r2 q2 = some (2, x.rows.map DRow.enc)) :
    PFun Tryz.prog 124 [.a (eRow x r1 q1 r2 q2)] H (.a x.enc) := by
  obtain ⟨⟨b1, b1p⟩, b2, b2p⟩ := hl
  refine PFun.of [1, 2, 3, 5, 7, 14, 15, 16, 17, 32, 33, 34, 35] Tryz.func124 rfl (by simp [Tryz.f124]) ?_
  intro d hd0 hfr hcl hout
  have hcd : ∀ n q, CleanH (hit [((d, n), q)]) H := fun n q => hcl.at
  have a1_n : ∀ n, ¬ (d, n) = r1 := fun n => nm_ne (ne_of_arr hfr a1)
  have a1_d : ¬ r1.1 = d := ne_of_arr hfr a1
  have a1_m : ∀ n, ¬ r1 = (d, n) := fun n => nm_ne' (ne_of_arr hfr a1)
  have a2_n : ∀ n, ¬ (d, n) = r2 := fun n => nm_ne (ne_of_arr hfr a2)
  have a2_d : ¬ r2.1 = d := ne_of_arr hfr a2
  have a2_m : ∀ n, ¬ r2 = (d, n) := fun n => nm_ne' (ne_of_arr hfr a2)
  simp (maxSteps := 4000000) [hd0, hfr, hout, hcl, hcd, delA_none, a1, a1_n, a1_d, a1_m, a2, a2_n, a2_d, a2_m, Tryz.f124, eRow]
  refine LoopK.intro (fun m s => ∃ i : Nat, i + m = x.txns.length ∧ s = ⟨[(1, .c (.pt (d, 1) [] 4 0 0)), (2, .c (.pt (d, 2) [] 4 0 0)), (3, .c (.pt (d, 3) [] 4 0 0)), (14, .c (.sl r1 q1 5 0 x.txns.length)), (15, I x.txns.length), (16, I i)],
      ((d, 3), .own 4 [[.v (.int .i64 x.next), .v (.int .i64 x.clock), .own 5 ((x.txns.take i).map DTxn.enc), .own 2 []]]) :: ((d, 2), .own 4 [[.v (.int .i64 0), .v (.int .i64 0), .own 5 [], .own 2 []]]) :: ((d, 1), .own 4 [[.v (.int .i64 x.next), .v (.int .i64 x.clock), .sl r1 q1 5 0 x.txns.length, .sl r2 q2 2 0 x.rows.length]]) :: H, []⟩) (x.txns.length + 1)
    (LK.intro x.txns.length [1, 2, 3, 14, 15, 16] [] (by omega) (by decide) (by simp (maxSteps := 4000000) [hd0, hfr, hout, hcl, hcd, delA_none, a1, a1_n, a1_d, a1_m, a2, a2_n, a2_d, a2_m]) ⟨0, by simp⟩) ?_
  rintro m s ⟨i, him, rfl⟩
  by_cases hi' : i < x.txns.length
  · have w1 : IntKind.i64.wrap ((i : Int) + 1) = i + 1 := w64 (by omega) (by omega)
    have hpl : x.txns[i].undos.length ≤ 1048576 := b1p _ (List.getElem_mem hi')
    have hsub := arrAt_sub a1 (i := i) (f := 4) (row := x.txns[i].enc) (by simp [hi']) rfl
    have hn := take_next (f := DTxn.enc) hi'
    simp only [DTxn.enc] at hn
    simp (maxSteps := 4000000) [hd0, hfr, hout, hcl, hcd, delA_none, a1, a1_n, a1_d, a1_m, a2, a2_n, a2_d, a2_m, eq_true (show (i : Int) < x.txns.length by omega), hi', DTxn.enc]
    refine (slices_Clone_Undo _ hpl rfl (by simp (maxSteps := 4000000) [hd0, hfr, hout, hcl, hcd, delA_none, a1, a1_n, a1_d, a1_m, a2, a2_n, a2_d, a2_m, hsub])).useCK ?_
    simp (maxSteps := 4000000) [hd0, hfr, hout, hcl, hcd, delA_none, a1, a1_n, a1_d, a1_m, a2, a2_n, a2_d, a2_m, DTxn.enc, Undo_clean, w1]
    refine ⟨by omega, ?_⟩
    refine LK.intro (m - 1) [1, 2, 3, 14, 15, 16] [5] (by omega) (by decide) (by simp (maxSteps := 4000000) [hd0, hfr, hout, hcl, hcd, delA_none, a1, a1_n, a1_d, a1_m, a2, a2_n, a2_d, a2_m, DTxn.enc]) ⟨i + 1, by omega, by simp [DTxn.enc, hn]⟩
  simp (maxSteps := 4000000) [hd0, hfr, hout, hcl, hcd, delA_none, a1, a1_n, a1_d, a1_m, a2, a2_n, a2_d, a2_m, eq_false (show ¬ (i : Int) < x.txns.length by omega)]
  refine LoopK.intro (fun m s => ∃ i : Nat, i + m = x.rows.length ∧ s = ⟨[(2, .c (.pt (d, 2) [] 4 0 0)), (3, .c (.pt (d, 3) [] 4 0 0)), (32, .c (.sl r2 q2 2 0 x.rows.length)), (33, I x.rows.length), (34, I i)],
      ((d, 3), .own 4 [[.v (.int .i64 x.next), .v (.int .i64 x.clock), .own 5 (x.txns.map DTxn.enc), .own 2 ((x.rows.take i).map DRow.enc)]]) :: ((d, 2), .own 4 [[.v (.int .i64 0), .v (.int .i64 0), .own 5 [], .own 2 []]]) :: H, []⟩) (x.rows.length + 1)
    (LK.intro x.rows.length [2, 3, 32, 33, 34] [1] (by omega) (by decide) (by simp (maxSteps := 4000000) [hd0, hfr, hout, hcl, hcd, delA_none, a1, a1_n, a1_d, a1_m, a2, a2_n, a2_d, a2_m]) ⟨0, by simp [List.take_of_length_le (show (x.txns.map DTxn.enc).length ≤ i by simp; omega)]⟩) ?_
  clear him hi' m i
  rintro m s ⟨i, him, rfl⟩
  by_cases hi' : i < x.rows.length
  · have w1 : IntKind.i64.wrap ((i : Int) + 1) = i + 1 := w64 (by omega) (by omega)
    have hpl : x.rows[i].chain.length ≤ 1048576 := b2p _ (List.getElem_mem hi')
    have hsub := arrAt_sub a2 (i := i) (f := 1) (row := x.rows[i].enc) (by simp [hi']) rfl
    have hn := take_next (f := DRow.enc) hi'
    simp only [DRow.enc] at hn
    simp (maxSteps := 4000000) [hd0, hfr, hout, hcl, hcd, delA_none, a1, a1_n, a1_d, a1_m, a2, a2_n, a2_d, a2_m, eq_true (show (i : Int) < x.rows.length by omega), hi', DRow.enc]
    refine DrawK.intro 9 [2, 3, 32, 33, 34, 39, 46] rfl (by kernel_rfl) (by decide) ?_
    simp (maxSteps := 4000000) [hd0, hfr, hout, hcl, hcd, delA_none, a1, a1_n, a1_d, a1_m, a2, a2_n, a2_d, a2_m]
    refine ⟨_, slices_Clone_Version _ hpl rfl (by simp (maxSteps := 4000000) [hd0, hfr, hout, hcl, hcd, delA_none, a1, a1_n, a1_d, a1_m, a2, a2_n, a2_d, a2_m, hsub]), ?_⟩
    simp (maxSteps := 4000000) [hd0, hfr, hout, hcl, hcd, delA_none, a1, a1_n, a1_d, a1_m, a2, a2_n, a2_d, a2_m, DRow.enc, Version_clean, w1]
    refine ⟨by kernel_rfl, by kernel_rfl, by omega, ?_⟩
    refine LK.intro (m - 1) [2, 3, 32, 33, 34] [7] (by omega) (by decide) (by simp (maxSteps := 4000000) [hd0, hfr, hout, hcl, hcd, delA_none, a1, a1_n, a1_d, a1_m, a2, a2_n, a2_d, a2_m, DRow.enc]) ⟨i + 1, by omega, by simp [DRow.enc, hn]⟩
  simp (maxSteps := 4000000) [hd0, hfr, hout, hcl, hcd, delA_none, a1, a1_n, a1_d, a1_m, a2, a2_n, a2_d, a2_m, DEngine.enc, eq_false (show ¬ (i : Int) < x.rows.length by omega), List.take_of_length_le (show (x.rows.map DRow.enc).length ≤ i by simp; omega)]
set_option maxHeartbeats 4000000 in
theorem spec_l6Copy (H : HH) {r1 q1 r2 q2} {x : DEngine} (hl : x.le 1048576) (a1 : arrAt H r1 q1 = some (5, x.txns.map DTxn.enc)) (a2 : arrAt H r2 q2 = some (2, x.rows.map DRow.enc)) :
    PFun Tryz.prog 54 [.a (eRow x r1 q1 r2 q2)] H (.a x.enc) := by
  obtain ⟨⟨b1, b1p⟩, b2, b2p⟩ := hl
  refine PFun.of [1, 2, 3, 4, 5, 6, 16, 39] Tryz.func54 rfl (by simp [Tryz.f54]) ?_
  intro d hd0 hfr hcl hout
  have hcd : ∀ n q, CleanH (hit [((d, n), q)]) H := fun n q => hcl.at
  have a1_n : ∀ n, ¬ (d, n) = r1 := fun n => nm_ne (ne_of_arr hfr a1)
  have a1_d : ¬ r1.1 = d := ne_of_arr hfr a1
  have a1_m : ∀ n, ¬ r1 = (d, n) := fun n => nm_ne' (ne_of_arr hfr a1)
  have a2_n : ∀ n, ¬ (d, n) = r2 := fun n => nm_ne (ne_of_arr hfr a2)
  have a2_d : ¬ r2.1 = d := ne_of_arr hfr a2
  have a2_m : ∀ n, ¬ r2 = (d, n) := fun n => nm_ne' (ne_of_arr hfr a2)
  simp (maxSteps := 4000000) [hd0, hfr, hout, hcl, hcd, delA_none, a1, a1_n, a1_d, a1_m, a2, a2_n, a2_d, a2_m, Tryz.f54, eRow]
  refine LoopK.intro (fun m s => ∃ i : Nat, i + m = x.txns.length ∧ s = ⟨[(1, .c (.pt (d, 1) [] 4 0 0)), (2, .c (.pt (d, 2) [] 4 0 0)), (3, .c (.pt (d, 3) [] 4 0 0)), (4, I i)],
      ((d, 3), .own 4 [[.v (.int .i64 x.next), .v (.int .i64 x.clock), .own 5 ((x.txns.take i).map DTxn.enc), .own 2 []]]) :: ((d, 2), .own 4 [[.v (.int .i64 0), .v (.int .i64 0), .own 5 [], .own 2 []]]) :: ((d, 1), .own 4 [[.v (.int .i64 x.next), .v (.int .i64 x.clock), .sl r1 q1 5 0 x.txns.length, .sl r2 q2 2 0 x.rows.length]]) :: H, []⟩) (x.txns.length + 1)
    (LK.intro x.txns.length [1, 2, 3, 4] [] (by omega) (by decide) (by simp (maxSteps := 4000000) [hd0, hfr, hout, hcl, hcd, delA_none, a1, a1_n, a1_d, a1_m, a2, a2_n, a2_d, a2_m]) ⟨0, by simp⟩) ?_
  rintro m s ⟨i, him, rfl⟩
  by_cases hi' : i < x.txns.length
  · have w1 : IntKind.i64.wrap ((i : Int) + 1) = i + 1 := w64 (by omega) (by omega)
    have hpl : x.txns[i].undos.length ≤ 1048576 := b1p _ (List.getElem_mem hi')
    have hsub := arrAt_sub a1 (i := i) (f := 4) (row := x.txns[i].enc) (by simp [hi']) rfl
    have hn := take_next (f := DTxn.enc) hi'
    simp only [DTxn.enc] at hn
    simp (maxSteps := 4000000) [hd0, hfr, hout, hcl, hcd, delA_none, a1, a1_n, a1_d, a1_m, a2, a2_n, a2_d, a2_m, eq_true (show (i : Int) < x.txns.length by omega), hi', DTxn.enc, hsub, DUndo.enc, w1]
    refine ⟨by omega, by omega, ?_⟩
    refine LK.intro (m - 1) [1, 2, 3, 4] [5] (by omega) (by decide) (by simp (maxSteps := 4000000) [hd0, hfr, hout, hcl, hcd, delA_none, a1, a1_n, a1_d, a1_m, a2, a2_n, a2_d, a2_m, DTxn.enc]) ⟨i + 1, by omega, by simp [DTxn.enc, DUndo.enc, hn]⟩
  simp (maxSteps := 4000000) [hd0, hfr, hout, hcl, hcd, delA_none, a1, a1_n, a1_d, a1_m, a2, a2_n, a2_d, a2_m, eq_false (show ¬ (i : Int) < x.txns.length by omega)]
  refine LoopK.intro (fun m s => ∃ i : Nat, i + m = x.rows.length ∧ s = ⟨[(1, .c (.pt (d, 1) [] 4 0 0)), (2, .c (.pt (d, 2) [] 4 0 0)), (3, .c (.pt (d, 3) [] 4 0 0)), (6, I i)],
      ((d, 3), .own 4 [[.v (.int .i64 x.next), .v (.int .i64 x.clock), .own 5 (x.txns.map DTxn.enc), .own 2 ((x.rows.take i).map DRow.enc)]]) :: ((d, 2), .own 4 [[.v (.int .i64 0), .v (.int .i64 0), .own 5 [], .own 2 []]]) :: ((d, 1), .own 4 [[.v (.int .i64 x.next), .v (.int .i64 x.clock), .sl r1 q1 5 0 x.txns.length, .sl r2 q2 2 0 x.rows.length]]) :: H, []⟩) (x.rows.length + 1)
    (LK.intro x.rows.length [1, 2, 3, 6] [] (by omega) (by decide) (by simp (maxSteps := 4000000) [hd0, hfr, hout, hcl, hcd, delA_none, a1, a1_n, a1_d, a1_m, a2, a2_n, a2_d, a2_m]) ⟨0, by simp [List.take_of_length_le (show (x.txns.map DTxn.enc).length ≤ i by simp; omega)]⟩) ?_
  clear him hi' m i
  rintro m s ⟨i, him, rfl⟩
  by_cases hi' : i < x.rows.length
  · have w1 : IntKind.i64.wrap ((i : Int) + 1) = i + 1 := w64 (by omega) (by omega)
    have hpl : x.rows[i].chain.length ≤ 1048576 := b2p _ (List.getElem_mem hi')
    have hsub := arrAt_sub a2 (i := i) (f := 1) (row := x.rows[i].enc) (by simp [hi']) rfl
    have hn := take_next (f := DRow.enc) hi'
    simp only [DRow.enc] at hn
    simp (maxSteps := 4000000) [hd0, hfr, hout, hcl, hcd, delA_none, a1, a1_n, a1_d, a1_m, a2, a2_n, a2_d, a2_m, eq_true (show (i : Int) < x.rows.length by omega)]
    refine DrawK.intro 17 [1, 2, 3, 6, 43, 58] rfl (by kernel_rfl) (by decide) ?_
    simp (maxSteps := 4000000) [hd0, hfr, hout, hcl, hcd, delA_none, a1, a1_n, a1_d, a1_m, a2, a2_n, a2_d, a2_m, hi', DRow.enc]
    refine ⟨_, spec_l5Copy _ hpl rfl (by simp (maxSteps := 4000000) [hd0, hfr, hout, hcl, hcd, delA_none, a1, a1_n, a1_d, a1_m, a2, a2_n, a2_d, a2_m, hsub]), ?_⟩
    simp (maxSteps := 4000000) [hd0, hfr, hout, hcl, hcd, delA_none, a1, a1_n, a1_d, a1_m, a2, a2_n, a2_d, a2_m, DRow.enc, Version_clean, w1]
    refine ⟨by kernel_rfl, by kernel_rfl, by omega, ?_⟩
    refine LK.intro (m - 1) [1, 2, 3, 6] [] (by omega) (by decide) (by simp (maxSteps := 4000000) [hd0, hfr, hout, hcl, hcd, delA_none, a1, a1_n, a1_d, a1_m, a2, a2_n, a2_d, a2_m, DRow.enc]) ⟨i + 1, by omega, by simp [DRow.enc, hn]⟩
  simp (maxSteps := 4000000) [hd0, hfr, hout, hcl, hcd, delA_none, a1, a1_n, a1_d, a1_m, a2, a2_n, a2_d, a2_m, DEngine.enc, eq_false (show ¬ (i : Int) < x.rows.length by omega), List.take_of_length_le (show (x.rows.map DRow.enc).length ≤ i by simp; omega)]
end Go.Proofs.YtnlbjfdmjlnlgaaGreat


namespace Go.Proofs.YtnlbjfdmjlnlgaaGreat
open Go Go.Px Go.RowKit Go.Proofs
set_option linter.unnecessarySimpa false
set_option linter.unusedVariables false
set_option linter.unusedSimpArgs false
set_option maxRecDepth 100000
set_option maxHeartbeats 1000000
attribute [-simp] Int.not_le Int.not_lt
set_option maxHeartbeats 8000000 in
theorem impl_EngineFault (H : HH) {r1 q1 r2 q2} {x : DEngine} (hl : x.le 1048576) (a1 : arrAt H r1 q1 = some (5, x.txns.map DTxn.enc)) (a2 : arrAt H r2 q2 = some (2, x.rows.map DRow.enc)) :
    PFun Tryz.prog 48 [.a [.v (.int .i64 x.next), .v (.int .i64 x.clock), .sl r1 q1 5 0 x.txns.length, .sl r2 q2 2 0 x.rows.length]] H (I (engF x)) := by
  obtain ⟨⟨b1, b1p⟩, b2, b2p⟩ := hl
  refine PFun.of [1, 2, 3, 4, 5, 6, 7, 8, 9, 11, 12, 13, 14, 15, 26, 38, 39, 40, 41, 45, 75, 118, 122, 123, 124, 125, 129, 134, 159, 180, 183, 184, 185, 186, 190, 191, 192, 193, 217] Tryz.func48 rfl (by simp [Tryz.f48]) ?_
  intro d hd0 hfr hcl hout
  have hcd : ∀ n q, CleanH (hit [((d, n), q)]) H := fun n q => hcl.at
  have a1_n : ∀ n, ¬ (d, n) = r1 := fun n => nm_ne (ne_of_arr hfr a1)
  have a1_d : ¬ r1.1 = d := ne_of_arr hfr a1
  have a1_m : ∀ n, ¬ r1 = (d, n) := fun n => nm_ne' (ne_of_arr hfr a1)
  have a2_n : ∀ n, ¬ (d, n) = r2 := fun n => nm_ne (ne_of_arr hfr a2)
  have a2_d : ¬ r2.1 = d := ne_of_arr hfr a2
  have a2_m : ∀ n, ¬ r2 = (d, n) := fun n => nm_ne' (ne_of_arr hfr a2)
  simp (maxSteps := 4000000) [hd0, hfr, hout, hcl, hcd, delA_none, a1, a1_n, a1_d, a1_m, a2, a2_n, a2_d, a2_m, Tryz.f48]
  refine (impl_isTxn _ _).useCK ?_
  by_cases c1 : inR x.next 1 999 = true
  case neg => simp only [Bool.not_eq_true] at c1; simp (maxSteps := 4000000) [hd0, hfr, hout, hcl, hcd, delA_none, a1, a1_n, a1_d, a1_m, a2, a2_n, a2_d, a2_m, c1, engF]
  simp (maxSteps := 4000000) [hd0, hfr, hout, hcl, hcd, delA_none, a1, a1_n, a1_d, a1_m, a2, a2_n, a2_d, a2_m, c1]
  refine (impl_isLsn _ _).useCK ?_
  by_cases c2 : inR x.clock 0 1000000 = true
  case neg => simp only [Bool.not_eq_true] at c2; simp (maxSteps := 4000000) [hd0, hfr, hout, hcl, hcd, delA_none, a1, a1_n, a1_d, a1_m, a2, a2_n, a2_d, a2_m, c1, c2, engF]
  by_cases g1 : 20 < x.txns.length
  case pos => simp (maxSteps := 4000000) [hd0, hfr, hout, hcl, hcd, delA_none, a1, a1_n, a1_d, a1_m, a2, a2_n, a2_d, a2_m, eq_true (show 20 < (x.txns.length : Int) by omega), c1, c2, eq_true g1, engF]
  by_cases g2 : 32 < x.rows.length
  case pos => simp (maxSteps := 4000000) [hd0, hfr, hout, hcl, hcd, delA_none, a1, a1_n, a1_d, a1_m, a2, a2_n, a2_d, a2_m, eq_false (show ¬ 20 < (x.txns.length : Int) by omega), eq_true (show 32 < (x.rows.length : Int) by omega), c1, c2, eq_true g2, engF]
  have hF : engF x = if txsF x.next x.clock none x.txns ≠ 0 then txsF x.next x.clock none x.txns
      else if rowsF x.clock x.txns none x.rows ≠ 0 then rowsF x.clock x.txns none x.rows
      else if (x.txns.all fun t => ownsF x.rows t) = false then 1 else 0 := by
    conv => lhs; unfold engF
    rw [if_neg (by simp [c1, c2]), if_neg (by omega)]
  have hE1 : ∀ c, c ≠ 0 → c = txsF x.next x.clock none x.txns → engF x = c := fun c h1 h2 => by rw [hF, ← h2, if_pos h1]
  have hE2 : txsF x.next x.clock none x.txns = 0 → ∀ c, c ≠ 0 → c = rowsF x.clock x.txns none x.rows → engF x = c := fun h0 c h1 h2 => by rw [hF, if_neg (by simp [h0]), ← h2, if_pos h1]
  have hE3 : txsF x.next x.clock none x.txns = 0 → rowsF x.clock x.txns none x.rows = 0 → engF x = if (x.txns.all fun t => ownsF x.rows t) = false then 1 else 0 := fun h0 h1 => by rw [hF, if_neg (by simp [h0]), if_neg (by simp [h1])]
  clear hF
  generalize engF x = R at *
  have hnx : 1 ≤ x.next ∧ x.next ≤ 999 := by simpa [inR] using c1
  have wn : IntKind.i64.wrap (x.next - 1) = x.next - 1 := w64 (by omega) (by omega)
  simp (maxSteps := 4000000) [hd0, hfr, hout, hcl, hcd, delA_none, a1, a1_n, a1_d, a1_m, a2, a2_n, a2_d, a2_m, c2, eq_false (show ¬ 20 < (x.txns.length : Int) by omega), eq_false (show ¬ 32 < (x.rows.length : Int) by omega)]
  refine LoopK.intro (fun m s => ∃ i : Nat, i + m = x.txns.length ∧ txsF x.next x.clock (prv DTxn.id_ x.txns i) (x.txns.drop i) = txsF x.next x.clock none x.txns ∧ s = ⟨[(1, .c (.pt (d, 1) [] 4 0 0)), (38, .c (.sl r1 q1 5 0 x.txns.length)), (39, I x.txns.length), (40, I i)],
      ((d, 1), .own 4 [[.v (.int .i64 x.next), .v (.int .i64 x.clock), .sl r1 q1 5 0 x.txns.length, .sl r2 q2 2 0 x.rows.length]]) :: H, []⟩) (x.txns.length + 1)
    (LK.intro x.txns.length [1, 38, 39, 40] [] (by omega) (by decide) (by simp (maxSteps := 4000000) [hd0, hfr, hout, hcl, hcd, delA_none, a1, a1_n, a1_d, a1_m, a2, a2_n, a2_d, a2_m]) ⟨0, by simp [prv]⟩) ?_
  rintro m s ⟨i, him, hinv, rfl⟩
  by_cases hi' : i < x.txns.length
  · rw [List.drop_eq_getElem_cons hi'] at hinv
    simp only [txsF] at hinv
    have w1 : IntKind.i64.wrap ((i : Int) + 1) = i + 1 := w64 (by omega) (by omega)
    have hend := prv_succ (f := DTxn.id_) hi'
    have hbu := b1p _ (List.getElem_mem hi')
    have hsub := arrAt_sub a1 (i := i) (f := 4) (row := x.txns[i].enc) (by simp [hi']) rfl
    simp (maxSteps := 4000000) [hd0, hfr, hout, hcl, hcd, delA_none, a1, a1_n, a1_d, a1_m, a2, a2_n, a2_d, a2_m, eq_true (show (i : Int) < x.txns.length by omega), hi', DTxn.enc, wn]
    refine (impl_within _ _ _ _).useCK ?_
    by_cases d1 : inR x.txns[i].id_ 1 (x.next - 1) = true
    case neg => simp only [Bool.not_eq_true] at d1; simp [tRange, d1] at hinv; simp (maxSteps := 4000000) [hd0, hfr, hout, hcl, hcd, delA_none, a1, a1_n, a1_d, a1_m, a2, a2_n, a2_d, a2_m, d1, hE1 3 (by omega) hinv]
    simp (maxSteps := 4000000) [hd0, hfr, hout, hcl, hcd, delA_none, a1, a1_n, a1_d, a1_m, a2, a2_n, a2_d, a2_m, d1]
    refine (impl_within _ _ _ _).useCK ?_
    by_cases d2 : inR x.txns[i].at_ 0 x.clock = true
    case neg => simp only [Bool.not_eq_true] at d2; simp [tRange, d2] at hinv; simp (maxSteps := 4000000) [hd0, hfr, hout, hcl, hcd, delA_none, a1, a1_n, a1_d, a1_m, a2, a2_n, a2_d, a2_m, d2, hE1 3 (by omega) hinv]
    simp (maxSteps := 4000000) [hd0, hfr, hout, hcl, hcd, delA_none, a1, a1_n, a1_d, a1_m, a2, a2_n, a2_d, a2_m, d2]
    refine (impl_within _ _ _ _).useCK ?_
    by_cases d3 : inR x.txns[i].state 1 3 = true
    case neg => simp only [Bool.not_eq_true] at d3; simp [tRange, d3] at hinv; simp (maxSteps := 4000000) [hd0, hfr, hout, hcl, hcd, delA_none, a1, a1_n, a1_d, a1_m, a2, a2_n, a2_d, a2_m, d3, hE1 3 (by omega) hinv]
    simp (maxSteps := 4000000) [hd0, hfr, hout, hcl, hcd, delA_none, a1, a1_n, a1_d, a1_m, a2, a2_n, a2_d, a2_m, d3]
    refine (impl_within _ _ _ _).useCK ?_
    by_cases d4 : inR x.txns[i].done 0 x.clock = true
    case neg => simp only [Bool.not_eq_true] at d4; simp [tRange, d4] at hinv; simp (maxSteps := 4000000) [hd0, hfr, hout, hcl, hcd, delA_none, a1, a1_n, a1_d, a1_m, a2, a2_n, a2_d, a2_m, d4, hE1 3 (by omega) hinv]
    have hv : tRange x.next x.clock x.txns[i] = true := by simp [tRange, d1, d2, d3, d4]
    rw [hv, if_neg (by simp)] at hinv
    simp (maxSteps := 4000000) [hd0, hfr, hout, hcl, hcd, delA_none, a1, a1_n, a1_d, a1_m, a2, a2_n, a2_d, a2_m, d4]
    refine DrawK.intro 15 [1, 4, 38, 39, 40, 75] rfl (by kernel_rfl) (by decide) ?_
    have w2 : i ≠ 0 → IntKind.i64.wrap ((i : Int) - 1) = (i - 1 : Nat) := fun h => by rw [w64 (by omega) (by omega)]; omega
    have hone : tForm (prv DTxn.id_ x.txns i) x.txns[i] = false → R = 1 := fun h => by rw [if_pos h] at hinv; exact hE1 1 (by omega) hinv
    have hfin : tForm (prv DTxn.id_ x.txns i) x.txns[i] = true → (if undosF x.txns[i].undos ≠ 0 then undosF x.txns[i].undos else txsF x.next x.clock (some x.txns[i].id_) (x.txns.drop (i + 1))) = txsF x.next x.clock none x.txns := fun h => by rw [h] at hinv; simpa using hinv
    clear hinv
    by_cases hi0 : i = 0
    case' pos =>
      have hnab : nab (prv DTxn.id_ x.txns i) x.txns[i].id_ = false := by simp [hi0, prv, nab]
      simp (maxSteps := 4000000) [hd0, hfr, hout, hcl, hcd, delA_none, a1, a1_n, a1_d, a1_m, a2, a2_n, a2_d, a2_m, eq_false (show ¬ (0 : Int) < (i : Int) by omega), eq_false (show ¬ 0 < i by omega), eq_true hi0]
    case' neg =>
      have h3 : i - 1 < x.txns.length := by omega
      have hp := prv_pos (f := DTxn.id_) hi0 h3
      by_cases h4 : x.txns[i].id_ ≤ x.txns[i-1].id_
      case pos =>
        have h1 := hone (by simp [tForm, hp, nab, h4])
        simp (maxSteps := 4000000) [hd0, hfr, hout, hcl, hcd, delA_none, a1, a1_n, a1_d, a1_m, a2, a2_n, a2_d, a2_m, eq_true (show (0 : Int) < (i : Int) by omega), eq_true (show 0 < i by omega), hi0, w2 hi0, h3, hi', DTxn.enc, eq_true h4, h1]
      have hnab : nab (prv DTxn.id_ x.txns i) x.txns[i].id_ = false := by rw [hp]; simp [nab]; omega
      simp (maxSteps := 4000000) [hd0, hfr, hout, hcl, hcd, delA_none, a1, a1_n, a1_d, a1_m, a2, a2_n, a2_d, a2_m, eq_true (show (0 : Int) < (i : Int) by omega), eq_true (show 0 < i by omega), hi0, w2 hi0, h3, hi', DTxn.enc, eq_false h4]
    all_goals
      by_cases e1 : x.txns[i].done = 0
      case' pos =>
        have hdn : (decide (x.txns[i].done = 0) || (decide (x.txns[i].state = 2) && decide (x.txns[i].at_ < x.txns[i].done))) = true := by simp [e1]
        simp (maxSteps := 4000000) [hd0, hfr, hout, hcl, hcd, delA_none, a1, a1_n, a1_d, a1_m, a2, a2_n, a2_d, a2_m, eq_true e1]
      case' neg =>
        by_cases e2 : x.txns[i].state = 2
        case neg =>
          have h1 := hone (by simp [tForm, e1, e2])
          simp (maxSteps := 4000000) [hd0, hfr, hout, hcl, hcd, delA_none, a1, a1_n, a1_d, a1_m, a2, a2_n, a2_d, a2_m, eq_false e1, eq_false e2, h1]
        by_cases e3 : x.txns[i].done ≤ x.txns[i].at_
        case pos =>
          have h1 := hone (by simp [tForm, e1, show ¬ x.txns[i].at_ < x.txns[i].done by omega])
          simp (maxSteps := 4000000) [hd0, hfr, hout, hcl, hcd, delA_none, a1, a1_n, a1_d, a1_m, a2, a2_n, a2_d, a2_m, eq_false e1, eq_true e2, eq_true e3, h1]
        have hdn : (decide (x.txns[i].done = 0) || (decide (x.txns[i].state = 2) && decide (x.txns[i].at_ < x.txns[i].done))) = true := by simp [e2, show x.txns[i].at_ < x.txns[i].done by omega]
        simp (maxSteps := 4000000) [hd0, hfr, hout, hcl, hcd, delA_none, a1, a1_n, a1_d, a1_m, a2, a2_n, a2_d, a2_m, eq_false e1, eq_true e2, eq_false e3]
      all_goals
        by_cases e4 : x.txns[i].undos.length = 0
        case' pos =>
          have hun : (decide (x.txns[i].undos.length = 0) || decide (x.txns[i].state = 1)) = true := by simp [e4]
          simp (maxSteps := 4000000) [hd0, hfr, hout, hcl, hcd, delA_none, a1, a1_n, a1_d, a1_m, a2, a2_n, a2_d, a2_m, eq_false (show ¬ (0 : Int) < (x.txns[i].undos.length : Int) by omega), eq_false (show ¬ 0 < x.txns[i].undos.length by omega), eq_true (show x.txns[i].undos = [] from List.eq_nil_of_length_eq_zero e4)]
        case' neg =>
          by_cases e5 : x.txns[i].state = 1
          case neg =>
            have h1 := hone (by simp [tForm, e4, e5])
            simp (maxSteps := 4000000) [hd0, hfr, hout, hcl, hcd, delA_none, a1, a1_n, a1_d, a1_m, a2, a2_n, a2_d, a2_m, eq_true (show (0 : Int) < (x.txns[i].undos.length : Int) by omega), eq_true (show 0 < x.txns[i].undos.length by omega), eq_false (show ¬ x.txns[i].undos = [] from fun h => e4 (by rw [h]; rfl)), eq_false e5, h1]
          have hun : (decide (x.txns[i].undos.length = 0) || decide (x.txns[i].state = 1)) = true := by simp [e5]
          simp (maxSteps := 4000000) [hd0, hfr, hout, hcl, hcd, delA_none, a1, a1_n, a1_d, a1_m, a2, a2_n, a2_d, a2_m, eq_true (show (0 : Int) < (x.txns[i].undos.length : Int) by omega), eq_true (show 0 < x.txns[i].undos.length by omega), eq_false (show ¬ x.txns[i].undos = [] from fun h => e4 (by rw [h]; rfl)), eq_true e5]
        all_goals
          have hf := hfin (by unfold tForm; rw [hnab, hdn, hun]; rfl)
          refine (impl_undosFault _ hbu (by simp (maxSteps := 4000000) [hd0, hfr, hout, hcl, hcd, delA_none, a1, a1_n, a1_d, a1_m, a2, a2_n, a2_d, a2_m, hsub])).useCK ?_
          by_cases e6 : undosF x.txns[i].undos = 0
          · rw [if_neg (by simp [e6])] at hf
            simp (maxSteps := 4000000) [hd0, hfr, hout, hcl, hcd, delA_none, a1, a1_n, a1_d, a1_m, a2, a2_n, a2_d, a2_m, e6, w1]
            refine LK.intro (m - 1) [1, 38, 39, 40] [4] (by omega) (by decide) (by simp (maxSteps := 4000000) [hd0, hfr, hout, hcl, hcd, delA_none, a1, a1_n, a1_d, a1_m, a2, a2_n, a2_d, a2_m]) ⟨i + 1, by omega, by rw [hend]; exact hf, by simp⟩
          · rw [if_pos e6] at hf
            simp (maxSteps := 4000000) [hd0, hfr, hout, hcl, hcd, delA_none, a1, a1_n, a1_d, a1_m, a2, a2_n, a2_d, a2_m, e6, hE1 _ e6 hf]
  rw [List.drop_eq_nil_of_le (by omega)] at hinv
  simp only [txsF] at hinv
  have hT : txsF x.next x.clock none x.txns = 0 := hinv.symm
  have hE2 := hE2 hT
  have hE3 := hE3 hT
  clear hinv hE1
  simp (maxSteps := 4000000) [hd0, hfr, hout, hcl, hcd, delA_none, a1, a1_n, a1_d, a1_m, a2, a2_n, a2_d, a2_m, eq_false (show ¬ (i : Int) < x.txns.length by omega)]
  refine LoopK.intro (fun m s => ∃ i : Nat, i + m = x.rows.length ∧ rowsF x.clock x.txns (prv DRow.key x.rows i) (x.rows.drop i) = rowsF x.clock x.txns none x.rows ∧ s = ⟨[(1, .c (.pt (d, 1) [] 4 0 0)), (122, .c (.sl r2 q2 2 0 x.rows.length)), (123, I x.rows.length), (124, I i)],
      ((d, 1), .own 4 [[.v (.int .i64 x.next), .v (.int .i64 x.clock), .sl r1 q1 5 0 x.txns.length, .sl r2 q2 2 0 x.rows.length]]) :: H, []⟩) (x.rows.length + 1)
    (LK.intro x.rows.length [1, 122, 123, 124] [] (by omega) (by decide) (by simp (maxSteps := 4000000) [hd0, hfr, hout, hcl, hcd, delA_none, a1, a1_n, a1_d, a1_m, a2, a2_n, a2_d, a2_m]) ⟨0, by simp [prv]⟩) ?_
  clear him hi' i m
  rintro m s ⟨i, him, hinv, rfl⟩
  by_cases hi' : i < x.rows.length
  · rw [List.drop_eq_getElem_cons hi'] at hinv
    simp only [rowsF] at hinv
    have w1 : IntKind.i64.wrap ((i : Int) + 1) = i + 1 := w64 (by omega) (by omega)
    have w2 : i ≠ 0 → IntKind.i64.wrap ((i : Int) - 1) = (i - 1 : Nat) := fun h => by rw [w64 (by omega) (by omega)]; omega
    have hend := prv_succ (f := DRow.key) hi'
    have hbc := b2p _ (List.getElem_mem hi')
    have hsub := arrAt_sub a2 (i := i) (f := 1) (row := x.rows[i].enc) (by simp [hi']) rfl
    simp (maxSteps := 4000000) [hd0, hfr, hout, hcl, hcd, delA_none, a1, a1_n, a1_d, a1_m, a2, a2_n, a2_d, a2_m, eq_true (show (i : Int) < x.rows.length by omega), hi', DRow.enc]
    refine (impl_isKey _ _).useCK ?_
    by_cases d1 : inR x.rows[i].key 0 31 = true
    case neg => simp only [Bool.not_eq_true] at d1; simp [d1] at hinv; simp (maxSteps := 4000000) [hd0, hfr, hout, hcl, hcd, delA_none, a1, a1_n, a1_d, a1_m, a2, a2_n, a2_d, a2_m, d1, hE2 3 (by omega) hinv]
    rw [d1, if_neg (by simp)] at hinv
    simp (maxSteps := 4000000) [hd0, hfr, hout, hcl, hcd, delA_none, a1, a1_n, a1_d, a1_m, a2, a2_n, a2_d, a2_m, d1]
    refine DrawK.intro 21 [1, 7, 122, 123, 124, 134] rfl (by kernel_rfl) (by decide) ?_
    have hone : (nab (prv DRow.key x.rows i) x.rows[i].key || decide (x.rows[i].chain.length = 0)) = true → R = 1 := fun h => by rw [if_pos h] at hinv; exact hE2 1 (by omega) hinv
    by_cases e0 : x.rows[i].chain.length = 0
    case pos =>
      have h1 := hone (by simp [e0])
      have e0' : x.rows[i].chain = [] := List.eq_nil_of_length_eq_zero e0
      by_cases hi0 : i = 0
      · simp (maxSteps := 4000000) [hd0, hfr, hout, hcl, hcd, delA_none, a1, a1_n, a1_d, a1_m, a2, a2_n, a2_d, a2_m, eq_false (show ¬ (0 : Int) < (i : Int) by omega), eq_false (show ¬ 0 < i by omega), eq_true hi0, e0', h1]
      · have h3 : i - 1 < x.rows.length := by omega
        by_cases h4 : x.rows[i].key ≤ x.rows[i-1].key
        · simp (maxSteps := 4000000) [hd0, hfr, hout, hcl, hcd, delA_none, a1, a1_n, a1_d, a1_m, a2, a2_n, a2_d, a2_m, eq_true (show (0 : Int) < (i : Int) by omega), eq_true (show 0 < i by omega), hi0, w2 hi0, h3, hi', DRow.enc, eq_true h4, e0', h1]
        · simp (maxSteps := 4000000) [hd0, hfr, hout, hcl, hcd, delA_none, a1, a1_n, a1_d, a1_m, a2, a2_n, a2_d, a2_m, eq_true (show (0 : Int) < (i : Int) by omega), eq_true (show 0 < i by omega), hi0, w2 hi0, h3, hi', DRow.enc, eq_false h4, e0', h1]
    have e0' : ¬ x.rows[i].chain = [] := fun h => e0 (by rw [h]; rfl)
    by_cases hi0 : i = 0
    case' pos =>
      have hnab : nab (prv DRow.key x.rows i) x.rows[i].key = false := by simp [hi0, prv, nab]
      simp (maxSteps := 4000000) [hd0, hfr, hout, hcl, hcd, delA_none, a1, a1_n, a1_d, a1_m, a2, a2_n, a2_d, a2_m, eq_false (show ¬ (0 : Int) < (i : Int) by omega), eq_false (show ¬ 0 < i by omega), eq_true hi0, eq_false e0']
    case' neg =>
      have h3 : i - 1 < x.rows.length := by omega
      have hp := prv_pos (f := DRow.key) hi0 h3
      by_cases h4 : x.rows[i].key ≤ x.rows[i-1].key
      case pos =>
        have h1 := hone (by simp [hp, nab, h4])
        simp (maxSteps := 4000000) [hd0, hfr, hout, hcl, hcd, delA_none, a1, a1_n, a1_d, a1_m, a2, a2_n, a2_d, a2_m, eq_true (show (0 : Int) < (i : Int) by omega), eq_true (show 0 < i by omega), hi0, w2 hi0, h3, hi', DRow.enc, eq_true h4, h1]
      have hnab : nab (prv DRow.key x.rows i) x.rows[i].key = false := by rw [hp]; simp [nab]; omega
      simp (maxSteps := 4000000) [hd0, hfr, hout, hcl, hcd, delA_none, a1, a1_n, a1_d, a1_m, a2, a2_n, a2_d, a2_m, eq_true (show (0 : Int) < (i : Int) by omega), eq_true (show 0 < i by omega), hi0, w2 hi0, h3, hi', DRow.enc, eq_false h4, eq_false e0']
    all_goals
      rw [if_neg (by simp [hnab, e0])] at hinv
      refine (impl_ChainFault _ hbc (by simp (maxSteps := 4000000) [hd0, hfr, hout, hcl, hcd, delA_none, a1, a1_n, a1_d, a1_m, a2, a2_n, a2_d, a2_m, hsub])).useCK ?_
      by_cases e1 : chainF x.rows[i].chain = 0
      case neg => rw [if_pos e1] at hinv; simp (maxSteps := 4000000) [hd0, hfr, hout, hcl, hcd, delA_none, a1, a1_n, a1_d, a1_m, a2, a2_n, a2_d, a2_m, e1, hE2 _ e1 hinv]
      rw [if_neg (by simp [e1])] at hinv
      obtain ⟨f, rest, hcf⟩ : ∃ f rest, x.rows[i].chain = f :: rest := by
        cases hc : x.rows[i].chain with
        | nil => exact absurd hc e0'
        | cons f rest => exact ⟨f, rest, rfl⟩
      have hC1 : ∀ H', arrAt H' (d, 1) [] = some (4, [[.v (.int .i64 x.next), .v (.int .i64 x.clock), .sl r1 q1 5 0 x.txns.length, .sl r2 q2 2 0 x.rows.length]]) → arrAt H' r2 (q2 ++ [(i, 1)]) = some (4, x.rows[i].chain.map DVersion.enc) →
          PFun Tryz.prog 109 [.c (.sl r2 (q2 ++ [(i, 1)]) 4 0 x.rows[i].chain.length), .c (.fn 110 [.pt (d, 1) [] 4 0 0])] H' (B (x.rows[i].chain.any fun v => decide (x.clock < v.at_))) := fun H' h1 h2 => by
        have := slices_ContainsFunc_Version H' (P := fun v => decide (x.clock < v.at_)) (g := 110) (caps := [.pt (d, 1) [] 4 0 0]) hbc (Nat.le_refl _) h2 (by simp [isRef]) (by simp) (fun i hi => impl_EngineFault_1 H' h1)
        simpa using this
      have hC2 : ∀ H', arrAt H' (d, 9) [] = some (4, [f.enc]) → arrAt H' (d, 7) [] = some (2, [[.v (.int .i64 x.rows[i].key), .sl r2 (q2 ++ [(i, 1)]) 4 0 x.rows[i].chain.length]]) → arrAt H' r1 q1 = some (5, x.txns.map DTxn.enc) →
          PFun Tryz.prog 111 [.c (.sl r1 q1 5 0 x.txns.length), .c (.fn 112 [.pt (d, 9) [] 4 0 0, .pt (d, 7) [] 2 0 0])] H' (B (x.txns.any fun t => decide (t.id_ = f.txn) && undoesF t x.rows[i].key)) := fun H' h1 h2 h3 => by
        have := slices_ContainsFunc_Txn H' (P := fun t => decide (t.id_ = f.txn) && undoesF t x.rows[i].key) (g := 112) (caps := [.pt (d, 9) [] 4 0 0, .pt (d, 7) [] 2 0 0]) b1 (Nat.le_refl _) h3 (by simp [isRef]) (by simp) (fun j hj => impl_EngineFault_2 H' (b1p _ (List.getElem_mem hj)) (arrAt_sub h3 (i := j) (f := 4) (row := x.txns[j].enc) (by simp [hj]) rfl) h1 h2)
        simpa using this
      have hro : rowOpenF x.txns x.rows[i] = (decide (f.at_ ≠ 0) || x.txns.any fun t => decide (t.id_ = f.txn) && undoesF t x.rows[i].key) := by unfold rowOpenF; rw [hcf]
      have h0l : 0 < x.rows[i].chain.length := by omega
      have hg0 : x.rows[i].chain[0] = f := by simp [hcf]
      simp (maxSteps := 4000000) [hd0, hfr, hout, hcl, hcd, delA_none, a1, a1_n, a1_d, a1_m, a2, a2_n, a2_d, a2_m, e1, hsub, h0l, hg0, DVersion.enc]
      refine (hC1 _ (by simp (maxSteps := 4000000) [hd0, hfr, hout, hcl, hcd, delA_none, a1, a1_n, a1_d, a1_m, a2, a2_n, a2_d, a2_m]) (by simp (maxSteps := 4000000) [hd0, hfr, hout, hcl, hcd, delA_none, a1, a1_n, a1_d, a1_m, a2, a2_n, a2_d, a2_m, hsub])).useCK ?_
      have hone2 : ((x.rows[i].chain.any fun v => decide (x.clock < v.at_)) || !rowOpenF x.txns x.rows[i]) = true → R = 1 := fun h => by rw [if_pos h] at hinv; exact hE2 1 (by omega) hinv
      have hfin2 : (x.rows[i].chain.any fun v => decide (x.clock < v.at_)) = false → rowOpenF x.txns x.rows[i] = true → rowsF x.clock x.txns (some x.rows[i].key) (x.rows.drop (i + 1)) = rowsF x.clock x.txns none x.rows := fun h1 h2 => by rw [if_neg (by simp [h1, h2])] at hinv; exact hinv
      by_cases k5 : (x.rows[i].chain.any fun v => decide (x.clock < v.at_)) = true
      case pos =>
        have hR := hone2 (by rw [k5]; rfl)
        rw [k5]
        simp (maxSteps := 4000000) [hd0, hfr, hout, hcl, hcd, delA_none, a1, a1_n, a1_d, a1_m, a2, a2_n, a2_d, a2_m, hR]
      simp only [Bool.not_eq_true] at k5
      rw [k5]
      by_cases k6 : f.at_ = 0
      · simp (maxSteps := 4000000) [hd0, hfr, hout, hcl, hcd, delA_none, a1, a1_n, a1_d, a1_m, a2, a2_n, a2_d, a2_m, eq_true k6]
        refine (hC2 _ (by simp (maxSteps := 4000000) [hd0, hfr, hout, hcl, hcd, delA_none, a1, a1_n, a1_d, a1_m, a2, a2_n, a2_d, a2_m, DVersion.enc]) (by simp (maxSteps := 4000000) [hd0, hfr, hout, hcl, hcd, delA_none, a1, a1_n, a1_d, a1_m, a2, a2_n, a2_d, a2_m]) (by simp (maxSteps := 4000000) [hd0, hfr, hout, hcl, hcd, delA_none, a1, a1_n, a1_d, a1_m, a2, a2_n, a2_d, a2_m])).useCK ?_
        by_cases k7 : (x.txns.any fun t => decide (t.id_ = f.txn) && undoesF t x.rows[i].key) = true
        · have hf := hfin2 k5 (by rw [hro, k7]; simp)
          rw [k7]
          simp (maxSteps := 4000000) [hd0, hfr, hout, hcl, hcd, delA_none, a1, a1_n, a1_d, a1_m, a2, a2_n, a2_d, a2_m, w1]
          refine LK.intro (m - 1) [1, 122, 123, 124] [7, 9] (by omega) (by decide) (by simp (maxSteps := 4000000) [hd0, hfr, hout, hcl, hcd, delA_none, a1, a1_n, a1_d, a1_m, a2, a2_n, a2_d, a2_m]) ⟨i + 1, by omega, by rw [hend]; exact hf, by simp⟩
        · simp only [Bool.not_eq_true] at k7
          have hR := hone2 (by rw [hro, k7]; simp [k6])
          rw [k7]
          simp (maxSteps := 4000000) [hd0, hfr, hout, hcl, hcd, delA_none, a1, a1_n, a1_d, a1_m, a2, a2_n, a2_d, a2_m, hR]
      · have hf := hfin2 k5 (by rw [hro]; simp [k6])
        simp (maxSteps := 4000000) [hd0, hfr, hout, hcl, hcd, delA_none, a1, a1_n, a1_d, a1_m, a2, a2_n, a2_d, a2_m, eq_false k6, w1]
        refine LK.intro (m - 1) [1, 122, 123, 124] [7, 9] (by omega) (by decide) (by simp (maxSteps := 4000000) [hd0, hfr, hout, hcl, hcd, delA_none, a1, a1_n, a1_d, a1_m, a2, a2_n, a2_d, a2_m]) ⟨i + 1, by omega, by rw [hend]; exact hf, by simp⟩
  rw [List.drop_eq_nil_of_le (by omega)] at hinv
  simp only [rowsF] at hinv
  have hRw : rowsF x.clock x.txns none x.rows = 0 := hinv.symm
  have hE3 := hE3 hRw
  clear hinv hE2
  obtain ⟨hks, hso, -⟩ := rowsF_sorted hRw
  have hget := txsF_get hT
  simp (maxSteps := 4000000) [hd0, hfr, hout, hcl, hcd, delA_none, a1, a1_n, a1_d, a1_m, a2, a2_n, a2_d, a2_m, eq_false (show ¬ (i : Int) < x.rows.length by omega)]
  refine LoopK.intro (fun m s => ∃ i : Nat, i + m = x.txns.length ∧ ((x.txns.take i).all fun t => ownsF x.rows t) = true ∧ s = ⟨[(1, .c (.pt (d, 1) [] 4 0 0)), (183, .c (.sl r1 q1 5 0 x.txns.length)), (184, I x.txns.length), (185, I i)],
      ((d, 1), .own 4 [[.v (.int .i64 x.next), .v (.int .i64 x.clock), .sl r1 q1 5 0 x.txns.length, .sl r2 q2 2 0 x.rows.length]]) :: H, []⟩) (x.txns.length + 1)
    (LK.intro x.txns.length [1, 183, 184, 185] [] (by omega) (by decide) (by simp (maxSteps := 4000000) [hd0, hfr, hout, hcl, hcd, delA_none, a1, a1_n, a1_d, a1_m, a2, a2_n, a2_d, a2_m]) ⟨0, by simp⟩) ?_
  clear him hi' i m
  rintro m s ⟨i, him, hinv, rfl⟩
  by_cases hi' : i < x.txns.length
  · have w1 : IntKind.i64.wrap ((i : Int) + 1) = i + 1 := w64 (by omega) (by omega)
    have hbu : x.txns[i].undos.length ≤ 1048576 := b1p _ (List.getElem_mem hi')
    have hsub := arrAt_sub a1 (i := i) (f := 4) (row := x.txns[i].enc) (by simp [hi']) rfl
    obtain ⟨-, hu0, -⟩ := hget _ (List.getElem_mem hi')
    have huk := undosF_key hu0
    have hbad : ownsF x.rows x.txns[i] = false → R = 1 := fun h => by
      rw [hE3, if_pos]
      rw [List.all_eq_false]
      exact ⟨_, List.getElem_mem hi', by simp [h]⟩
    have hnx2 : ownsF x.rows x.txns[i] = true → ((x.txns.take (i + 1)).all fun t => ownsF x.rows t) = true := fun h => by
      rw [List.take_succ_eq_append_getElem hi', List.all_append, hinv]; simp [h]
    simp (maxSteps := 4000000) [hd0, hfr, hout, hcl, hcd, delA_none, a1, a1_n, a1_d, a1_m, a2, a2_n, a2_d, a2_m, eq_true (show (i : Int) < x.txns.length by omega), hi', DTxn.enc]
    refine LoopK.intro (fun m2 s => ∃ j : Nat, j + m2 = x.txns[i].undos.length ∧ ((List.range j).all fun k => ownI x.rows x.txns[i].id_ x.txns[i].undos k) = true ∧ s = ⟨[(1, .c (.pt (d, 1) [] 4 0 0)), (11, .c (.pt (d, 11) [] 5 0 0)), (183, .c (.sl r1 q1 5 0 x.txns.length)), (184, I x.txns.length), (185, I i), (190, .c (.sl r1 (q1 ++ [(i, 4)]) 4 0 x.txns[i].undos.length)), (191, I x.txns[i].undos.length), (192, I j)],
        ((d, 11), .own 5 [[.v (.int .i64 x.txns[i].id_), .v (.int .i64 x.txns[i].at_), .v (.int .i64 x.txns[i].state), .v (.int .i64 x.txns[i].done), .sl r1 (q1 ++ [(i, 4)]) 4 0 x.txns[i].undos.length]]) :: ((d, 1), .own 4 [[.v (.int .i64 x.next), .v (.int .i64 x.clock), .sl r1 q1 5 0 x.txns.length, .sl r2 q2 2 0 x.rows.length]]) :: H, []⟩) (x.txns[i].undos.length + 1)
      (LK.intro x.txns[i].undos.length [1, 11, 183, 184, 185, 190, 191, 192] [] (by omega) (by decide) (by simp (maxSteps := 4000000) [hd0, hfr, hout, hcl, hcd, delA_none, a1, a1_n, a1_d, a1_m, a2, a2_n, a2_d, a2_m]) ⟨0, by simp⟩) ?_
    rintro m2 s ⟨j, hjm, hinv2, rfl⟩
    by_cases hj : j < x.txns[i].undos.length
    · have w3 : IntKind.i64.wrap ((j : Int) + 1) = j + 1 := w64 (by omega) (by omega)
      generalize hus : x.txns[i].undos = us at *
      have hoj : ownI x.rows x.txns[i].id_ us j = (openF (chainR x.rows us[j].key) x.txns[i].id_ && ((us.take j).any (fun y => decide (y.key = us[j].key)) == us[j].had)) := by simp [ownI, hj]
      have hko := huk _ (List.getElem_mem hj)
      have hnx3 : ownI x.rows x.txns[i].id_ us j = true → ((List.range (j + 1)).all fun k => ownI x.rows x.txns[i].id_ us k) = true := fun h => by
        rw [List.range_succ, List.all_append, hinv2]; simp [h]
      have hbad2 : ownI x.rows x.txns[i].id_ us j = false → R = 1 := fun h => hbad (by
        unfold ownsF
        rw [hus, List.all_eq_false]
        exact ⟨j, by simpa using hj, by simp [h]⟩)
      have hC3 : ∀ H', arrAt H' (d, 13) [] = some (4, [us[j].enc]) → arrAt H' r1 (q1 ++ [(i, 4)]) = some (4, us.map DUndo.enc) →
          PFun Tryz.prog 114 [.c (.sl r1 (q1 ++ [(i, 4)]) 4 0 j), .c (.fn 115 [.pt (d, 13) [] 4 0 0])] H' (B ((us.take j).any fun y => decide (y.key = us[j].key))) := fun H' h1 h2 =>
        slices_ContainsFunc_Undo H' (P := fun y => decide (y.key = us[j].key)) (g := 115) (caps := [.pt (d, 13) [] 4 0 0]) hbu (by omega) h2 (by simp [isRef]) (by simp) (fun k hk => impl_EngineFault_3 H' h1)
      simp (maxSteps := 4000000) [hd0, hfr, hout, hcl, hcd, delA_none, a1, a1_n, a1_d, a1_m, a2, a2_n, a2_d, a2_m, eq_true (show (j : Int) < us.length by omega), hj, hsub, DUndo.enc]
      refine ⟨by omega, ?_⟩
      refine (hC3 _ (by simp (maxSteps := 4000000) [hd0, hfr, hout, hcl, hcd, delA_none, a1, a1_n, a1_d, a1_m, a2, a2_n, a2_d, a2_m, DUndo.enc]) (by simp (maxSteps := 4000000) [hd0, hfr, hout, hcl, hcd, delA_none, a1, a1_n, a1_d, a1_m, a2, a2_n, a2_d, a2_m, hsub])).useCK ?_
      simp (maxSteps := 4000000) [hd0, hfr, hout, hcl, hcd, delA_none, a1, a1_n, a1_d, a1_m, a2, a2_n, a2_d, a2_m]
      refine DrawK.intro 14 [1, 11, 183, 184, 185, 190, 191, 192, 217] rfl (by kernel_rfl) (by decide) ?_
      simp (maxSteps := 4000000) [hd0, hfr, hout, hcl, hcd, delA_none, a1, a1_n, a1_d, a1_m, a2, a2_n, a2_d, a2_m]
      refine ⟨_, impl_Engine_chain _ (rows2 := x.txns.map DTxn.enc) b2 hso hko hks (by simp (maxSteps := 4000000) [hd0, hfr, hout, hcl, hcd, delA_none, a1, a1_n, a1_d, a1_m, a2, a2_n, a2_d, a2_m]) (by simp (maxSteps := 4000000) [hd0, hfr, hout, hcl, hcd, delA_none, a1, a1_n, a1_d, a1_m, a2, a2_n, a2_d, a2_m]), ?_⟩
      by_cases hf : foundR x.rows us[j].key = true
      · have hlt := foundR_lt hf
        have hcr : chainR x.rows us[j].key = x.rows[rowP x.rows us[j].key].chain := by simp [chainR, hf, List.getD_eq_getElem?_getD, hlt]
        have hsubc : arrAt H r2 (q2 ++ [(rowP x.rows us[j].key, 1)]) = some (4, (chainR x.rows us[j].key).map DVersion.enc) := by
          rw [hcr]
          exact arrAt_sub a2 (i := rowP x.rows us[j].key) (f := 1) (row := x.rows[rowP x.rows us[j].key].enc) (by simp [hlt]) rfl
        have hTc : chainT r2 q2 x.rows us[j].key = .c (.sl r2 (q2 ++ [(rowP x.rows us[j].key, 1)]) 4 0 (chainR x.rows us[j].key).length) := by simp [chainT, hf]
        rw [hTc]
        generalize rowP x.rows us[j].key = p at *
        generalize chainR x.rows us[j].key = ch at *
        simp (maxSteps := 4000000) [hd0, hfr, hout, hcl, hcd, delA_none, a1, a1_n, a1_d, a1_m, a2, a2_n, a2_d, a2_m]
        refine ⟨_, impl_isOpenOf _ (l := ch) (by simp (maxSteps := 4000000) [hd0, hfr, hout, hcl, hcd, delA_none, a1, a1_n, a1_d, a1_m, a2, a2_n, a2_d, a2_m, hsubc]), ?_⟩
        by_cases ho : openF ch x.txns[i].id_ = true
        case neg =>
          simp only [Bool.not_eq_true] at ho
          have hR := hbad2 (by rw [hoj, ho]; rfl)
          rw [ho]
          simp (maxSteps := 4000000) [hd0, hfr, hout, hcl, hcd, delA_none, a1, a1_n, a1_d, a1_m, a2, a2_n, a2_d, a2_m, hR]
        rw [ho]
        by_cases hah : ((us.take j).any fun y => decide (y.key = us[j].key)) = us[j].had
        · have hok : ownI x.rows x.txns[i].id_ us j = true := by rw [hoj, ho, hah]; simp
          rw [hah]
          cases hhad : us[j].had <;> simp (maxSteps := 4000000) [hd0, hfr, hout, hcl, hcd, delA_none, a1, a1_n, a1_d, a1_m, a2, a2_n, a2_d, a2_m, hhad, w3]
          all_goals refine LK.intro (m2 - 1) [1, 11, 183, 184, 185, 190, 191, 192] [13] (by omega) (by decide) (by simp (maxSteps := 4000000) [hd0, hfr, hout, hcl, hcd, delA_none, a1, a1_n, a1_d, a1_m, a2, a2_n, a2_d, a2_m]) ⟨j + 1, by omega, by simpa using hnx3 hok, by simp⟩
        · have hbd : ownI x.rows x.txns[i].id_ us j = false := by rw [hoj, ho]; simpa using hah
          have hR := hbad2 hbd
          have hna : ((us.take j).any fun y => decide (y.key = us[j].key)) = !us[j].had := by
            revert hah
            cases ((us.take j).any fun y => decide (y.key = us[j].key)) <;> cases us[j].had <;> simp
          rw [hna]
          cases hhad : us[j].had <;> simp (maxSteps := 4000000) [hd0, hfr, hout, hcl, hcd, delA_none, a1, a1_n, a1_d, a1_m, a2, a2_n, a2_d, a2_m, hhad, hR]
      · simp only [Bool.not_eq_true] at hf
        have hTc : chainT r2 q2 x.rows us[j].key = .c (.own 4 []) := by simp [chainT, hf]
        have hcr : chainR x.rows us[j].key = [] := by simp [chainR, hf]
        have hR := hbad2 (by rw [hoj, hcr]; rfl)
        rw [hTc]
        simp (maxSteps := 4000000) [hd0, hfr, hout, hcl, hcd, delA_none, a1, a1_n, a1_d, a1_m, a2, a2_n, a2_d, a2_m]
        repeat (first | (refine And.intro (by kernel_rfl) ?_) | (refine And.intro (by omega) ?_))
        refine ⟨_, impl_isOpenOf_own _, ?_⟩
        simp (maxSteps := 4000000) [hd0, hfr, hout, hcl, hcd, delA_none, a1, a1_n, a1_d, a1_m, a2, a2_n, a2_d, a2_m, hR]
    · have : j = x.txns[i].undos.length := by omega
      subst this
      have hown : ownsF x.rows x.txns[i] = true := hinv2
      simp (maxSteps := 4000000) [hd0, hfr, hout, hcl, hcd, delA_none, a1, a1_n, a1_d, a1_m, a2, a2_n, a2_d, a2_m, w1]
      refine LK.intro (m - 1) [1, 183, 184, 185] [11] (by omega) (by decide) (by simp (maxSteps := 4000000) [hd0, hfr, hout, hcl, hcd, delA_none, a1, a1_n, a1_d, a1_m, a2, a2_n, a2_d, a2_m]) ⟨i + 1, by omega, by simpa using hnx2 hown, by simp⟩
  · rw [List.take_of_length_le (by omega)] at hinv
    rw [hE3, hinv]
    simp (maxSteps := 4000000) [hd0, hfr, hout, hcl, hcd, delA_none, a1, a1_n, a1_d, a1_m, a2, a2_n, a2_d, a2_m, eq_false (show ¬ (i : Int) < x.txns.length by omega)]
end Go.Proofs.YtnlbjfdmjlnlgaaGreat


namespace Go.Px
open Go.RowKit
set_option linter.unusedVariables false
set_option linter.unusedSimpArgs false
set_option linter.constructorNameAsVariable false

/-- A call that hands back x, leaves H', and overwrote arrays only below the root of the object r. -/
def PUpdR (P : Program) (f : FuncId) (args : List T) (H : HH) (x : T) (H' : HH) (r : Nm) : Prop := PCalls P f args H (fun T H1 lg => T = x ∧ H1 = H' ∧ ∀ e ∈ lg, e.1 = r ∧ ¬ e.2 = [])
theorem PUpdR.useCK {P f args H x H' d r} {KP : St → Prop} {t' o lg0} (h : PUpdR P f args H x H' r) (hr : r.1 = d) (ho : ∀ a q, OcleanT (hit [(r, a :: q)]) t') (hk : ∀ a q, ∀ en ∈ t', en.2.keep r (a :: q) = true) (hq : KP ⟨putD t' o x, H', lg0⟩) : PCalls P f args H (CK d KP t' o lg0) :=
  h.mono (by
    rintro T1 H1 lg ⟨rfl, rfl, hlg⟩
    have hform : ∀ e ∈ lg, ∃ a q, e = (r, a :: q) := fun e he => by
      obtain ⟨h1, h2⟩ := hlg e he
      obtain ⟨e1, e2⟩ := e
      cases e2 with
      | nil => exact absurd rfl h2
      | cons a q => exact ⟨a, q, by simp at h1; rw [h1]⟩
    refine ⟨fun e he => ?_, ?_⟩
    · obtain ⟨a, q, rfl⟩ := hform e he
      exact ho a q
    · have e1 : (t'.filter fun en => keepL lg en.2) = t' := by
        rw [List.filter_eq_self]
        intro en hen
        unfold keepL
        rw [List.all_eq_true]
        intro e he
        obtain ⟨a, q, rfl⟩ := hform e he
        exact hk a q en hen
      have e2 : lg.filter (fun e => decide (e.1.1 ≠ d)) = [] := by
        rw [List.filter_eq_nil_iff]
        intro e he
        simp [(hlg e he).1, hr]
      rw [e1, e2]
      exact hq)
/-- entry, for code that is looked at by PCode -/
theorem PUpdR.of {P : Program} {f : FuncId} {fn : Func} {c : Code} {args : List T} {H H' : HH} {x : T} {r : Nm} (kv : List Nat) (hf : P.funcs[f]? = some fn) (hb : fn.body = some c) (hN : args.length ≤ fn.ntmps)
    (h : ∀ d, d ≠ 0 → (∀ n, look H (d, n) = none) → CleanH (atD d) H → outH d H = H → PCode ⟨P, d, fn.ntmps⟩ kv c { t := enumT 0 args, H := H, lg := [] } (retK P d fn.results.toList (fun T H1 lg => T = x ∧ H1 = H' ∧ ∀ e ∈ lg, e.1 = r ∧ ¬ e.2 = []))) : PUpdR P f args H x H' r := by
  refine PCalls.of_code hf hb hN (fun d hd hfr hcl => PCode.sound (h d hd (fun n => ?_) hcl ?_))
  · cases hl : look H (d, n) with
    | none => rfl
    | some c => exact absurd rfl (hfr _ (look_mem hl))
  · unfold outH
    rw [List.filter_eq_self]
    intro e he
    simpa using hfr e he
end Go.Px


namespace Go.Proofs.YtnlbjfdmjlnlgaaGreat
open Go Go.Px Go.RowKit Go.Proofs
set_option linter.unnecessarySimpa false
set_option linter.unusedVariables false
set_option linter.unusedSimpArgs false
set_option maxRecDepth 100000
set_option maxHeartbeats 1000000
attribute [-simp] Int.not_le Int.not_lt
def badE (c : Int) : DEngineResult := ⟨c, 0, ⟨0, 0, [], []⟩⟩
theorem spec_l6Bad (H : HH) {c : Int} : PFun Tryz.prog 53 [I c] H (.a (badE c).enc) := by
  refine PFun.of [0, 2] Tryz.func53 rfl (by simp [Tryz.f53]) ?_
  intro d hd0 hfr hcl hout
  have hcd : ∀ n q, CleanH (hit [((d, n), q)]) H := fun n q => hcl.at
  simp (maxSteps := 4000000) [hd0, hfr, hout, hcl, hcd, delA_none, Tryz.f53, badE, DEngineResult.enc]
def resF (x y : DEngine) (v c : Int) : DEngineResult := if engF x ≠ 0 then badE (engF x) else if c ≠ 0 then badE c else ⟨0, v, y⟩
end Go.Proofs.YtnlbjfdmjlnlgaaGreat


namespace Go.Proofs.YtnlbjfdmjlnlgaaGreat
open Go Go.Px Go.RowKit Go.Proofs
set_option linter.unnecessarySimpa false
set_option linter.unusedVariables false
set_option linter.unusedSimpArgs false
set_option maxRecDepth 100000
set_option maxHeartbeats 1000000
attribute [-simp] Int.not_le Int.not_lt
theorem ixF_idxF {α : Type} {p : α → Bool} : ∀ {l : List α} {n : Nat}, ixF p n l = if idxF p l < 0 then -1 else idxF p l + n
  | [], n => by simp [ixF, idxF]
  | a :: l, n => by
    have := ixF_idxF (p := p) (l := l) (n := n + 1)
    have hg := idxF_ge (P := p) (l := l)
    simp only [ixF, idxF]
    by_cases h : p a = true
    · simp [h]
    · simp only [h, if_false]
      rw [this]
      by_cases h2 : idxF p l < 0
      · simp [h2]
      · simp only [h2, if_false, if_neg (show ¬ idxF p l + 1 < 0 by omega)]
        simp; omega
theorem ix0 {α : Type} {p : α → Bool} {l : List α} : idxF p l = ixF p 0 l := by
  have := ixF_idxF (p := p) (l := l) (n := 0)
  have hg := idxF_ge (P := p) (l := l)
  rw [this]; split <;> omega
theorem impl_Engine_txn_1 (H : HH) {r q r1 q1 n} {t : DTxn} {k : Int} (ha : arrAt H r q = some (1, [[.v (.int .i64 k)]])) : PFun Tryz.prog 126 [.a [.v (.int .i64 t.id_), .v (.int .i64 t.at_), .v (.int .i64 t.state), .v (.int .i64 t.done), .sl r1 q1 4 0 n], .c (.pt r q 1 0 0)] H (B (decide (t.id_ = k))) := by
  refine PFun.of [1, 2, 3] Tryz.func126 rfl (by simp [Tryz.f126]) ?_
  intro d hd0 hfr hcl hout
  have hcd : ∀ n q, CleanH (hit [((d, n), q)]) H := fun n q => hcl.at
  have ha_n : ∀ n, ¬ (d, n) = r := fun n => nm_ne (ne_of_arr hfr ha)
  have ha_d : ¬ r.1 = d := ne_of_arr hfr ha
  have ha_m : ∀ n, ¬ r = (d, n) := fun n => nm_ne' (ne_of_arr hfr ha)
  simp (maxSteps := 4000000) [hd0, hfr, hout, hcl, hcd, delA_none, ha, ha_n, ha_d, ha_m, Tryz.f126]
theorem rows_at {H : HH} {r : Nm} {x : DEngine} : arrAt ((r, .own 4 [x.enc]) :: H) r [(0, 3)] = some (2, x.rows.map DRow.enc) := by simp [DEngine.enc]
theorem impl_Engine_txn (H : HH) {r R} {x : DEngine} {id : Int} (hl : x.le 1048576) (hr0 : r.1 ≠ 0) (hrc : ∀ q, CleanH (hit [(r, q)]) H)
    (hn : (∀ t ∈ x.txns, t.id_ ≠ id) → R = .t [.c (.v (.pointer none)), I 4])
    (hs : ∀ i (hi : i < x.txns.length), ixF (fun t : DTxn => decide (t.id_ = id)) 0 x.txns = i → x.txns[i].id_ = id → R = if x.txns[i].state = 1 then .t [.c (.pt r [(0, 2)] 5 i 0), I 0] else .t [.c (.v (.pointer none)), I 10]) :
    PFun Tryz.prog 60 [.c (.pt r [] 4 0 0), I id] ((r, .own 4 [x.enc]) :: H) R := by
  have hC : ∀ d, ¬ r = (d, 3) → PFun Tryz.prog 125 [.c (.sl r [(0, 2)] 5 0 x.txns.length), .c (.fn 126 [.pt (d, 3) [] 1 0 0])] (((d, 3), .own 1 [[.v (.int .i64 id)]]) :: (r, .own 4 [x.enc]) :: H) (I (ixF (fun t : DTxn => decide (t.id_ = id)) 0 x.txns)) := fun d hd => by
    have h2 : arrAt (((d, 3), .own 1 [[.v (.int .i64 id)]]) :: (r, .own 4 [x.enc]) :: H) r [(0, 2)] = some (5, x.txns.map DTxn.enc) := by simp [DEngine.enc, show ¬ (d, 3) = r from fun e => hd e.symm]
    have h1 : arrAt (((d, 3), .own 1 [[.v (.int .i64 id)]]) :: (r, .own 4 [x.enc]) :: H) (d, 3) [] = some (1, [[.v (.int .i64 id)]]) := by simp
    have := slices_IndexFunc_Txn _ (P := fun t => decide (t.id_ = id)) (g := 126) (caps := [.pt (d, 3) [] 1 0 0]) hl.1.1 (Nat.le_refl _) h2 (by simp [isRef]) (by simp) (fun i hi => impl_Engine_txn_1 _ h1)
    rw [ix0] at this
    simpa using this
  refine PFun.of [0, 3, 4, 5, 6, 13, 16] Tryz.func60 rfl (by simp [Tryz.f60]) ?_
  intro d hd0 hfr0 hcl0 hout0
  have hrn : ∀ n, ¬ r = (d, n) := fun n h => by have := hfr0 n; rw [look_cons, if_pos h] at this; cases this
  have hrm : ∀ n, ¬ (d, n) = r := fun n h => hrn n h.symm
  have hrd : ¬ r.1 = d := fun h => hrn r.2 (by rw [← h])
  have hfr : ∀ n, Px.look H (d, n) = none := fun n => by have := hfr0 n; rwa [look_cons, if_neg (hrn n)] at this
  have hcl : CleanH (atD d) H := ((CleanH_cons _ _ _ _).1 hcl0).2
  have hout : outH d H = H := by have := hout0; rw [outH_cons, if_neg hrd] at this; exact (List.cons.inj this).2
  have hcd : ∀ n q, CleanH (hit [((d, n), q)]) H := fun n q => hcl.at
  clear hfr0 hcl0 hout0
  simp (maxSteps := 4000000) [hd0, hfr, hout, hcl, hcd, delA_none, hrn, hrm, hrd, hr0, hrc, Tryz.f60, DEngine.enc]
  have hC := hC d
  simp only [DEngine.enc] at hC
  refine (hC (hrn 3)).useCK ?_
  rcases ixF_some (p := fun t : DTxn => decide (t.id_ = id)) (l := x.txns) (n := 0) with ⟨h2, h3⟩ | ⟨i, hi, h2, h3⟩
  · have hR := hn (fun t ht => by simpa using h3 t ht)
    rw [h2]
    simp (maxSteps := 4000000) [hd0, hfr, hout, hcl, hcd, delA_none, hrn, hrm, hrd, hr0, hrc, hR]
  · have h2' : ixF (fun t : DTxn => decide (t.id_ = id)) 0 x.txns = i := by rw [h2]; omega
    have hR := hs i hi h2' (by simpa using h3)
    rw [h2']
    by_cases h5 : x.txns[i].state = 1
    · rw [if_pos h5] at hR
      simp (maxSteps := 4000000) [hd0, hfr, hout, hcl, hcd, delA_none, hrn, hrm, hrd, hr0, hrc, eq_false (show ¬ (i : Int) < 0 by omega), hi, DTxn.enc, h5, hR]
    · rw [if_neg h5] at hR
      simp (maxSteps := 4000000) [hd0, hfr, hout, hcl, hcd, delA_none, hrn, hrm, hrd, hr0, hrc, eq_false (show ¬ (i : Int) < 0 by omega), hi, DTxn.enc, h5, hR]
end Go.Proofs.YtnlbjfdmjlnlgaaGreat


namespace Go.Proofs.YtnlbjfdmjlnlgaaGreat
open Go Go.Px Go.RowKit Go.Proofs
set_option linter.unnecessarySimpa false
set_option linter.unusedVariables false
set_option linter.unusedSimpArgs false
set_option maxRecDepth 100000
set_option maxHeartbeats 1000000
attribute [-simp] Int.not_le Int.not_lt
theorem tri {a b v c : Int} {x y : DEngine} (h : (a, b, x) = (v, c, y)) : v = a ∧ c = b ∧ x = y := by cases h; exact ⟨rfl, rfl, rfl⟩
end Go.Proofs.YtnlbjfdmjlnlgaaGreat


namespace Go.Proofs.YtnlbjfdmjlnlgaaGreat
open Go Go.Px Go.RowKit Go.Proofs
set_option linter.unnecessarySimpa false
set_option linter.unusedVariables false
set_option linter.unusedSimpArgs false
set_option maxRecDepth 100000
set_option maxHeartbeats 1000000
attribute [-simp] Int.not_le Int.not_lt
theorem engF_clock {x : DEngine} (h : engF x = 0) : (1 ≤ x.next ∧ x.next ≤ 999) ∧ 0 ≤ x.clock ∧ x.clock ≤ 1000000 := by
  unfold engF at h
  split at h
  · omega
  · rename_i h1
    simp only [Bool.or_eq_true, Bool.not_eq_true', not_or, Bool.not_eq_false, inR, Bool.and_eq_true, decide_eq_true_eq] at h1
    omega
theorem engF_txns {x : DEngine} (h : engF x = 0) : txsF x.next x.clock none x.txns = 0 := by
  unfold engF at h
  split at h
  · omega
  · split at h
    · omega
    · split at h
      · rename_i h1; exact absurd h h1
      · rename_i h1; simpa using h1
def askF (x : DEngine) (id : Int) : Int × Int :=
  if engF x ≠ 0 then (0, engF x) else
    let i := ixF (fun t : DTxn => decide (t.id_ = id)) 0 x.txns
    if i < 0 then (0, 4) else if (x.txns.getD i.toNat ⟨0, 0, 0, 0, []⟩).state ≠ 1 then (0, 10) else (i, 0)
theorem spec_l6Asked (H : HH) {r0 q0 r1 q1 r2 q2} {x : DEngine} {id : Int} (hl : x.le 1048576)
    (a0 : arrAt H r0 q0 = some (4, [eRow x r1 q1 r2 q2])) (a1 : arrAt H r1 q1 = some (5, x.txns.map DTxn.enc)) (a2 : arrAt H r2 q2 = some (2, x.rows.map DRow.enc)) :
    PFun Tryz.prog 52 [.c (.pt r0 q0 4 0 0), I id] H (.t [I (askF x id).1, I (askF x id).2]) := by
  refine PFun.of [0, 1, 4, 5, 6, 7, 11, 17, 26] Tryz.func52 rfl (by simp [Tryz.f52]) ?_
  intro d hd0 hfr hcl hout
  have hcd : ∀ n q, CleanH (hit [((d, n), q)]) H := fun n q => hcl.at
  have a0_n : ∀ n, ¬ (d, n) = r0 := fun n => nm_ne (ne_of_arr hfr a0)
  have a0_d : ¬ r0.1 = d := ne_of_arr hfr a0
  have a0_m : ∀ n, ¬ r0 = (d, n) := fun n => nm_ne' (ne_of_arr hfr a0)
  have a1_n : ∀ n, ¬ (d, n) = r1 := fun n => nm_ne (ne_of_arr hfr a1)
  have a1_d : ¬ r1.1 = d := ne_of_arr hfr a1
  have a1_m : ∀ n, ¬ r1 = (d, n) := fun n => nm_ne' (ne_of_arr hfr a1)
  have a2_n : ∀ n, ¬ (d, n) = r2 := fun n => nm_ne (ne_of_arr hfr a2)
  have a2_d : ¬ r2.1 = d := ne_of_arr hfr a2
  have a2_m : ∀ n, ¬ r2 = (d, n) := fun n => nm_ne' (ne_of_arr hfr a2)
  simp (maxSteps := 4000000) [hd0, hfr, hout, hcl, hcd, delA_none, a0, a0_n, a0_d, a0_m, a1, a1_n, a1_d, a1_m, a2, a2_n, a2_d, a2_m, Tryz.f52]
  refine (spec_l6Fault _ (x := x) (r1 := r1) (q1 := q1) (r2 := r2) (q2 := q2) hl (by simp (maxSteps := 4000000) [hd0, hfr, hout, hcl, hcd, delA_none, a0, a0_n, a0_d, a0_m, a1, a1_n, a1_d, a1_m, a2, a2_n, a2_d, a2_m]) (by simp (maxSteps := 4000000) [hd0, hfr, hout, hcl, hcd, delA_none, a0, a0_n, a0_d, a0_m, a1, a1_n, a1_d, a1_m, a2, a2_n, a2_d, a2_m]) (by simp (maxSteps := 4000000) [hd0, hfr, hout, hcl, hcd, delA_none, a0, a0_n, a0_d, a0_m, a1, a1_n, a1_d, a1_m, a2, a2_n, a2_d, a2_m])).useCK ?_
  by_cases e0 : engF x = 0
  case neg => simp (maxSteps := 4000000) [hd0, hfr, hout, hcl, hcd, delA_none, a0, a0_n, a0_d, a0_m, a1, a1_n, a1_d, a1_m, a2, a2_n, a2_d, a2_m, eq_false e0, askF]
  have hF : askF x id = (let i := ixF (fun t : DTxn => decide (t.id_ = id)) 0 x.txns
    if i < 0 then (0, 4) else if (x.txns.getD i.toNat ⟨0, 0, 0, 0, []⟩).state ≠ 1 then (0, 10) else (i, 0)) := by unfold askF; rw [if_neg (by simp [e0])]
  generalize askF x id = R at *
  rw [e0]
  simp (maxSteps := 4000000) [hd0, hfr, hout, hcl, hcd, delA_none, a0, a0_n, a0_d, a0_m, a1, a1_n, a1_d, a1_m, a2, a2_n, a2_d, a2_m]
  refine (spec_l6Txn _ (x := x) (r1 := r1) (q1 := q1) (r2 := r2) (q2 := q2) hl (by simp (maxSteps := 4000000) [hd0, hfr, hout, hcl, hcd, delA_none, a0, a0_n, a0_d, a0_m, a1, a1_n, a1_d, a1_m, a2, a2_n, a2_d, a2_m]) (by simp (maxSteps := 4000000) [hd0, hfr, hout, hcl, hcd, delA_none, a0, a0_n, a0_d, a0_m, a1, a1_n, a1_d, a1_m, a2, a2_n, a2_d, a2_m])).useCK ?_
  rcases ixF_some (p := fun t : DTxn => decide (t.id_ = id)) (l := x.txns) (n := 0) with ⟨h2, h3⟩ | ⟨i, hi, h2, h3⟩
  · rw [h2] at hF ⊢
    simp at hF
    simp (maxSteps := 4000000) [hd0, hfr, hout, hcl, hcd, delA_none, a0, a0_n, a0_d, a0_m, a1, a1_n, a1_d, a1_m, a2, a2_n, a2_d, a2_m, hF]
  · have h2' : ixF (fun t : DTxn => decide (t.id_ = id)) 0 x.txns = i := by rw [h2]; omega
    rw [h2'] at hF ⊢
    simp only [if_neg (show ¬ (i : Int) < 0 by omega), Int.toNat_natCast, List.getD_eq_getElem?_getD, List.getElem?_eq_getElem hi, Option.getD_some] at hF
    by_cases h5 : x.txns[i].state = 1
    · rw [if_neg (by simp [h5])] at hF
      simp (maxSteps := 4000000) [hd0, hfr, hout, hcl, hcd, delA_none, a0, a0_n, a0_d, a0_m, a1, a1_n, a1_d, a1_m, a2, a2_n, a2_d, a2_m, eRow, eq_false (show ¬ (i : Int) < 0 by omega), hi, DTxn.enc, h5, hF]
    · rw [if_pos h5] at hF
      simp (maxSteps := 4000000) [hd0, hfr, hout, hcl, hcd, delA_none, a0, a0_n, a0_d, a0_m, a1, a1_n, a1_d, a1_m, a2, a2_n, a2_d, a2_m, eRow, eq_false (show ¬ (i : Int) < 0 by omega), hi, DTxn.enc, h5, hF]
end Go.Proofs.YtnlbjfdmjlnlgaaGreat


namespace Go.Proofs.YtnlbjfdmjlnlgaaGreat
open Go Go.Px Go.RowKit Go.Proofs
set_option linter.unnecessarySimpa false
set_option linter.unusedVariables false
set_option linter.unusedSimpArgs false
set_option maxRecDepth 100000
set_option maxHeartbeats 1000000
attribute [-simp] Int.not_le Int.not_lt
theorem askF_bad {x : DEngine} {id : Int} (h : engF x ≠ 0) : askF x id = (0, engF x) := by unfold askF; rw [if_pos h]
theorem askF_none {x : DEngine} {id : Int} (h : engF x = 0) (h2 : ∀ t ∈ x.txns, t.id_ ≠ id) : askF x id = (0, 4) := by
  unfold askF; rw [if_neg (by simp [h]), ixF_none (fun t ht => by simpa using h2 t ht)]; simp
theorem askF_some {x : DEngine} {id : Int} {i : Nat} (h : engF x = 0) (hi : i < x.txns.length) (h2 : ixF (fun t : DTxn => decide (t.id_ = id)) 0 x.txns = i) : askF x id = if x.txns[i].state ≠ 1 then (0, 10) else ((i : Int), 0) := by
  unfold askF
  rw [if_neg (by simp [h])]
  simp only [h2, if_neg (show ¬ (i : Int) < 0 by omega), Int.toNat_natCast, List.getD_eq_getElem?_getD, List.getElem?_eq_getElem hi, Option.getD_some]
end Go.Proofs.YtnlbjfdmjlnlgaaGreat


namespace Go.Proofs.YtnlbjfdmjlnlgaaGreat
open Go Go.Px Go.RowKit Go.Proofs
set_option linter.unnecessarySimpa false
set_option linter.unusedVariables false
set_option linter.unusedSimpArgs false
set_option maxRecDepth 100000
set_option maxHeartbeats 1000000
attribute [-simp] Int.not_le Int.not_lt
theorem badE_le {B : Nat} {c : Int} : (badE c).le B := by simp [badE, DEngineResult.le, DEngine.le]
end Go.Proofs.YtnlbjfdmjlnlgaaGreat


namespace Go.Px
open Go.RowKit
set_option linter.unusedVariables false
set_option linter.unusedSimpArgs false
set_option linter.constructorNameAsVariable false

def drawChkF (ops : Array Oper) (m : Nat) : Bool :=
  let an := ancs ops ops.size
  m ≤ ops.size &&
  ((List.range ops.size).all fun i => (deps ops i).all fun d => d < i) &&
  ((List.range m).all fun i => (usAt ops i).all fun j => (List.range m).all fun k => k == i || dstAt ops k != some j || (k < i && (an.getD i []).contains k)) &&
  ((List.range m).all fun i => (List.range m).all fun k => k == i || dstAt ops k != dstAt ops i) &&
  ((List.range ops.size).all fun i => i < m || (List.range i).all fun k => k == 0 || (an.getD i []).contains k)
structure DrawOkF (ops : Array Oper) (m : Nat) : Prop where
  le : m ≤ ops.size
  dep : ∀ i, i < ops.size → ∀ d ∈ deps ops i, d < i
  use : ∀ i, i < m → ∀ j ∈ usAt ops i, ∀ k, k < m → k ≠ i → dstAt ops k = some j → k < i ∧ k ∈ (ancs ops ops.size).getD i []
  dst : ∀ i, i < m → ∀ k, k < m → k ≠ i → dstAt ops k ≠ dstAt ops i
  tail : ∀ i, i < ops.size → m ≤ i → ∀ k, k < i → k = 0 ∨ k ∈ (ancs ops ops.size).getD i []
theorem drawChkF_ok {ops m} (h : drawChkF ops m = true) : DrawOkF ops m := by
  simp only [drawChkF, Bool.and_eq_true, decide_eq_true_eq, List.all_eq_true, List.mem_range, Bool.or_eq_true, beq_iff_eq, bne_iff_ne, List.contains_iff_mem] at h
  obtain ⟨⟨⟨⟨h1, h2⟩, h3⟩, h4⟩, h5⟩ := h
  refine ⟨h1, fun i hi d hd => h2 i hi d hd, fun i hi j hj k hk hne hd => ?_, fun i hi k hk hne hd => ?_, fun i hi hm k hk => ?_⟩
  · rcases h3 i hi j hj k hk with (h | h) | h
    · exact absurd h hne
    · exact absurd hd h
    · exact h
  · rcases h4 i hi k hk with h | h
    · exact absurd h hne
    · exact h hd
  · rcases h5 i hi with h | h
    · omega
    · exact h k hk
/-- all that does not wait for operation 0 is apart from it -/
def freeAt0 (ops : Array Oper) (o0 : Oper) : Bool := (List.range ops.size).all fun j => j == 0 || (deps ops j).contains 0 || (match ops[j]? with | some o => o0.apart ops o | none => true)
theorem freeAt0_ok {ops o0} (h : freeAt0 ops o0 = true) (j : Nat) (oj : Oper) (hoj : ops[j]? = some oj) (hne : j ≠ 0) (hno : ∀ e ∈ oj.after, Region.binds .any e = true → e.on ≠ 0) : o0.apart ops oj = true := by
  simp only [freeAt0, List.all_eq_true, List.mem_range, Bool.or_eq_true, beq_iff_eq, List.contains_iff_mem] at h
  have hj : j < ops.size := (Array.getElem?_eq_some_iff.1 hoj).1
  rcases h j hj with (h | h) | h
  · exact absurd h hne
  · exfalso
    unfold deps at h
    rw [hoj] at h
    obtain ⟨e, he, h0⟩ := List.mem_map.1 h
    obtain ⟨he1, he2⟩ := List.mem_filter.1 he
    exact hno e (by simpa using he1) he2 h0
  · rw [hoj] at h; exact h
/-- The tail: one behind the other. -/
theorem tail_anyF {P : Program} {ops : Array Oper} {m : Nat} {Q : Exit → Act → World → Prop} (hdep : ∀ i, i < ops.size → ∀ d ∈ deps ops i, d < i) (htail : ∀ i, i < ops.size → m ≤ i → ∀ k, k < i → k = 0 ∨ k ∈ (ancs ops ops.size).getD i []) (hm0 : 0 < m) :
    ∀ (r k : Nat) (listed : Array Bool) (fuel : Nat) (a : Act) (w : World), k + r = ops.size → m ≤ k → listed.size = ops.size → Closed ops listed → (∀ i, i < ops.size → (listed.getD i true = true ↔ i < k)) → r ≤ fuel → wpOps P ops Q (List.range' k r) a w → wpAny P .any ops Q fuel listed a w := by
  intro r
  induction r with
  | zero =>
    intro k listed fuel a w hk hm hs hc hl hf h
    have hq : Q .normal a w := by simpa [wpOps] using h
    have hr : Region.ready .any ops listed = [] := by
      apply List.eq_nil_iff_forall_not_mem.2
      intro i hi
      obtain ⟨h1, h2, -⟩ := ready_iff.1 hi
      have := (hl i h1).2 (by omega)
      rw [h2] at this; cases this
    cases fuel with
    | zero => exact ⟨hr, hq⟩
    | succ fuel => exact ⟨fun _ => hq, fun i hi => by rw [hr] at hi; simp at hi⟩
  | succ r ih =>
    intro k listed fuel a w hk hm hs hc hl hf h
    cases fuel with
    | zero => omega
    | succ fuel =>
      have hkn : k < ops.size := by omega
      have hkl : listed.getD k true = false := by
        cases hh : listed.getD k true with
        | false => rfl
        | true => have := (hl k hkn).1 hh; omega
      have hkr : k ∈ Region.ready .any ops listed := ready_iff.2 ⟨hkn, hkl, fun d hd => by
        have hdk := hdep k hkn d hd
        rw [getD_both hs (by omega) false true]
        exact (hl d (by omega)).2 hdk⟩
      have honly : ∀ i ∈ Region.ready .any ops listed, i = k := by
        intro i hi
        obtain ⟨h1, h2, h3⟩ := ready_iff.1 hi
        apply Classical.byContradiction
        intro hne
        have hge : ¬ i < k := fun hlt => by have := (hl i h1).2 hlt; rw [h2] at this; cases this
        have hki : k < i := by omega
        have := closed_anc hs hc ops.size i h1 h1 h3 k ((htail i h1 (by omega) k hki).resolve_left (by omega))
        rw [getD_both hs (by omega) false true, hkl] at this
        cases this
      refine ⟨fun h0 => by rw [h0] at hkr; simp at hkr, fun i hi => ?_⟩
      rw [honly i hi]
      have h' : wpOp P ops Q k (wpOps P ops Q (List.range' (k + 1) r)) a w := by
        rw [← wpOps_cons]
        simpa [List.range'_succ] using h
      refine wpOp_mono (fun a' w' h2 => ih (k + 1) _ fuel a' w' (by omega) (by omega) (by simp [hs]) ?_ ?_ (by omega) h2) h'
      · intro i hi' hio d hd
        rw [getD_set hs hkn] at hi' ⊢
        by_cases hik : i = k
        · subst hik
          obtain ⟨-, -, h3⟩ := ready_iff.1 hkr
          split
          · rfl
          · exact h3 d hd
        · rw [if_neg hik] at hi'
          split
          · rfl
          · exact hc i hi' hio d hd
      · intro i hio
        rw [getD_set hs hkn]
        by_cases hik : i = k
        · subst hik; simp
        · rw [if_neg hik, hl i hio]; omega
theorem SCode.drawF {cx id ops s K} (m : Nat) (keep : List Nat) (hmx : cx.P.follows .mixedOrders = true) (hm0 : 0 < m) {o0 : Oper} {x0 : Operand} {d0 : Nat} (ho0 : ops[0]? = some o0) (hop0 : o0.op = .move x0) (hg0 : o0.guard = none) (hd0 : o0.dst = some d0) (hfr0 : freeAt0 ops o0 = true) (hns : Region.noSelect ops = true) (hchk : drawChkF ops m = true) (hkeep : keep.Nodup)
    (h : FRun cx ops m s.H m 0 s.t [] (fun val cs => (∀ j ∈ keep, j ∉ cs) ∧ SOps cx ops (List.range' m (ops.size - m)) ⟨live keep val, s.H, s.lg⟩ (K .normal))) : SCode cx (.region id ops true) s K := by
  intro e a w hd hN hr
  have ok := drawChkF_ok hchk
  obtain ⟨xs, csA, csL, hlen, ⟨hkc, htail⟩, -, hrows0⟩ := h.table
  obtain ⟨t0, H, lg⟩ := s
  have hrows : ∀ k, k < m → ∃ dst x, xs[k]? = some (dst, x) ∧ dstAt ops k = some dst ∧ dst < cx.N ∧ FOp cx ops k ((xs.take k).reverse ++ t0) H (usAt ops k) (csL.getD k []) dst x ∧ consChk ops m k (csL.getD k []) = true ∧ ∀ j ∈ csL.getD k [], j ∈ csA := by
    intro k hk
    obtain ⟨dst, x, r⟩ := hrows0 k hk
    have e : 0 + k = k := by omega
    exact ⟨dst, x, r.at_, by rw [← r.dst_, e], r.lt, by have := r.fop; rwa [e] at this, by have := r.chk; rwa [e] at this, r.sub⟩
  -- what stands in the table for a place
  have huniq : ∀ k dst x, k < m → xs[k]? = some (dst, x) → ∀ (k' : Nat) (e' : Nat × T), xs[k']? = some e' → e'.1 = dst → k' = k := by
    intro k dst x hk hx k' e' he' hj'
    apply Classical.byContradiction; intro hne
    have hk' : k' < m := by rw [← hlen]; exact (List.getElem?_eq_some_iff.1 he').1
    obtain ⟨d1, x1, r1, r2, -⟩ := hrows k hk
    obtain ⟨d2, x2, q1, q2, -⟩ := hrows k' hk'
    rw [hx] at r1; cases r1
    rw [he'] at q1; cases q1
    exact ok.dst k hk k' hk' hne (by rw [r2, q2]; simp at hj'; rw [hj'])
  have hnone : ∀ (n j : Nat), n ≤ m → (∀ k, k < n → dstAt ops k ≠ some j) → getT (xs.take n).reverse j = none := by
    intro n j hn hno
    refine getT_none (fun e' he' ej => ?_)
    obtain ⟨k, hk⟩ := List.getElem?_of_mem (List.mem_reverse.1 he')
    rw [List.getElem?_take] at hk
    split at hk
    · rename_i hkn
      obtain ⟨d', x', r1, r2, -⟩ := hrows k (by omega)
      rw [hk] at r1; cases r1
      exact hno k hkn (by rw [r2]; simp at ej; rw [ej])
    · cases hk
  have hsome : ∀ (n k dst : Nat) (x : T), n ≤ m → k < n → xs[k]? = some (dst, x) → getT (xs.take n).reverse dst = some x := by
    intro n k dst x hn hk hx
    refine getT_rev (k := k) (by rw [List.getElem?_take, if_pos hk]; exact hx) (fun k' e' he' hj' => ?_)
    rw [List.getElem?_take] at he'
    split at he'
    · exact huniq k dst x (by omega) hx k' e' he' hj'
    · cases he'
  have hfull : xs.take m = xs := by rw [← hlen, List.take_length]
  let Q : Exit → Act → World → Prop := fun ex a' w' => (∀ c, ex ≠ .panic c) ∧ ∃ s', K ex s' ∧ Rel e s' a' w'
  let I1 : Array Bool → List (Nat × T) → Prop := fun listed t => ∀ k, k < m → listed.getD k true = true → ∀ dst x, xs[k]? = some (dst, x) → (∀ c, c < m → listed.getD c true = true → dst ∉ csL.getD c []) → getT t dst = some x
  let I2 : Array Bool → List (Nat × T) → Prop := fun listed t => ∀ j, (∀ k, k < m → listed.getD k true = true → dstAt ops k ≠ some j) → (∀ c, c < m → listed.getD c true = true → j ∉ csL.getD c []) → getT t j = getT t0 j
  have hend : ∀ (listed : Array Bool) (t : List (Nat × T)) (a : Act) (w : World) (fuel : Nat), listed.size = ops.size → Closed ops listed → (∀ i, m ≤ i → i < ops.size → listed.getD i true = false) → ops.size - m ≤ fuel → (∀ i, i < m → listed.getD i true = true) → Rel e ⟨t, H, lg⟩ a w → I1 listed t → I2 listed t → wpAny cx.P .any ops Q fuel listed a w := by
    intro listed t a w fuel hs hc hl hf hall hr i1 i2
    have hpick : Rel e ⟨live keep (xs.reverse ++ t0), H, lg⟩ a w := hr.pick hkeep (fun j hj => by
      have hcs : ∀ c, c < m → listed.getD c true = true → j ∉ csL.getD c [] := fun c hc' _ hm => by
        obtain ⟨d', x', -, -, -, -, -, hsub⟩ := hrows c hc'
        exact hkc _ hj (hsub _ hm)
      by_cases hex : ∃ k, k < m ∧ dstAt ops k = some j
      · obtain ⟨k, hk, hdk⟩ := hex
        obtain ⟨dst, x, r1, r2, -⟩ := hrows k hk
        rw [hdk] at r2; cases r2
        have := hsome m k j x (Nat.le_refl _) hk r1
        rw [hfull] at this
        rw [i1 k hk (hall k hk) j x r1 hcs, getT_append, this]
        rfl
      · have hno : ∀ k, k < m → dstAt ops k ≠ some j := fun k hk hd => hex ⟨k, hk, hd⟩
        have := hnone m j (Nat.le_refl _) hno
        rw [hfull] at this
        rw [i2 j (fun k hk _ => hno k hk) hcs, getT_append, this]
        rfl)
    refine tail_anyF ok.dep ok.tail hm0 (ops.size - m) m listed fuel a w (by have := ok.le; omega) (Nat.le_refl _) hs hc (fun i hi => ⟨fun h => ?_, fun h => hall i h⟩) hf ?_
    · apply Classical.byContradiction; intro hge
      rw [hl i (by omega) hi] at h; cases h
    · exact htail e a w Q hd hN hpick (fun s' a' w' h1 h2 => ⟨(fun c h => by cases h), s', h1, h2⟩)
  have key : ∀ (fuel : Nat) (listed : Array Bool) (t : List (Nat × T)) (a : Act) (w : World), listed.size = ops.size → Closed ops listed → (∀ i, m ≤ i → i < ops.size → listed.getD i true = false) → unl listed ops.size ≤ fuel → listed.getD 0 true = true → Rel e ⟨t, H, lg⟩ a w →
      I1 listed t → I2 listed t → wpAny cx.P .any ops Q fuel listed a w := by
    intro fuel
    induction fuel with
    | zero =>
      intro listed t a w hs hc hl hu hz hr i1 i2
      have hall := unl_zero (Nat.le_zero.1 hu)
      refine hend listed t a w 0 hs hc hl ?_ (fun i hi => hall i (by have := ok.le; omega)) hr i1 i2
      apply Classical.byContradiction
      intro hne
      have hlt : m < ops.size := by omega
      have := hl m (Nat.le_refl _) hlt
      rw [hall m hlt] at this; cases this
    | succ fuel ih =>
      intro listed t a w hs hc hl hu hz hr i1 i2
      by_cases hall : ∀ i, i < m → listed.getD i true = true
      · refine hend listed t a w (fuel + 1) hs hc hl ?_ hall hr i1 i2
        have := countP_ge (m := m) (n := ops.size) (p := fun i => !listed.getD i true) (fun i h1 h2 => by simp [hl i h1 h2])
        unfold unl at hu
        omega
      · have hready : ∀ i ∈ Region.ready .any ops listed, i < m := by
          intro i hi
          obtain ⟨h1, h2, h3⟩ := ready_iff.1 hi
          apply Classical.byContradiction
          intro hge
          apply hall
          intro k hk
          have hmle := ok.le
          rcases ok.tail i h1 (by omega) k (by omega) with hk0 | hka
          · rw [hk0]; exact hz
          · have := closed_anc hs hc ops.size i h1 h1 h3 k hka
            rw [getD_both hs (by omega) true false]; exact this
        refine ⟨fun h0 => ?_, fun i hi => ?_⟩
        · exfalso
          -- the first that is not listed is ready
          have hmin : ∀ n, n ≤ m → (∀ i, i < n → listed.getD i true = true) ∨ ∃ i, i < n ∧ listed.getD i true = false ∧ ∀ k, k < i → listed.getD k true = true := by
            intro n
            induction n with
            | zero => intro _; left; intro i hi; omega
            | succ n ihn =>
              intro hn
              rcases ihn (by omega) with h | ⟨i, h1, h2, h3⟩
              · cases hln : listed.getD n true with
                | true =>
                  left; intro i hi
                  by_cases hin : i = n
                  · rw [hin, hln]
                  · exact h i (by omega)
                | false => right; exact ⟨n, by omega, hln, h⟩
              · right; exact ⟨i, by omega, h2, h3⟩
          rcases hmin m (Nat.le_refl _) with h | ⟨i, h1, h2, h3⟩
          · exact hall h
          · have hmle := ok.le
            have : i ∈ Region.ready .any ops listed := ready_iff.2 ⟨by omega, h2, fun d hdd => by
              have hdi := ok.dep i (by omega) d hdd
              rw [getD_both hs (by omega) false true]; exact h3 d hdi⟩
            rw [h0] at this; simp at this
        · have him := hready i hi
          obtain ⟨h1, h2, h3⟩ := ready_iff.1 hi
          have hanc := closed_anc hs hc ops.size i h1 h1 h3
          obtain ⟨dst, x, r1, r2, r3, r4, r5, r6⟩ := hrows i him
          have hmle := ok.le
          have hag : Agree t ((xs.take i).reverse ++ t0) (usAt ops i) := by
            intro j hj
            have hcs : ∀ c, c < m → listed.getD c true = true → j ∉ csL.getD c [] := fun c hc' hlc hm => by
              obtain ⟨d', x', -, -, -, -, hchk', -⟩ := hrows c hc'
              have hci : i ≠ c := fun e => by rw [← e, h2] at hlc; cases hlc
              exact consChk_iff hchk' j hm i him hci hj
            by_cases hex : ∃ k, k < m ∧ k ≠ i ∧ dstAt ops k = some j
            · obtain ⟨k, hk, hki, hdk⟩ := hex
              obtain ⟨hlt, hka⟩ := ok.use i him j hj k hk hki hdk
              have hkl := hanc k hka
              rw [getD_both hs (by omega) false true] at hkl
              obtain ⟨d', x', q1, q2, -⟩ := hrows k hk
              rw [hdk] at q2; cases q2
              rw [i1 k hk hkl j x' q1 hcs, getT_append, hsome i k j x' (by omega) hlt q1]
              rfl
            · have hno : ∀ k, k < m → k ≠ i → dstAt ops k ≠ some j := fun k hk hki hd => hex ⟨k, hk, hki, hd⟩
              rw [i2 j (fun k hk hkl => hno k hk (fun e => by rw [e, h2] at hkl; cases hkl)) hcs, getT_append, hnone i j (by omega) (fun k hk => hno k (by omega) (by omega))]
              rfl
          refine r4 e a w t lg _ Q hd hN hag hr (fun a' w' hr' => ?_)
          have hset : ∀ k, (listed.setIfInBounds i true).getD k true = true → k = i ∨ listed.getD k true = true := by
            intro k hk
            rw [getD_set hs h1] at hk
            split at hk
            · left; assumption
            · right; exact hk
          have hset2 : ∀ k, listed.getD k true = true → (listed.setIfInBounds i true).getD k true = true := by
            intro k hk
            rw [getD_set hs h1]
            split
            · rfl
            · exact hk
          have hseti : (listed.setIfInBounds i true).getD i true = true := by rw [getD_set hs h1, if_pos rfl]
          refine ih _ _ a' w' (by simp [hs]) ?_ ?_ ?_ (hset2 0 hz) hr' ?_ ?_
          · intro k hk hko d hdd
            rw [getD_set hs h1] at hk ⊢
            split
            · rfl
            · split at hk
              · rename_i hki; subst hki; exact h3 d hdd
              · exact hc k hk hko d hdd
          · intro k hk hko
            rw [getD_set hs h1, if_neg (by omega)]
            exact hl k hk hko
          · have := unl_set hs h1 h2; omega
          · intro k hk hkl dst' x' hx' hcs
            rcases hset k hkl with rfl | hkl'
            · rw [r1] at hx'; cases hx'
              exact getT_setT_self
            · by_cases hki : k = i
              · subst hki; rw [r1] at hx'; cases hx'; exact getT_setT_self
              · have hne : dst' ≠ dst := fun e' => by
                  obtain ⟨d2, x2, q1, q2, -⟩ := hrows k hk
                  rw [hx'] at q1; cases q1
                  exact ok.dst i him k hk hki (by rw [q2, r2, e'])
                rw [getT_setT_ne hne, getT_delL_ne (hcs i him hseti)]
                exact i1 k hk hkl' dst' x' hx' (fun c hc' hcl => hcs c hc' (hset2 c hcl))
          · intro j hj hcs
            have hne : j ≠ dst := fun e' => hj i him hseti (by rw [r2, e'])
            rw [getT_setT_ne hne, getT_delL_ne (hcs i him hseti)]
            exact i2 j (fun k hk hkl => hj k hk (hset2 k hkl)) (fun c hc' hcl => hcs c hc' (hset2 c hcl))
  obtain ⟨hdf, β, F, G, hx⟩ := hr
  have hfalse : ∀ i, i < ops.size → (Array.replicate ops.size false).getD i true = false := fun i hi => by simp [Array.getD_eq_getD_getElem?, hi]
  have hsz : 0 < ops.size := by have := ok.le; omega
  refine wp_mono (Q := Q) (wp_region_any hmx ?_) (fun ex a w h => h.2)
  have hr0 : Rel e ⟨t0, H, lg⟩ a { w with drawn := w.drawn + 1 } := ⟨hdf, β, F, G, hx.draw⟩
  have hdep0 : deps ops 0 = [] := by
    cases hdp : deps ops 0 with
    | nil => rfl
    | cons a l => have := ok.dep 0 hsz a (by rw [hdp]; simp); omega
  obtain ⟨n, hn⟩ : ∃ n, ops.size = n + 1 := ⟨ops.size - 1, by omega⟩
  have hy : Yields cx.P ops o0 (a.eval x0) a := .inl ⟨by simp [Region.wanted, hg0], fun w => by simp [execOp, hop0, Sem.run, pure]⟩
  have hready0 : 0 ∈ Region.ready .any ops (Array.replicate ops.size false) := ready_iff.2 ⟨hsz, hfalse 0 hsz, fun d hd => by rw [hdep0] at hd; simp at hd⟩
  have hgoal := wpAny_first (P := cx.P) (md := .any) (Q := Q) ho0 (Region.noSelect_spec hns) (fun c a w h => absurd rfl (h.1 c)) n (Array.replicate ops.size false) a { w with drawn := w.drawn + 1 }
    (fun j oj hoj hne _ hno => freeAt0_ok hfr0 j oj hoj hne hno) hready0 hy
  have hgoal2 : wpAny cx.P .any ops Q (n + 1) (Array.replicate ops.size false) a { w with drawn := w.drawn + 1 } := by
    refine hgoal ?_
    obtain ⟨dst, x, r1, r2, r3, r4, r5, r6⟩ := hrows 0 hm0
    have hag : Agree t0 ((xs.take 0).reverse ++ t0) (usAt ops 0) := by simp [Agree]
    have hw := r4 e a _ t0 lg (wpAny cx.P .any ops Q n ((Array.replicate ops.size false).setIfInBounds 0 true)) Q hd hN hag hr0 (fun a' w' hr' => ?_)
    · simp only [wpOp, ho0] at hw
      rw [if_pos (by simp [Region.wanted, hg0])] at hw
      rcases hw with hw | hw
      · simpa [Oper.wp, execOp, hop0, Sem.run, pure, Oper.upon] using hw
      · exfalso
        have := hw.1.1
        have hp : (Sem.pure (Next.value (a.eval x0)) : Sem Next).runT cx.P { w with drawn := w.drawn + 1 } #[] = (.ok (.value (a.eval x0)) { w with drawn := w.drawn + 1 }, #[]) := rfl
        have he : execOp a.eval o0 = Sem.pure (Next.value (a.eval x0)) := by simp [execOp, hop0, pure]
        rw [he, hp] at this
        simp at this
    · have hset : ∀ k, ((Array.replicate ops.size false).setIfInBounds 0 true).getD k true = true → k < ops.size → k = 0 := by
        intro k hk hko
        rw [getD_set (n := ops.size) (by simp) hsz] at hk
        split at hk
        · assumption
        · rw [hfalse k hko] at hk; cases hk
      have hset0 : ((Array.replicate ops.size false).setIfInBounds 0 true).getD 0 true = true := by rw [getD_set (n := ops.size) (by simp) hsz, if_pos rfl]
      refine key n _ _ a' w' (by simp) ?_ ?_ ?_ hset0 hr' ?_ ?_
      · intro k hk hko d hdd
        rw [hset k hk hko, hdep0] at hdd
        simp at hdd
      · intro k hk hko
        rw [getD_set (n := ops.size) (by simp) hsz, if_neg (by omega)]
        exact hfalse k hko
      · have h1 := unl_set (n := ops.size) (i := 0) (listed := Array.replicate ops.size false) (by simp) hsz (hfalse 0 hsz)
        have h2 : unl (Array.replicate ops.size false) ops.size ≤ ops.size := by unfold unl; exact Nat.le_trans List.countP_le_length (by simp)
        omega
      · intro k hk hkl dst' x' hx' hcs
        have hk0 := hset k hkl (by have := ok.le; omega)
        subst hk0
        rw [r1] at hx'; cases hx'
        exact getT_setT_self
      · intro j hj hcs
        have hne : j ≠ dst := fun e' => hj 0 hm0 hset0 (by rw [r2, e'])
        rw [getT_setT_ne hne, getT_delL_ne (hcs 0 hm0 hset0)]
  rw [← hn] at hgoal2
  exact hgoal2
def moveAt0 (ops : Array Oper) : Bool := match ops[0]? with
  | some o => (match o.op with | .move _ => true | _ => false) && o.guard.isNone && o.dst.isSome && freeAt0 ops o && Region.noSelect ops
  | none => false
/-- a drawn region that begins with a `move` that not all of the tail waits for: the move is taken first -/
theorem DrawK.introF {cx kv id ops t H lg K} (m : Nat) (keep : List Nat) (hmx : cx.P.follows .mixedOrders = true) (hm0 : 0 < m) (h0 : moveAt0 ops = true) (hchk : drawChkF ops m = true) (hkeep : keep.Nodup)
    (h : FRun' cx ops m H (FTail cx ops m keep H lg (kvK kv K)) m 0 t []) : DrawK cx kv id ops ⟨t, H, lg⟩ K := by
  unfold moveAt0 at h0
  split at h0
  · rename_i o ho
    simp only [Bool.and_eq_true, Option.isNone_iff_eq_none] at h0
    obtain ⟨⟨⟨⟨h1, h2⟩, h3⟩, h4⟩, h5⟩ := h0
    obtain ⟨d0, h3⟩ := Option.isSome_iff_exists.1 h3
    split at h1
    · rename_i x0 hx0
      refine SCode.drawF m keep hmx hm0 ho hx0 h2 h3 h4 h5 hchk hkeep ?_
      refine FRun'.to (FRun'.mono (fun val cs hv => ?_) h)
      exact ⟨hv.1, SOps.mono (POps.sound hv.2) fun s' hs => by
        refine SOps.ghost (Ghost.keep (fun e => kv.contains e.1)) (SOps.nil ?_)
        rw [← keepV_filter]; exact hs⟩
    · cases h1
  · cases h0
end Go.Px


namespace Go.Proofs.YtnlbjfdmjlnlgaaGreat
open Go Go.Px Go.RowKit Go.Proofs
set_option linter.unnecessarySimpa false
set_option linter.unusedVariables false
set_option linter.unusedSimpArgs false
set_option maxRecDepth 100000
set_option maxHeartbeats 1000000
attribute [-simp] Int.not_le Int.not_lt
end Go.Proofs.YtnlbjfdmjlnlgaaGreat


namespace Go.Px
open Go.RowKit
set_option linter.unnecessarySimpa false
set_option linter.unusedVariables false
set_option linter.unusedSimpArgs false
set_option linter.constructorNameAsVariable false

/-- rows of cells, and the values of each -/
inductive RRep (R : Cell → Value → Prop) (w : World) : List (List Cell) → List (List Value) → List Nat → Prop
  | nil : RRep R w [] [] []
  | cons {row vs F rows vss G} : VRep R w row vs F → RRep R w rows vss G → RRep R w (row :: rows) (vs :: vss) (F ++ G)
theorem RRep.flat {R w} : ∀ {rows vss F}, RRep R w rows vss F → VRep R w rows.flatten vss.flatten F
  | _, _, _, .nil => .nil
  | _, _, _, .cons h t => by simpa using h.append t.flat
theorem RRep.of {R w z} : ∀ {rows vs F}, VRep R w rows.flatten vs F → (∀ row ∈ rows, row.length = z) → ∃ vss, vs = vss.flatten ∧ RRep R w rows vss F
  | [], vs, F, h, _ => by
    simp only [List.flatten_nil] at h
    cases h
    exact ⟨[], rfl, .nil⟩
  | row :: rows, vs, F, h, hz => by
    obtain ⟨F1, F2, rfl, h1, h2⟩ := h.take_drop row.length
    simp only [List.flatten_cons, List.take_left, List.drop_left] at h1 h2
    obtain ⟨vss, e, h3⟩ := RRep.of h2 (fun r hr => hz r (by simp [hr]))
    exact ⟨vs.take row.length :: vss, by rw [List.flatten_cons, ← e, List.take_append_drop], .cons h1 h3⟩
/-- of a row those that a mask names -/
def sel {α : Type} : List Bool → List α → List α
  | true :: m, x :: l => x :: sel m l
  | false :: m, _ :: l => sel m l
  | _, _ => []
theorem sel_nil {α : Type} (m : List Bool) : sel m ([] : List α) = [] := by cases m with | nil => rfl | cons b m => cases b <;> rfl
theorem sel_len {α β : Type} : ∀ {m : List Bool} {l : List α} {l' : List β}, l.length = l'.length → (sel m l).length = (sel m l').length
  | [], l, l', h => by cases l <;> cases l' <;> simp [sel]
  | b :: m, [], l', h => by
    have : l' = [] := List.length_eq_zero_iff.1 (by simpa using h.symm)
    rw [this, sel_nil, sel_nil]; rfl
  | b :: m, x :: l, [], h => by simp at h
  | true :: m, x :: l, y :: l', h => by simp [sel, sel_len (m := m) (l := l) (l' := l') (by simpa using h)]
  | false :: m, x :: l, y :: l', h => by simp [sel, sel_len (m := m) (l := l) (l' := l') (by simpa using h)]
theorem RRep.sel {R w} : ∀ {rows vss F} (m : List Bool), RRep R w rows vss F → ∃ F', RRep R w (sel m rows) (sel m vss) F' ∧ F'.Sublist F
  | _, _, _, m, .nil => ⟨[], by rw [sel_nil, sel_nil]; exact .nil, List.Sublist.refl _⟩
  | _, _, _, [], .cons h t => ⟨[], .nil, List.nil_sublist _⟩
  | _, _, _, true :: m, .cons h t => by
    obtain ⟨F', h1, h2⟩ := RRep.sel m t
    exact ⟨_, .cons h h1, List.Sublist.append (.refl _) h2⟩
  | _, _, _, false :: m, .cons h t => by
    obtain ⟨F', h1, h2⟩ := RRep.sel m t
    exact ⟨F', h1, h2.trans (List.sublist_append_right _ _)⟩
theorem RRep.mono {R R' : Cell → Value → Prop} {w w' : World} {K : Cell → Prop} : ∀ {rows vss F}, RRep R w rows vss F → (∀ row ∈ rows, cells1 K row) →
    (∀ c x, isRef c = true → ¬ K c → R c x → R' c x) → (∀ b ∈ F, w'.heap[b]? = w.heap[b]?) → RRep R' w' rows vss F
  | _, _, _, .nil, _, _, _ => .nil
  | _, _, _, .cons h t, hc, hR, hw => .cons (h.mono (hc _ (by simp)) hR (fun b hb => hw b (by simp [hb]))) (RRep.mono t (fun r hr => hc r (by simp [hr])) hR (fun b hb => hw b (by simp [hb])))
theorem RRep.length {R w} : ∀ {rows vss F}, RRep R w rows vss F → vss.length = rows.length
  | _, _, _, .nil => rfl
  | _, _, _, .cons h t => by simp [RRep.length t]
theorem RRep.block {R w} : ∀ {rows vss F}, RRep R w rows vss F → ∀ b ∈ F, ∃ arr el fr, w.heap[b]? = some (.cells arr el fr)
  | _, _, _, .nil, b, h => by simp at h
  | _, _, _, .cons h t, b, hb => by
    rcases List.mem_append.1 hb with hb | hb
    · exact h.block b hb
    · exact RRep.block t b hb
/-- the values of a row of cells, as far as the cells tell them -/
def LikeR : List Cell → List Value → Prop
  | [], [] => True
  | c :: cs, v :: vs => (flat v = true ∧ ∀ y, c = .v y → v = y) ∧ LikeR cs vs
  | _, _ => False
def Like : List (List Cell) → List (List Value) → Prop
  | [], [] => True
  | r :: rs, v :: vs => LikeR r v ∧ Like rs vs
  | _, _ => False
theorem VRep.like {R w} : ∀ {l vs F}, VRep R w l vs F → LikeR l vs
  | _, _, _, .nil => trivial
  | _, _, _, .cons hr ht => ⟨⟨hr.flat, fun y e => by
      subst e
      cases hr with
      | v => rfl
      | ref hi => simp [isRef] at hi⟩, ht.like⟩
theorem RRep.rows {R w z} : ∀ {rows vss F}, RRep R w rows vss F → (∀ v ∈ vss, v.length = z) → ∀ r ∈ rows, r.length = z
  | _, _, _, .nil, _, r, h => by simp at h
  | _, _, _, .cons h t, hz, r, hr => by
    rcases List.mem_cons.1 hr with rfl | hr
    · rw [← h.length]; exact hz _ (by simp)
    · exact RRep.rows t (fun v hv => hz v (by simp [hv])) r hr
theorem RRep.like {R w} : ∀ {rows vss F}, RRep R w rows vss F → Like rows vss
  | _, _, _, .nil => trivial
  | _, _, _, .cons h t => ⟨h.like, t.like⟩
/-- the values, as cells -/
def rawR (vss : List (List Value)) : List (List Cell) := vss.map (·.map Cell.v)
theorem LikeR.flat : ∀ {l vs}, LikeR l vs → ∀ v ∈ vs, flat v = true
  | [], [], _, v, h => by simp at h
  | [], _ :: _, h, _, _ => h.elim
  | _ :: _, [], h, _, _ => h.elim
  | c :: cs, x :: vs, h, v, hv => by
    rcases List.mem_cons.1 hv with rfl | hv
    · exact h.1.1
    · exact LikeR.flat h.2 v hv
theorem Like.flat : ∀ {l vs}, Like l vs → ∀ r ∈ vs, ∀ v ∈ r, flat v = true
  | [], [], _, v, h => by simp at h
  | [], _ :: _, h, _, _ => h.elim
  | _ :: _, [], h, _, _ => h.elim
  | c :: cs, x :: vs, h, v, hv => by
    rcases List.mem_cons.1 hv with rfl | hv
    · exact h.1.flat
    · exact Like.flat h.2 v hv
theorem LikeR.length : ∀ {l vs}, LikeR l vs → vs.length = l.length
  | [], [], _ => rfl
  | [], _ :: _, h => h.elim
  | _ :: _, [], h => h.elim
  | c :: cs, x :: vs, h => by simp [LikeR.length h.2]
theorem Like.rows : ∀ {l vs}, Like l vs → ∀ {z}, (∀ r ∈ l, r.length = z) → ∀ r ∈ vs, r.length = z
  | [], [], _, z, _, v, h => by simp at h
  | [], _ :: _, h, _, _, _, _ => h.elim
  | _ :: _, [], h, _, _, _, _ => h.elim
  | c :: cs, x :: vs, h, z, hz, v, hv => by
    rcases List.mem_cons.1 hv with rfl | hv
    · rw [h.1.length]; exact hz c (by simp)
    · exact Like.rows h.2 (fun r hr => hz r (by simp [hr])) v hv
theorem Like.length : ∀ {l vs}, Like l vs → vs.length = l.length
  | [], [], _ => rfl
  | [], _ :: _, h => h.elim
  | _ :: _, [], h => h.elim
  | c :: cs, x :: vs, h => by simp [Like.length h.2]
theorem raw_vrep {R : Cell → Value → Prop} {w : World} : ∀ {vs : List Value}, (∀ v ∈ vs, flat v = true) → VRep R w (vs.map Cell.v) vs []
  | [], _ => .nil
  | v :: vs, h => VRep.cons (F := []) (.v v (h v (by simp))) (raw_vrep (fun x hx => h x (by simp [hx])))
theorem rawR_flat (vss : List (List Value)) : (rawR vss).flatten = vss.flatten.map Cell.v := by simp [rawR, List.map_flatten]
theorem rawR_len (vss : List (List Value)) : (rawR vss).length = vss.length := by simp [rawR]
theorem raw_inv {R : Cell → Value → Prop} {w : World} : ∀ {vs : List Value} {xs F}, VRep R w (vs.map Cell.v) xs F → xs = vs ∧ F = []
  | [], _, _, .nil => ⟨rfl, rfl⟩
  | v :: vs, _, _, .cons hr ht => by
    obtain ⟨rfl, rfl⟩ := raw_inv ht
    cases hr with
    | v => exact ⟨rfl, rfl⟩
    | ref hi => simp [isRef] at hi
theorem cells_of {arr : Array Value} {off : Nat} {vs : List Value} (h : ∀ (j : Nat) u, vs[j]? = some u → arr[off + j]? = some u) {w : World} {b el fr} (hb : w.heap[b]? = some (.cells arr el fr)) : ∀ j v, vs[j]? = some v → w.cell? ⟨b, off + j, none⟩ = some v := by
  intro j v hj
  simp [World.cell?, hb]; exact h j v hj
/-- An array, and what its cells own laid aside. -/
theorem Rep.raw {R w z els x F0} (h : Rep R w (.own z els) x F0) : ∃ vss Fb Fi, F0 = Fb ++ Fi ∧ (∀ R' : Cell → Value → Prop, Rep R' w (.own z (rawR vss)) x Fb) ∧ RRep R w els vss Fi := by
  rcases own_inv h with ⟨rfl, rfl, A, rfl⟩ | ⟨b, off, cap, arr, el, F1, vs, fr, rfl, rfl, hz, ⟨hb, hfr⟩, hrow, hcap, hsize, hvr, hcells⟩
  · exact ⟨[], [], [], rfl, fun R' => .nil _ _, .nil⟩
  · obtain ⟨vss, rfl, hrr⟩ := RRep.of hvr hrow
    refine ⟨vss, [b], F1, rfl, fun R' => ?_, hrr⟩
    have hl := hrr.length
    have hv : VRep R' w (rawR vss).flatten vss.flatten [] := by rw [rawR_flat]; exact raw_vrep hvr.flat
    have := Rep.own (R := R') (els := rawR vss) hz hb hfr (fun r hr => by
      obtain ⟨v, hv, rfl⟩ := List.mem_map.1 hr
      rw [List.length_map]
      exact hrr.like.rows hrow v hv) (by rw [rawR_len, hl]; exact hcap) hsize (hv.at (cells_of hcells hb))
    rw [rawR_len, hl] at this
    exact this
/-- And back: what is laid aside for the cells goes into them again. -/
theorem Rep.unraw {R w z rows ws zr x F Fi} (h : Rep R w (.own z (rawR ws ++ zr)) x F) (hr : RRep R w rows ws Fi) : ∃ F', Rep R w (.own z (rows ++ zr)) x F' ∧ F'.Perm (F ++ Fi) := by
  have hl := hr.length
  rcases own_inv h with ⟨e, rfl, A, rfl⟩ | ⟨b, off, cap, arr, el, F1, vs, fr, rfl, rfl, hz, ⟨hb, hfr⟩, hrow, hcap, hsize, hvr, hcells⟩
  · obtain ⟨e1, rfl⟩ := List.append_eq_nil_iff.1 e
    have : ws = [] := by cases ws with | nil => rfl | cons a l => simp [rawR] at e1
    subst this
    cases hr
    exact ⟨[], .nil _ _, by simp⟩
  · have hlen : (rawR ws).flatten.length = ws.flatten.length := by rw [rawR_flat, List.length_map]
    rw [List.flatten_append] at hvr
    obtain ⟨Fa, Fz, rfl, h1, h2⟩ := hvr.take_drop (rawR ws).flatten.length
    rw [List.take_left] at h1
    rw [List.drop_left] at h2
    generalize hL : (rawR ws).flatten.length = L at h1 h2
    rw [rawR_flat] at h1
    obtain ⟨e1, rfl⟩ := raw_inv h1
    have hall := hr.flat.append h2
    rw [← e1, List.take_append_drop, ← List.flatten_append] at hall
    have hz1 : ∀ r ∈ rows, r.length = z := hr.rows (fun v hv => by
      have := hrow (v.map Cell.v) (List.mem_append.2 (.inl (List.mem_map.2 ⟨v, hv, rfl⟩)))
      simpa using this)
    have hrl : (rawR ws ++ zr).length = (rows ++ zr).length := by simp [rawR_len, hl]
    have := Rep.own (els := rows ++ zr) hz hb hfr (fun r hr => by
      rcases List.mem_append.1 hr with h | h
      · exact hz1 r h
      · exact hrow r (List.mem_append.2 (.inr h))) (by rw [← hrl]; exact hcap) hsize (hall.at (cells_of hcells hb))
    rw [← hrl] at this
    refine ⟨_, this, ?_⟩
    simp only [List.nil_append, List.cons_append]
    exact List.Perm.cons b List.perm_append_comm
theorem hdr_set {w : World} {c1 : Cell} : ∀ {P : Path} {c : Cell} {v : Value} {c0 : Cell}, c.get P = some c0 → hdr w P (Cell.set c1 P c) v = hdr w P c v
  | [], c, v, c0, h => by simp [hdr]
  | (i, f) :: p, c, v, c0, h => by
    obtain ⟨z, els, row, c', rfl, hi, hf, hg⟩ := get_own h
    have h1 := (List.getElem?_eq_some_iff.1 hi).1
    have h2 := (List.getElem?_eq_some_iff.1 hf).1
    have hset : Cell.set c1 ((i, f) :: p) (.own z els) = .own z (els.set i (row.set f (Cell.set c1 p c'))) := by simp only [Cell.set, hi, hf]
    rw [hset]
    cases v with
    | slice a n cap =>
      cases a with
      | none => rfl
      | some a =>
        simp only [hdr, List.getElem?_set_self h1, Option.bind_some, List.getElem?_set_self h2, hi, hf]
        cases w.cell? ⟨a.block, a.off + i * z + f, none⟩ with
        | none => rfl
        | some x => exact hdr_set hg
    | _ => rfl
theorem hit_below {lg : List (Nm × Path)} {r : Nm} {q : Path} (hlg : ∀ e ∈ lg, e.1 = r ∧ q <+: e.2) {y} (h : ¬ hit1 [(r, q)] y) : ¬ hit1 lg y := by
  intro hh
  apply h
  cases y with
  | sl r' q' z i n =>
    obtain ⟨e, he, h1, h2⟩ := hh
    obtain ⟨e1, e2⟩ := hlg e he
    exact ⟨(r, q), by simp, e1.symm.trans h1, e2.trans h2⟩
  | pt r' q' z i n =>
    obtain ⟨e, he, h1, h2⟩ := hh
    obtain ⟨e1, e2⟩ := hlg e he
    exact ⟨(r, q), by simp, e1.symm.trans h1, e2.trans h2⟩
  | _ => exact hh.elim
/-- A call that hands back a stretch of the array at a place, and left that array with other elements. -/
def PArr (P : Program) (f : FuncId) (args : List T) (H : HH) (r : Nm) (q : Path) (z n : Nat) (els' : List (List Cell)) : Prop :=
  PCalls P f args H (fun T H1 lg => T = .c (.sl r q z 0 n) ∧ H1 = setA H r q (.own z els') ∧ ∀ e ∈ lg, e.1 = r ∧ q <+: e.2)
/-- entry, for code that is looked at by PCode -/
theorem PArr.of {P : Program} {f : FuncId} {fn : Func} {c : Code} {args : List T} {H : HH} {r q z n els'} (kv : List Nat) (hf : P.funcs[f]? = some fn) (hb : fn.body = some c) (hN : args.length ≤ fn.ntmps)
    (h : ∀ d, d ≠ 0 → (∀ n, look H (d, n) = none) → CleanH (atD d) H → outH d H = H → PCode ⟨P, d, fn.ntmps⟩ kv c { t := enumT 0 args, H := H, lg := [] } (retK P d fn.results.toList (fun T H1 lg => T = .c (.sl r q z 0 n) ∧ H1 = setA H r q (.own z els') ∧ ∀ e ∈ lg, e.1 = r ∧ q <+: e.2))) : PArr P f args H r q z n els' := by
  refine PCalls.of_code hf hb hN (fun d hd hfr hcl => PCode.sound (h d hd (fun n => ?_) hcl ?_))
  · cases hl : look H (d, n) with
    | none => rfl
    | some c => exact absurd rfl (hfr _ (look_mem hl))
  · unfold outH
    rw [List.filter_eq_self]
    intro e he
    simpa using hfr e he
theorem PArr.one {P f args H r q z n els'} (h : PArr P f args H r q z n els') : PCalls P f args H (fun T H1 lg => T = .c (.sl r q z 0 n) ∧ H1 = setA H r q (.own z els') ∧ lg = [(r, q)]) := by
  intro g w β F FA vs h1 h2 h3 h4 h5
  refine (h g w β F FA vs h1 h2 h3 h4 h5).mono ?_
  rintro en w' ⟨x, T, H', lg, F', FT, rfl, ⟨rfl, rfl, hlg⟩, k1, k2, k3, k4, k5⟩
  exact ⟨x, _, _, [(r, q)], F', FT, rfl, ⟨rfl, rfl, rfl⟩, k1, k2, k3, k4, fun y x hy hv => k5 y x (hit_below hlg hy) hv⟩
theorem PArr.useCK {P f args H r q z n els' d} {KP : St → Prop} {t' o lg0} (h : PArr P f args H r q z n els') (hr : ¬ r.1 = d) (hoc : OcleanT (hit [(r, q)]) t') (hq : KP ⟨putD (t'.filter (fun en => en.2.keep r q)) o (.c (.sl r q z 0 n)), setA H r q (.own z els'), (r, q) :: lg0⟩) : PCalls P f args H (CK d KP t' o lg0) :=
  h.one.mono (by
    rintro T1 H1 lg ⟨rfl, rfl, rfl⟩
    rw [CK_mk]
    refine ⟨by simpa using hoc, ?_⟩
    have : [(r, q)].filter (fun e => decide (e.1.1 ≠ d)) = [(r, q)] := by simp [hr]
    rw [this]
    simpa [keepL] using hq)
/-- entry where the third argument is an array that is handed over: it gets a name -/
theorem PUpdB2.of {P : Program} {f : FuncId} {fn : Func} {c : Code} {a0 a1 : T} {z : Nat} {els : List (List Cell)} {H H' : HH} {x : T} {r : Nm} (kv : List Nat) (hf : P.funcs[f]? = some fn) (hb : fn.body = some c) (hN : 3 ≤ fn.ntmps)
    (h : ∀ d, d ≠ 0 → (∀ n, look H (d, n) = none) → CleanH (atD d) H → outH d H = H → PCode ⟨P, d, fn.ntmps⟩ kv c { t := [(2, .c (.sl (d, 2) [] z 0 els.length)), (0, a0), (1, a1)], H := ((d, 2), .own z els) :: H, lg := [] } (retK P d fn.results.toList (fun T H1 lg => T = x ∧ H1 = H' ∧ ∀ e ∈ lg, e.1 = r ∧ ¬ e.2 = []))) : PUpdR P f [a0, a1, .c (.own z els)] H x H' r := by
  refine PCalls.of_code hf hb hN (fun d hd hfr hcl => ?_)
  have hlk : ∀ n, look H (d, n) = none := fun n => by
    cases hl : look H (d, n) with
    | none => rfl
    | some c => exact absurd rfl (hfr _ (look_mem hl))
  have hout : outH d H = H := by
    unfold outH
    rw [List.filter_eq_self]
    intro e he
    simpa using hfr e he
  refine SCode.ghost (fun e a w he hr => ?_) (PCode.sound (h d hd hlk hcl hout))
  have := Rel.bind (i := 2) (z := z) (els := els) hr (by simp [enumT, getT]) (by rw [he]; exact hlk 2)
  simpa [enumT, setT_def, delT_cons, delT_nil, he] using this
/-- A call that moves the elements of an array about may be told of the elements' bare values. -/
theorem PArr.raw {P f r q z els m zr rest n n1} {H : HH} (h0 : r.1 ≠ 0) (hq : q ≠ []) (harr : arrAt H r q = some (z, els)) (hcl : CleanH (hit [(r, q)]) H) (hrest : T.cleans (hit [(r, q)]) rest) (hzr : CleanRows (hit [(r, q)]) zr)
    (h : ∀ vss, Like els vss → PArr P f (.c (.sl r q z 0 n) :: rest) (setA H r q (.own z (rawR vss))) r q z n1 (rawR (sel m vss) ++ zr)) :
    PArr P f (.c (.sl r q z 0 n) :: rest) H r q z n1 (sel m els ++ zr) := by
  intro g w β F FA vs hgl hh ha hn hlow
  obtain ⟨co, hl, hg⟩ := arrAt_iff.1 harr
  obtain ⟨nF, nFA, dFA⟩ := List.nodup_append.1 hn
  obtain ⟨a, x0, F0, G, k1, k2, k3, k4, k5, k6, k7, k8, k9⟩ := hh.write nF (fun b hb => hlow b (by simp [hb])) h0 hl hq hg
  obtain ⟨vss, Fb, Fi, rfl, hraw, hrr⟩ := k6.raw
  have hvl := hrr.length
  have hS : ∀ c, setA H r q c = putH H r (Cell.set c q co) := fun c => by unfold setA; rw [hl]
  have hst := k8 w (.own z (rawR vss)) (fun b _ => But.of_eq rfl) (fun _ _ => rfl)
  obtain ⟨F', p1, p2⟩ := k9 (hit [(r, q)]) w (.own z (rawR vss)) x0 Fb (fun b _ => But.of_eq rfl) (fun _ _ => rfl) k3 (fun en he => by
    rcases mem_putH he with h' | rfl
    · exact hcl en h'
    · exact Clean.setc Clean.hole (hcl _ (look_mem hl))) (VP.map hst) (hraw _)
  have hnp := k7.nodup_iff.1 nF
  obtain ⟨nFbi, nG, dG⟩ := List.nodup_append.1 hnp
  obtain ⟨nFb, nFi, dbi⟩ := List.nodup_append.1 nFbi
  have hF' : ∀ b ∈ F', b ∈ F := fun b hb => k7.symm.subset (by
    rcases List.mem_append.1 (p1.subset hb) with h | h
    · simp [h]
    · simp [h])
  have hFi : ∀ b ∈ Fi, b ∈ F ∧ b ∉ F' ∧ b ∉ FA := fun b hb => by
    have hbF : b ∈ F := k7.symm.subset (by simp [hb])
    refine ⟨hbF, fun hm => ?_, fun hm => dFA b hbF b hm rfl⟩
    rcases List.mem_append.1 (p1.subset hm) with h | h
    · exact dbi b h b hb rfl
    · exact dG b (by simp [hb]) b h rfl
  have nF' : F'.Nodup := p1.nodup_iff.2 (List.nodup_append.2 ⟨nFb, nG, fun x hx y hy => dG x (by simp [hx]) y hy⟩)
  have ha' : TReps (VP w β (setA H r q (.own z (rawR vss)))) w (.c (.sl r q z 0 n) :: rest) vs FA := by
    cases ha with
    | @cons _ v1 Fv _ vs2 Fr h1 h2 =>
      have hFv : Fv = [] := h1.bare rfl
      subst hFv
      refine TReps.cons (F := []) ?_ ?_
      · have hv := trep_ref h1 rfl
        refine .c (.ref rfl ?_ ?_)
        · cases h1 with | c hr => exact hr.flat
        · obtain ⟨c', els', hd, e1, e2, e3, e4, e5⟩ := hv
          rw [hl] at e1; cases e1
          rw [hg] at e2; cases e2
          refine ⟨Cell.set (.own z (rawR vss)) q co, rawR vss, hd, by rw [hS]; exact look_putH_self hl, get_set hg, ?_, by rw [rawR_len, hvl]; exact e4, e5⟩
          rw [hdr_set hg]; exact e3
      · cases (TRep.t h2).mono (R' := VP w β (setA H r q (.own z (rawR vss)))) (w' := w) (K := hit [(r, q)]) hrest (by rw [hS]; exact VP.map hst) (fun _ _ => rfl) with
        | t h => exact h
  rw [← hS] at p2
  refine (h vss hrr.like g w β F' FA vs hgl p2 ha' (List.nodup_append.2 ⟨nF', nFA, fun x hx y hy => dFA x (hF' x hx) y hy⟩) (fun b hb => hlow b (by
    rcases List.mem_append.1 hb with hb | hb
    · simp [hF' b hb]
    · simp [hb]))).mono ?_
  rintro en w' ⟨x, T, H1, lg, F1, FT, rfl, ⟨rfl, rfl, hlg⟩, m1, m2, m3, m4, m5⟩
  have hFT : FT = [] := m2.bare rfl
  subst hFT
  have nF1 : F1.Nodup := by simpa using m3
  have harr1 : arrAt (setA H r q (.own z (rawR vss))) r q = some (z, rawR vss) := arrAt_setA harr
  have hss : ∀ c, setA (setA H r q (.own z (rawR vss))) r q c = setA H r q c := fun c => setA_setA harr
  rw [hss] at m1 m2 m5
  obtain ⟨co1, hl1, hg1⟩ := arrAt_iff.1 (arrAt_setA (z := z) (rows := rawR (sel m vss) ++ zr) harr)
  have hco1 : co1 = Cell.set (.own z (rawR (sel m vss) ++ zr)) q co := by
    rw [hS, look_putH_self hl] at hl1; exact (Option.some.inj hl1).symm
  have low1 : ∀ b ∈ F1, g ≤ b := fun b hb => by
    rcases m4.new b (by simp [hb]) with h' | h'
    · rcases List.mem_append.1 h' with h' | h'
      · exact hlow b (by simp [hF' b h'])
      · exact hlow b (by simp [h'])
    · omega
  obtain ⟨a1, x1, F01, G1, t1, t2, t3, t4, t5, t6, t7, t8, t9⟩ := m1.write nF1 low1 h0 hl1 hq hg1
  have hst1 := t8 w' (.own z (sel m els ++ zr)) (fun b _ => But.of_eq rfl) (fun _ _ => rfl)
  have hS1 : putH (setA H r q (.own z (rawR (sel m vss) ++ zr))) r (Cell.set (.own z (sel m els ++ zr)) q co1) = setA H r q (.own z (sel m els ++ zr)) := by
    rw [hco1, hS, hS, putH_put, set_set hg]
  rw [hS1] at hst1
  have hstab : ∀ y x, ¬ hit1 [(r, q)] y → VP1 w β H y x → VP1 w' β (setA H r q (.own z (sel m els ++ zr))) y x := fun y x hy hv =>
    hst1 y x hy (m5 y x (hit_below hlg hy) (by rw [hS]; exact hst y x hy hv))
  have hcu : CleanRows (hit [(r, q)]) els := by
    have := (hcl _ (look_mem hl)).at hg
    exact Clean_ownR.1 this
  have hcr : Clean (hit [(r, q)]) (.own z (rawR (sel m vss) ++ zr)) := by
    rw [Clean_ownR, CleanRows_append]
    refine ⟨fun row hr => ?_, hzr⟩
    obtain ⟨v, -, rfl⟩ := List.mem_map.1 hr
    intro c hc
    obtain ⟨u, -, rfl⟩ := List.mem_map.1 hc
    exact Clean.v
  have hFis : ∀ b ∈ Fi, w'.heap[b]? = w.heap[b]? := fun b hb => by
    obtain ⟨h1, h2, h3⟩ := hFi b hb
    obtain ⟨arr, el, fr, he⟩ := hrr.block b hb
    exact m4.same b (lt_of_block he) (fun hm => by
      rcases List.mem_append.1 hm with h | h
      · exact h2 h
      · exact h3 h)
  have hrr1 := hrr.mono (R' := VP w' β (setA H r q (.own z (sel m els ++ zr)))) (w' := w') hcu (VP.map hstab) hFis
  obtain ⟨Fs, hrs, hFs⟩ := hrr1.sel m
  have t6' := t6.mono (w' := w') hcr (VP.map hst1) (fun _ _ => rfl)
  obtain ⟨Fn, u1, u2⟩ := Rep.unraw t6' hrs
  obtain ⟨F2, v1, v2⟩ := t9 (hit [(r, q)]) w' (.own z (sel m els ++ zr)) x1 Fn (fun b _ => But.of_eq rfl) (fun _ _ => rfl) t3 (fun en he => by
    rcases mem_putH he with h' | rfl
    · rw [hS] at h'
      rcases mem_putH h' with h' | rfl
      · exact hcl en h'
      · rw [hco1] at *
        exact Clean.setc hcr (hcl _ (look_mem hl))
    · rw [hco1]
      exact Clean.setc Clean.hole (Clean.setc hcr (hcl _ (look_mem hl)))) (by rw [hS1]; exact VP.map hst1) (by rw [hS1]; exact u1)
  rw [hS1] at v2
  have hF2 : F2.Perm (F1 ++ Fs) := by
    refine v1.trans ((List.Perm.append_right G1 u2).trans ?_)
    have e1 : ((F01 ++ Fs) ++ G1).Perm ((F01 ++ G1) ++ Fs) := by
      rw [List.append_assoc, List.append_assoc]
      exact List.Perm.append_left _ List.perm_append_comm
    exact e1.trans (List.Perm.append_right Fs t7.symm)
  have hdis : ∀ x ∈ F1, ∀ y ∈ Fs, x ≠ y := fun x hx y hy e => by
    subst e
    obtain ⟨h1, h2, h3⟩ := hFi x (hFs.subset hy)
    obtain ⟨arr, el, fr, he⟩ := hrr.block x (hFs.subset hy)
    have := lt_of_block he
    rcases m4.new x (by simp [hx]) with h' | h'
    · rcases List.mem_append.1 h' with h' | h'
      · exact h2 h'
      · exact h3 h'
    · omega
  have nF2 : F2.Nodup := hF2.nodup_iff.2 (List.nodup_append.2 ⟨nF1, List.Nodup.sublist hFs nFi, hdis⟩)
  refine ⟨x, .c (.sl r q z 0 n1), _, (r, q) :: lg, F2, [], rfl, ⟨rfl, rfl, fun e he => ?_⟩, v2, ?_, by simpa using nF2, ?_, fun y x hy hv => hstab y x (hit1_cons hy).1 hv⟩
  · rcases List.mem_cons.1 he with rfl | he
    · exact ⟨rfl, List.prefix_refl _⟩
    · exact hlg e he
  · have hv := trep_ref m2 rfl
    refine .c (.ref rfl ?_ ?_)
    · cases m2 with | c hr => exact hr.flat
    · obtain ⟨c', els', hd, e1, e2, e3, e4, e5⟩ := hv
      rw [hl1] at e1; cases e1
      rw [hg1] at e2; cases e2
      refine ⟨Cell.set (.own z (sel m els ++ zr)) q co, sel m els ++ zr, hd, by rw [hS]; exact look_putH_self hl, get_set hg, ?_, ?_, e5⟩
      · rw [hdr_set hg]
        rw [hco1, hdr_set hg] at e3
        exact e3
      · have : (sel m vss).length = (sel m els).length := sel_len hvl
        simp only [List.length_append, rawR_len, this] at e4 ⊢
        exact e4
  · refine ⟨m4.os, m4.tape, m4.output, m4.size, fun b hb hm => m4.same b hb (fun h' => hm ?_), fun b hb => ?_⟩
    · rcases List.mem_append.1 h' with h' | h'
      · simp [hF' b h']
      · simp [h']
    · rw [List.append_nil] at hb
      rcases List.mem_append.1 (hF2.subset hb) with h | h
      · rcases m4.new b (by simp [h]) with h' | h'
        · refine .inl ?_
          rcases List.mem_append.1 h' with h' | h'
          · simp [hF' b h']
          · simp [h']
        · exact .inr h'
      · exact .inl (by simp [(hFi b (hFs.subset h)).1])
end Go.Px


namespace Go.Proofs.YtnlbjfdmjlnlgaaGreat
open Go Go.Px Go.RowKit Go.Proofs
set_option linter.unnecessarySimpa false
set_option linter.unusedVariables false
set_option linter.unusedSimpArgs false
set_option maxRecDepth 100000
set_option maxHeartbeats 1000000
attribute [-simp] Int.not_le Int.not_lt
theorem rawR_rows {vss : List (List Value)} {z : Nat} (h : ∀ v ∈ vss, v.length = z) : ∀ row ∈ rawR vss, row.length = z := by
  intro row hr
  obtain ⟨v, hv, rfl⟩ := List.mem_map.1 hr
  simpa using h v hv
theorem rawR_v {vss : List (List Value)} : ∀ row ∈ rawR vss, ∀ c ∈ row, ∃ x, c = Cell.v x := by
  intro row hr c hc
  obtain ⟨v, hv, rfl⟩ := List.mem_map.1 hr
  obtain ⟨x, hx, rfl⟩ := List.mem_map.1 hc
  exact ⟨x, rfl⟩
theorem rawR_no {vss : List (List Value)} {n i : Nat} : ∀ (k : Nat) row, k < n → (rawR vss)[i + k]? = some row → ∀ c ∈ row, isOwn c = false := by
  intro k row _ hk c hc
  obtain ⟨x, rfl⟩ := rawR_v row (List.mem_of_getElem? hk) c hc
  rfl
theorem rawR_clean {K : Cell → Prop} {vss : List (List Value)} : CleanRows K (rawR vss) := by
  intro row hr c hc
  obtain ⟨x, rfl⟩ := rawR_v row hr c hc
  exact Clean.v
def zRow : List Cell := [.v (.int .i64 0), .own 4 []]
def delW (vss : List (List Value)) (i : Nat) : List (List Value) := vss.take i ++ vss.drop (i + 1) ++ vss.drop (vss.length - 1)
theorem delW_eq {vss : List (List Value)} {i : Nat} (hi : i < vss.length) : List.take i (rawR vss) ++ cutD (i + 1) (vss.length - (i + 1)) (rawR vss) ++ List.drop (vss.length - 1) (rawR vss) = rawR (delW vss i) := by
  rw [cutD_drop (by rw [rawR_len]; omega)]
  simp [delW, rawR]
theorem delW_len {vss : List (List Value)} {i : Nat} (hi : i < vss.length) : (delW vss i).length = vss.length := by simp [delW]; omega
theorem delW_end {vss : List (List Value)} {i : Nat} (hi : i < vss.length) : List.take (vss.length - 1) (rawR (delW vss i)) ++ [zRow] ++ List.drop vss.length (rawR (delW vss i)) = rawR (vss.eraseIdx i) ++ [zRow] := by
  have h1 : List.drop vss.length (rawR (delW vss i)) = [] := List.drop_eq_nil_of_le (by rw [rawR_len, delW_len hi]; omega)
  have h2 : List.take (vss.length - 1) (delW vss i) = vss.eraseIdx i := by
    rw [delW, List.eraseIdx_eq_take_drop_succ, List.take_left' (by simp; omega)]
  rw [h1, List.append_nil]
  unfold rawR
  rw [← List.map_take, h2]
theorem slices_Delete_raw (H : HH) {r q i} {vss : List (List Value)} (h0 : r.1 ≠ 0) (hz : ∀ v ∈ vss, v.length = 2) (hi : i < vss.length) (hb : vss.length ≤ 1048576) (ha : arrAt H r q = some (2, rawR vss)) :
    PArr Tryz.prog 174 [.c (.sl r q 2 0 vss.length), I i, I ((i : Int) + 1)] H r q 2 (vss.length - 1) (rawR (vss.eraseIdx i) ++ [zRow]) := by
  have e1 := delW_eq hi
  have e2 := delW_end hi
  have e3 := delW_len hi
  have hzw : ∀ v ∈ delW vss i, v.length = 2 := fun v hv => by
    simp only [delW, List.mem_append] at hv
    rcases hv with (hv | hv) | hv
    · exact hz v (List.mem_of_mem_take hv)
    · exact hz v (List.mem_of_mem_drop hv)
    · exact hz v (List.mem_of_mem_drop hv)
  have hR := rawR_rows hz
  have hRw := rawR_rows hzw
  have hV : ∀ row ∈ rawR vss, ∀ c ∈ row, ∃ x, c = Cell.v x := rawR_v
  have hNo := fun a b => rawR_no (vss := delW vss i) (i := a) (n := b)
  have hl := rawR_len vss
  have hlw := rawR_len (delW vss i)
  have hK : ∀ K, CleanRows K (rawR (vss.eraseIdx i)) := fun K => rawR_clean
  generalize rawR (vss.eraseIdx i) = E2 at *
  generalize rawR (delW vss i) = E1 at *
  generalize rawR vss = E0 at *
  generalize vss.length = n at *
  have s1 : i + (n - (i + 1)) = n - 1 := by omega
  have s2 : (i : Int) + ((n - (i + 1) : Nat) : Int) = ((n - 1 : Nat) : Int) := by omega
  have s3 : n - (n - 1) = 1 := by omega
  have s4 : n - 1 + 1 = n := by omega
  rw [List.append_assoc] at e1 e2
  have e2' : List.take (n - 1) E1 ++ [.v (.int .i64 0), .own 4 []] :: List.drop (n - 1 + 1) E1 = E2 ++ [zRow] := by rw [s4]; exact e2
  have hE1 : E1.length = n := by rw [hlw]; exact e3
  refine PArr.of [0, 1, 2, 6, 7, 16] Tryz.func174 rfl (by simp [Tryz.f174]) ?_
  intro d hd0 hfr hcl hout
  have hcd : ∀ n q, CleanH (hit [((d, n), q)]) H := fun n q => hcl.at
  have ha_n : ∀ n, ¬ (d, n) = r := fun n => nm_ne (ne_of_arr hfr ha)
  have ha_d : ¬ r.1 = d := ne_of_arr hfr ha
  have ha_m : ∀ n, ¬ r = (d, n) := fun n => nm_ne' (ne_of_arr hfr ha)
  simp (maxSteps := 4000000) [hd0, hfr, hout, hcl, hcd, delA_none, ha, ha_n, ha_d, ha_m, Tryz.f174]
  refine ⟨by omega, fun h => absurd h (by omega), fun _ => ?_⟩
  refine DrawK.intro 6 [7, 22, 25] rfl (by kernel_rfl) (by decide) ?_
  simp (maxSteps := 4000000) [hd0, hfr, hout, hcl, hcd, delA_none, ha, ha_n, ha_d, ha_m, s1, s2, s3, arrAt_setA ha, setA_setA ha, e1, hR, h0, hl, eq_true hV, eq_true hRw, outH_setA hout ha_d, CleanH_setA hcl, hK, Clean.v, e2', hE1, zRow]
  exact ⟨by omega, by omega, ⟨hR, by omega⟩, fun k row hk h c hc => hNo (n - 1) 1 k row (by omega) h c hc⟩
theorem eraseIdx_sel {α : Type} : ∀ (l : List α) (i : Nat), i < l.length → sel (List.replicate i true ++ false :: List.replicate (l.length - (i + 1)) true) l = l.eraseIdx i
  | [], i, h => by simp at h
  | x :: l, 0, h => by
    have : ∀ l : List α, sel (List.replicate l.length true) l = l := by
      intro l; induction l with
      | nil => rfl
      | cons a l ih => simp [List.replicate_succ, sel, ih]
    simp [sel, this]
  | x :: l, i + 1, h => by
    have := eraseIdx_sel l i (by simpa using h)
    simp only [List.replicate_succ, List.cons_append, sel, List.length_cons, List.eraseIdx_cons_succ, Nat.add_sub_add_right]
    rw [this]
theorem zRow_clean {K : Cell → Prop} : CleanRows K [zRow] := by simp [zRow, Clean.v]
theorem slices_Delete_Row (H : HH) {r q i n} {els : List (List Cell)} (h0 : r.1 ≠ 0) (hq : q ≠ []) (hcl : CleanH (hit [(r, q)]) H) (hz : ∀ row ∈ els, row.length = 2) (hn : n = els.length) (hi : i < n) (hb : n ≤ 1048576) (ha : arrAt H r q = some (2, els)) :
    PArr Tryz.prog 174 [.c (.sl r q 2 0 n), I i, I ((i : Int) + 1)] H r q 2 (n - 1) (els.eraseIdx i ++ [zRow]) := by
  subst hn
  rw [← eraseIdx_sel els i hi]
  refine PArr.raw h0 hq ha hcl (by simp [T.cleans, T.clean, Clean.v]) zRow_clean (fun vss hv => ?_)
  have hl := hv.length
  rw [← hl] at hi hb ⊢
  rw [eraseIdx_sel vss i hi]
  exact slices_Delete_raw _ h0 (hv.rows hz) hi hb (arrAt_setA ha)
end Go.Proofs.YtnlbjfdmjlnlgaaGreat


namespace Go.Proofs.YtnlbjfdmjlnlgaaGreat
open Go Go.Px Go.RowKit Go.Proofs
set_option linter.unnecessarySimpa false
set_option linter.unusedVariables false
set_option linter.unusedSimpArgs false
set_option maxRecDepth 100000
set_option maxHeartbeats 1000000
attribute [-simp] Int.not_le Int.not_lt
@[simp] theorem cutD_take {α : Type} {i : Nat} {l : List α} : cutD 0 i (List.take i l) = List.take i l := by simp [cutD, List.take_take]
end Go.Proofs.YtnlbjfdmjlnlgaaGreat


namespace Go.Px
open Go.RowKit
set_option linter.unnecessarySimpa false
set_option linter.unusedVariables false
set_option linter.unusedSimpArgs false
set_option linter.constructorNameAsVariable false
theorem VP1.ext {w β H1 H2} (h : ∀ n, look H1 n = look H2 n) : VP1 w β H1 = VP1 w β H2 := by
  funext c x
  cases c with
  | sl r q z i n => simp only [VP1, h r]
  | pt r q z i f => simp only [VP1, h r]
  | _ => rfl
theorem VP.ext {w β H1 H2} (h : ∀ n, look H1 n = look H2 n) : VP w β H1 = VP w β H2 := by
  funext c x
  have e := VP1.ext (w := w) (β := β) h
  cases c with
  | fn f cs => simp only [VP, e]
  | v y => rfl
  | sl r q z i n => exact congrFun (congrFun e (.sl r q z i n)) x
  | pt r q z i f => exact congrFun (congrFun e (.pt r q z i f)) x
  | own z els => rfl
  | x => rfl
theorem look_swap {a b : Nm × Cell} {H : HH} (hne : a.1 ≠ b.1) (n : Nm) : look (a :: b :: H) n = look (b :: a :: H) n := by
  obtain ⟨s, c⟩ := a
  obtain ⟨r, c'⟩ := b
  simp only [look]
  by_cases h1 : s = n
  · subst h1
    rw [if_pos rfl, if_neg (fun h => hne h.symm), if_pos rfl]
  · rw [if_neg h1, if_neg h1]
theorem Holds.swap {g R w β a b H F} (h : Holds g R w β (a :: b :: H) F) : ∃ F', F'.Perm F ∧ Holds g R w β (b :: a :: H) F' := by
  cases h with
  | sh h1 h2 h3 h4 =>
    cases h4 with
    | sh k1 k2 k3 k4 => exact ⟨_, .refl _, .sh k1 k2 k3 (.sh h1 h2 h3 k4)⟩
    | ow k1 k2 k3 => exact ⟨_, .refl _, .ow k1 k2 (.sh h1 h2 h3 k3)⟩
  | ow h1 h2 h3 =>
    cases h3 with
    | sh k1 k2 k3 k4 => exact ⟨_, .refl _, .sh k1 k2 k3 (.ow h1 h2 k4)⟩
    | ow k1 k2 k3 =>
      refine ⟨_, ?_, .ow k1 k2 (.ow h1 h2 k3)⟩
      rw [← List.append_assoc, ← List.append_assoc]
      exact List.Perm.append_right _ List.perm_append_comm
/-- the two foremost objects may change places -/
theorem PUpdR.swap {P f args r c c' s o H x} (hne : s ≠ r) (h : PUpdR P f args ((r, c) :: (s, o) :: H) x ((r, c') :: (s, o) :: H) r) : PUpdR P f args ((s, o) :: (r, c) :: H) x ((s, o) :: (r, c') :: H) r := by
  intro g w β F FA vs hg hh ha hn hlow
  have e1 := fun n => look_swap (a := (s, o)) (b := (r, c)) (H := H) hne n
  have e2 := fun n => look_swap (a := (r, c')) (b := (s, o)) (H := H) (fun e => hne e.symm) n
  rw [VP.ext e1] at hh ha
  obtain ⟨F', p1, h1⟩ := hh.swap
  refine (h g w β F' FA vs hg h1 ha ((List.Perm.append_right FA p1).nodup_iff.2 hn) (fun b hb => hlow b ((List.Perm.append_right FA p1).subset hb))).mono ?_
  rintro en w' ⟨y, T, H1, lg, F1, FT, rfl, ⟨rfl, rfl, hlg⟩, m1, m2, m3, m4, m5⟩
  rw [VP.ext e2] at m1 m2
  obtain ⟨F2, p2, h2⟩ := m1.swap
  have p3 := List.Perm.append_right FT p2
  refine ⟨y, T, _, lg, F2, FT, rfl, ⟨rfl, rfl, hlg⟩, h2, m2, p3.nodup_iff.2 m3, ⟨m4.os, m4.tape, m4.output, m4.size, fun b hb hm => m4.same b hb (fun h' => hm ((List.Perm.append_right FA p1).subset h')), fun b hb => (m4.new b (p3.subset hb)).imp (fun h' => (List.Perm.append_right FA p1).subset h') id⟩, fun y x hy hv => ?_⟩
  rw [VP1.ext e1] at hv
  have := m5 y x hy hv
  rw [VP1.ext e2] at this
  exact this
end Go.Px


namespace Go.Proofs.YtnlbjfdmjlnlgaaGreat
open Go Go.Px Go.RowKit Go.Proofs
set_option linter.unnecessarySimpa false
set_option linter.unusedVariables false
set_option linter.unusedSimpArgs false
set_option maxRecDepth 100000
set_option maxHeartbeats 1000000
attribute [-simp] Int.not_le Int.not_lt
theorem rowP_pos {l : List DRow} {k : Int} (hs : sortedR l) {p : Nat} (hp : p < l.length) (hk : l[p].key = k) : rowP l k = p := by
  obtain ⟨h1, h2, h3⟩ := rowP_spec (k := k) l
  rcases Nat.lt_trichotomy (rowP l k) p with h | h | h
  · have h4 := h3 (by omega)
    have := hs _ _ h hp
    omega
  · exact h
  · have := h2 p hp h
    omega
theorem foundR_at {l : List DRow} {k : Int} (hs : sortedR l) {p : Nat} (hp : p < l.length) (hk : l[p].key = k) : foundR l k = true := by
  unfold foundR
  rw [rowP_pos hs hp hk, List.getElem?_eq_getElem hp]
  simp [hk]
/-- the rows behind a chain that was set -/
def setC (rows : List DRow) (p : Nat) (c : List DVersion) : List DRow := if c.length = 0 then rows.eraseIdx p else match rows[p]? with | some r => rows.set p { r with chain := c } | none => rows
theorem eraseIdx_mapL {α β : Type} {f : α → β} : ∀ {l : List α} {p : Nat}, (l.map f).eraseIdx p = (l.eraseIdx p).map f
  | [], p => by simp
  | a :: l, 0 => by simp
  | a :: l, p + 1 => by simp [eraseIdx_mapL (l := l) (p := p)]
theorem cutD_app {α : Type} {E : List α} {z : List α} {n : Nat} (h : n = E.length) : cutD 0 n (E ++ z) = E := by subst h; simp [cutD]
end Go.Proofs.YtnlbjfdmjlnlgaaGreat


namespace Go.Px
open Go.RowKit
set_option linter.unnecessarySimpa false
set_option linter.unusedVariables false
set_option linter.unusedSimpArgs false
set_option linter.constructorNameAsVariable false
/-- A local array that a cell refers to goes whole into that cell. -/
theorem Rel.absorbRoot {e s a w r0 P C0 r z n els} (p : Nat × T → Bool) (h : Rel e s a w) (h0 : r0.1 ≠ 0) (hrd : r.1 = e.d) (hne : r0 ≠ r) (hP : P ≠ []) (hl0 : look s.H r0 = some C0) (hg0 : C0.get P = some (.sl r [] z 0 n)) (hl1 : look s.H r = some (.own z els)) (hn : n = els.length)
    (hcl : ∀ en ∈ putH s.H r0 (Cell.set .x P C0), Clean (hit [(r, [])]) en.2) (hp : ∀ en ∈ s.t, p en = true → en.2.clean (hit [(r, [])])) :
    Rel e { t := s.t.filter p, H := putH (delH (putH s.H r0 (Cell.set .x P C0)) r) r0 (Cell.set (.own z els) P (Cell.set .x P C0)), lg := s.lg } a w := by
  obtain ⟨hdf, β, F, G, h⟩ := h
  have h1 : r.1 ≠ 0 := by rw [hrd]; exact h.hd
  have hnF := (List.nodup_append.1 h.nd).1
  -- the reference is forgotten
  obtain ⟨a0, x0, F0, G0, m1, m2, m3, m4, m5, m6, m7, m8, m9⟩ := h.holds.write hnF (fun b hb => h.low b (by simp [hb])) h0 hl0 hP hg0
  have hst1 := m8 w .x (fun b _ => But.of_eq rfl) (fun _ _ => rfl)
  have hno1 := nohit_own (w := w) (β := β) hl0 hg0 rfl
  have hV1 : ∀ y x, VP1 w β s.H y x → VP1 w β (putH s.H r0 (Cell.set .x P C0)) y x := fun y x hv => hst1 y x (hno1 y x hv) hv
  obtain ⟨F1, p1, p2⟩ := m9 (fun _ => False) w .x x0 [] (fun b _ => But.of_eq rfl) (fun _ _ => rfl) m3 (fun en _ => clean_false en.2) (VP.of1 hV1) (.x x0 m6.flat)
  have hF0 : F0 = [] := m6.bare rfl
  subst hF0
  have hv0 : VP w β s.H (.sl r [] z 0 n) x0 := by
    cases m6 with
    | ref _ _ hv => exact hv
  have hv1 : VP1 w β (putH s.H r0 (Cell.set .x P C0)) (.sl r [] z 0 n) x0 := hV1 _ _ hv0
  generalize hH1 : putH s.H r0 (Cell.set .x P C0) = H1 at p2 hv1 hV1 hcl ⊢
  have hl1' : look H1 r = some (.own z els) := by rw [← hH1, look_putH_ne (Ne.symm hne)]; exact hl1
  have hl0' : look H1 r0 = some (Cell.set .x P C0) := by rw [← hH1]; exact look_putH_self hl0
  have hG0 : F1.Perm F := by simpa using p1.trans (by simpa using m7.symm)
  have hn1 : F1.Nodup := hG0.nodup_iff.2 hnF
  -- the array is taken out
  obtain ⟨Fr, G1, k1, k2, k3⟩ := p2.del h1 hl1'
  obtain ⟨c', els', hd, e1, e2, e3, e4, e5⟩ := hv1
  rw [hl1'] at e1; cases e1
  simp [Cell.get] at e2; subst e2
  simp [hdr] at e3; subst e3
  obtain ⟨F0', r1, r2⟩ := rep_drop k2 e5 (by omega)
  rw [List.drop_zero] at r1
  have hK2 : ∀ y x, isRef y = true → ¬ hit [(r, [])] y → VP w β H1 y x → VP w β (delH H1 r) y x := VP.map VP1.del
  have hcd : Clean (hit [(r, [])]) (.own z els) := hcl _ (look_mem hl1')
  have r3 := r1.mono hcd hK2 (fun _ _ => rfl)
  have q2 := k3.mono (fun _ _ => rfl) (fun en he => hcl en (mem_delH he)) hK2 (fun _ _ => rfl) (fun _ _ => rfl)
  generalize hH2 : delH H1 r = H2 at q2 hK2 r3 ⊢
  have hl0'' : look H2 r0 = some (Cell.set .x P C0) := by rw [← hH2, look_delH_ne hne]; exact hl0'
  have hgx : (Cell.set .x P C0).get P = some .x := get_set_self hg0
  have hn1' := k1.nodup_iff.1 hn1
  obtain ⟨hk7a, hk7b, hk7c⟩ := List.nodup_append.1 hn1'
  have hlow2 : ∀ b ∈ G1, e.g ≤ b := fun b hb => h.low b (by
    have : b ∈ F1 := k1.symm.subset (by simp [hb])
    simp [hG0.subset this])
  obtain ⟨a2, x2, F2', G2, l1, l2, l3, l4, l5, l6, l7, l8, l9⟩ := q2.write hk7b hlow2 h0 hl0'' hP hgx
  have hF2' : F2' = [] := l6.bare rfl
  subst hF2'
  have hadr : a2 = a0 := by
    rw [adr_set hg0, m1] at l1
    exact (Option.some.inj l1).symm
  subst hadr
  have hno3 := nohit_own (w := w) (β := β) hl0'' hgx rfl
  have hst3 := l8 w (.own z els) (fun b _ => But.of_eq rfl) (fun _ _ => rfl)
  have hV3 : ∀ y x, VP1 w β H2 y x → VP1 w β (putH H2 r0 (Cell.set (.own z els) P (Cell.set .x P C0))) y x := fun y x hv => hst3 y x (hno3 y x hv) hv
  have r4 := r3.mono (K := fun _ => False) (clean_false _) (VP.of1 hV3) (fun _ _ => rfl)
  obtain ⟨F3, s1, s2⟩ := l9 (fun _ => False) w (.own z els) x0 F0' (fun b _ => But.of_eq rfl) (fun _ _ => rfl) m3 (fun en _ => clean_false en.2) (VP.of1 hV3) r4
  have hK3 : ∀ y x, isRef y = true → ¬ hit [(r, [])] y → VP w β s.H y x → VP w β (putH H2 r0 (Cell.set (.own z els) P (Cell.set .x P C0))) y x := fun y x hr hk hv =>
    VP.of1 hV3 y x hr (fun h => h) (hK2 y x hr hk (VP.of1 hV1 y x hr (fun h => h) hv))
  obtain ⟨G', t1, t2⟩ := h.tmps.filter p
  have t3 := t1.mono (K := hit [(r, [])]) (R' := VP w β (putH H2 r0 (Cell.set (.own z els) P (Cell.set .x P C0)))) (w' := w) (a' := a.tmps) (fun en he => by
    have h1 := List.mem_filter.1 he
    exact hp en h1.1 h1.2) (fun _ _ => rfl) hK3 (fun _ _ => rfl)
  have hG2 : ∀ b ∈ G2, b ∈ G1 := fun b hb => l7.symm.subset (by simpa using hb)
  have hF3 : ∀ b ∈ F3, b ∈ F := fun b hb => by
    have hb := s1.subset hb
    refine hG0.subset (k1.symm.subset ?_)
    rcases List.mem_append.1 hb with hb | hb
    · exact List.mem_append.2 (.inl (r2.subset hb))
    · exact List.mem_append.2 (.inr (hG2 b hb))
  have hn3 : F3.Nodup := by
    refine s1.nodup_iff.2 (List.nodup_append.2 ⟨List.Nodup.sublist r2 hk7a, ?_, fun x hx y hy e => ?_⟩)
    · exact (by simpa using l7.nodup_iff.1 hk7b)
    · exact hk7c x (r2.subset hx) y (hG2 y hy) e
  have hsub : ∀ b ∈ F3 ++ G', b ∈ F ++ G := fun b hb => by
    rcases List.mem_append.1 hb with hb | hb
    · exact List.mem_append.2 (.inl (hF3 b hb))
    · exact List.mem_append.2 (.inr (t2.subset hb))
  refine ⟨hdf, β, F3, G', { holds := s2, tmps := t3, nd := ?_, low := fun b hb => h.low b (hsub b hb), ext := h.ext.sub hsub, gle := h.gle, out := h.out, fresh := h.fresh, stab := ?_, size := h.size, hd := h.hd }⟩
  · exact List.nodup_append.2 ⟨hn3, List.Nodup.sublist t2 (List.nodup_append.1 h.nd).2.1, fun x hx y hy e => (List.nodup_append.1 h.nd).2.2 x (hF3 x hx) y (t2.subset hy) e⟩
  · intro y x hy hvv
    have hy1 : ¬ hit1 [(r, [])] y := outer_nohit hvv h.fresh hrd
    have := VP1.del (r := r) y x hy1 (hV1 y x (h.stab y x hy hvv))
    rw [hH2] at this
    exact hV3 y x this
theorem LK.ghost {d I n s s'} (hg : Ghost d s s') (h : LK d I n s') : LK d I n s := by
  obtain ⟨m, s2, h1, h2, h3⟩ := h
  exact ⟨m, s2, h1, Ghost.trans hg h2, h3⟩
/-- the array that the cell P of the object r0 refers to goes into it -/
def absK (r0 : Nm) (P : Path) (r : Nm) (q : Path) (K : St → Prop) (s : St) : Prop :=
  match look s.H r0, look s.H r with
  | some C0, some C1 =>
    (match C0.get P, C1.get q with
    | some (.sl r' q' z i0 m), some (.own z' els) =>
      (r' = r ∧ q' = q ∧ z' = z ∧ i0 = 0 ∧ m = els.length) ∧ CleanH (hit [(r, q)]) (putH s.H r0 (Cell.set .x P C0)) ∧ OcleanT (hit [(r, q)]) s.t ∧
        K ⟨s.t.filter (fun en => en.2.keep r q), if q = [] then putH (delH (putH s.H r0 (Cell.set .x P C0)) r) r0 (Cell.set (.own z els) P (Cell.set .x P C0)) else putH (putH (putH s.H r0 (Cell.set .x P C0)) r (Cell.set .x q C1)) r0 (Cell.set (.own z els) P (Cell.set .x P C0)), s.lg⟩
    | _, _ => False)
  | _, _ => False
theorem absK_mk {r0 P r q K t H lg} : absK r0 P r q K ⟨t, H, lg⟩ = (match look H r0, look H r with
  | some C0, some C1 =>
    (match C0.get P, C1.get q with
    | some (.sl r' q' z i0 m), some (.own z' els) =>
      (r' = r ∧ q' = q ∧ z' = z ∧ i0 = 0 ∧ m = els.length) ∧ CleanH (hit [(r, q)]) (putH H r0 (Cell.set .x P C0)) ∧ OcleanT (hit [(r, q)]) t ∧
        K ⟨t.filter (fun en => en.2.keep r q), if q = [] then putH (delH (putH H r0 (Cell.set .x P C0)) r) r0 (Cell.set (.own z els) P (Cell.set .x P C0)) else putH (putH (putH H r0 (Cell.set .x P C0)) r (Cell.set .x q C1)) r0 (Cell.set (.own z els) P (Cell.set .x P C0)), lg⟩
    | _, _ => False)
  | _, _ => False) := rfl
attribute [simp] absK_mk
theorem LK.absorb {d I n t H lg} (r0 : Nm) (P : Path) (r : Nm) (q : Path) (hd : d ≠ 0) (h0 : r0.1 ≠ 0) (h1 : r.1 = d) (hne : ¬ r0 = r) (hP : P ≠ []) (h : absK r0 P r q (LK d I n) ⟨t, H, lg⟩) : LK d I n ⟨t, H, lg⟩ := by
  unfold absK at h
  split at h
  · rename_i C0 C1 hl0 hl1
    split at h
    · rename_i r' q' z i0 m z' els hg0 hg1
      obtain ⟨⟨rfl, rfl, rfl, rfl, hm⟩, hcl, hp, h⟩ := h
      refine LK.ghost (fun e a w he hr => ?_) h
      by_cases hq : q' = []
      · rw [if_pos hq]
        subst hq
        simp [Cell.get] at hg1
        subst hg1
        exact hr.absorbRoot (fun en => en.2.keep r' []) h0 (h1.trans he.symm) hne hP hl0 hg0 hl1 hm hcl (fun en he hk => keep_clean hk (hp en he))
      · rw [if_neg hq]
        have := hr.absorb (fun en => en.2.keep r' q') h0 (by rw [h1]; exact hd) hne hP hq hl0 hg0 hl1 hg1 hm hcl (fun en he hk => keep_clean hk (hp en he))
        simpa [noteH, h1, he] using this
    · exact h.elim
  · exact h.elim
end Go.Px


namespace Go.Proofs.YtnlbjfdmjlnlgaaGreat
open Go Go.Px Go.RowKit Go.Proofs
set_option linter.unnecessarySimpa false
set_option linter.unusedVariables false
set_option linter.unusedSimpArgs false
set_option maxRecDepth 100000
set_option maxHeartbeats 1000000
attribute [-simp] Int.not_le Int.not_lt
theorem engF_rows {x : DEngine} (h : engF x = 0) : rowsF x.clock x.txns none x.rows = 0 ∧ x.rows.length ≤ 32 := by
  unfold engF at h
  split at h
  · omega
  · split at h
    · omega
    · split at h
      · rename_i h1; exact absurd h h1
      · split at h
        · rename_i h1; exact absurd h h1
        · rename_i h0 _ h1
          exact ⟨by simpa using h1, by omega⟩
theorem rowsF_chain {clock : Int} {txns : List DTxn} : ∀ {l : List DRow} {p}, rowsF clock txns p l = 0 → ∀ r ∈ l, chainF r.chain = 0
  | [], _, _, r, hr => by simp at hr
  | r0 :: l, p, h, r, hr => by
    simp only [rowsF] at h
    split at h
    · omega
    · split at h
      · omega
      · split at h
        · rename_i h3; exact absurd h h3
        · rename_i h3
          split at h
          · omega
          · rcases List.mem_cons.1 hr with rfl | hr
            · simpa using h3
            · exact rowsF_chain h r hr
theorem chainF_at {l : List DVersion} (h : chainF l = 0) : ∀ v ∈ l, 0 ≤ v.at_ := fun v hv => by
  unfold chainF at h
  split at h
  · omega
  · have := chF_get h v hv
    unfold vRange inR at this
    simp at this
    omega
end Go.Proofs.YtnlbjfdmjlnlgaaGreat


namespace Go.Proofs.YtnlbjfdmjlnlgaaGreat
open Go Go.Px Go.RowKit Go.Proofs
set_option linter.unnecessarySimpa false
set_option linter.unusedVariables false
set_option linter.unusedSimpArgs false
set_option maxRecDepth 100000
set_option maxHeartbeats 1000000
attribute [-simp] Int.not_le Int.not_lt
theorem foundR_key {l : List DRow} {k : Int} (h : foundR l k = true) : ∃ hp : rowP l k < l.length, l[rowP l k].key = k := by
  have hp := foundR_lt h
  refine ⟨hp, ?_⟩
  unfold foundR at h
  rw [List.getElem?_eq_getElem hp] at h
  simpa using h
theorem row_of {l : List DRow} {k : Int} (h : foundR l k = true) : ∃ r ∈ l, r.key = k ∧ chainR l k = r.chain := by
  obtain ⟨hp, hk⟩ := foundR_key h
  refine ⟨l[rowP l k], List.getElem_mem hp, hk, ?_⟩
  unfold chainR
  rw [if_pos h, List.getD_eq_getElem?_getD, List.getElem?_eq_getElem hp]
  rfl
end Go.Proofs.YtnlbjfdmjlnlgaaGreat


namespace Go.Proofs.YtnlbjfdmjlnlgaaGreat
open Go Go.Px Go.RowKit Go.Proofs
set_option linter.unnecessarySimpa false
set_option linter.unusedVariables false
set_option linter.unusedSimpArgs false
set_option maxRecDepth 100000
set_option maxHeartbeats 1000000
attribute [-simp] Int.not_le Int.not_lt
end Go.Proofs.YtnlbjfdmjlnlgaaGreat


namespace Go.Px
open Go.RowKit
set_option linter.unnecessarySimpa false
set_option linter.unusedVariables false
set_option linter.unusedSimpArgs false
set_option linter.constructorNameAsVariable false
/-- a call that takes over a stretch of a local array of the caller's, and overwrites arrays below the root of the local object ro -/
theorem PUpdR.takeCK {P f args H x H' d ro} {KP : St → Prop} {t' o lg0 i r z i0 n els} (h : PUpdR P f (args.set i (.c (.own z (cutD i0 n els)))) (delH H r) x H' ro) (hd : d ≠ 0) (hi : args[i]? = some (.c (.sl r [] z i0 n))) (hr : r.1 = d) (hro : ro.1 = d) (hl : look H r = some (.own z els)) (hn : i0 + n ≤ els.length)
    (hcl : CleanH (hit [(r, [])]) H) (hot : T.cleans (hit [(r, [])]) (args.set i .u)) (hoc : OcleanT (hit [(r, [])]) t') (ho : ∀ a q, OcleanT (hit [(ro, a :: q)]) t') (hk : ∀ a q, ∀ en ∈ t', en.2.keep ro (a :: q) = true) (hq : KP ⟨putD (t'.filter (fun en => en.2.keep r [])) o x, H', lg0⟩) : PCalls P f args H (CK d KP t' o lg0) := by
  intro g w β F FA vs hg hh ha hnd hlow
  have h0 : r.1 ≠ 0 := by rw [hr]; exact hd
  obtain ⟨Fr, G0, h1, h2, h3⟩ := hh.del h0 hl
  have hK : ∀ y x, isRef y = true → ¬ hit [(r, [])] y → VP w β H y x → VP w β (delH H r) y x := VP.map VP1.del
  have hcd0 : Clean (hit [(r, [])]) (.own z els) := hcl _ (look_mem hl)
  have hcd : Clean (hit [(r, [])]) (.own z (cutD i0 n els)) := Clean.own (fun row hr x hx => hcd0.sub x (List.mem_flatten.2 ⟨row, List.mem_of_mem_drop (List.mem_of_mem_take hr), hx⟩))
  have hxy : ∀ v F, TRep (VP w β H) w (.c (.sl r [] z i0 n)) v F → F = [] ∧ ∃ F1, TRep (VP w β (delH H r)) w (.c (.own z (cutD i0 n els))) v F1 ∧ F1.Sublist Fr := by
    intro v F hv
    have hF : F = [] := hv.bare rfl
    subst hF
    refine ⟨rfl, ?_⟩
    have hv := trep_ref hv rfl
    obtain ⟨c', els', hd', e1, e2, e3, e4, e5⟩ := hv
    rw [hl] at e1; cases e1
    simp [Cell.get] at e2; subst e2
    simp [hdr] at e3; subst e3
    obtain ⟨F0', r1, r2⟩ := rep_cut h2 e5 hn
    exact ⟨F0', .c (r1.mono hcd hK (fun _ _ => rfl)), r2⟩
  obtain ⟨F', F1', k1, k2, k3⟩ := TReps.swap hK hxy ha hi (cleans_get hot)
  have h4 := h3.mono (fun _ _ => rfl) (fun en he => hcl en (mem_delH he)) hK (fun _ _ => rfl) (fun _ _ => rfl)
  have hsub : ∀ b ∈ G0 ++ F', b ∈ F ++ FA := by
    intro b hb
    rcases List.mem_append.1 hb with hb | hb
    · exact List.mem_append.2 (.inl (h1.symm.subset (by simp [hb])))
    · rcases List.mem_append.1 (k2.subset hb) with hb | hb
      · exact List.mem_append.2 (.inl (h1.symm.subset (by simp [k3.subset hb])))
      · exact List.mem_append.2 (.inr hb)
  have hnd2 : (G0 ++ F').Nodup := by
    have e1 : (G0 ++ F').Perm ((F1' ++ G0) ++ FA) := by
      refine (List.Perm.append_left G0 k2).trans ?_
      rw [← List.append_assoc]
      exact List.Perm.append_right FA List.perm_append_comm
    have e2 : ((F1' ++ G0) ++ FA).Sublist ((Fr ++ G0) ++ FA) := List.Sublist.append (List.Sublist.append k3 (.refl _)) (.refl _)
    exact e1.nodup_iff.2 (List.Nodup.sublist e2 ((List.Perm.append_right FA h1).nodup_iff.1 hnd))
  refine (h g w β G0 F' vs hg h4 k1 hnd2 (fun b hb => hlow b (hsub b hb))).mono ?_
  rintro en w' ⟨y, T, H1, lg, F1, FT, rfl, ⟨rfl, rfl, hlg⟩, m1, m2, m3, m4, m5⟩
  have hform : ∀ e ∈ lg, ∃ a q, e = (ro, a :: q) := fun e he => by
    obtain ⟨h1, h2⟩ := hlg e he
    obtain ⟨e1, e2⟩ := e
    cases e2 with
    | nil => exact absurd rfl h2
    | cons a q => exact ⟨a, q, by simp at h1; rw [h1]⟩
  refine ⟨y, T, H1, (r, []) :: lg, F1, FT, rfl, ?_, m1, m2, m3, ?_, fun y x hy hv => m5 y x (hit1_cons hy).2 (VP1.del y x (hit1_cons hy).1 hv)⟩
  · rw [CK_mk]
    refine ⟨fun e he => ?_, ?_⟩
    · rcases List.mem_cons.1 he with rfl | he
      · exact hoc
      · obtain ⟨a, q, rfl⟩ := hform e he
        exact ho a q
    · have e1 : (t'.filter fun en => keepL ((r, []) :: lg) en.2) = t'.filter (fun en => en.2.keep r []) := by
        apply List.filter_congr
        intro en hen
        unfold keepL
        rw [List.all_cons]
        have : lg.all (fun e => en.2.keep e.1 e.2) = true := by
          rw [List.all_eq_true]
          intro e he
          obtain ⟨a, q, rfl⟩ := hform e he
          exact hk a q en hen
        rw [this, Bool.and_true]
      have e2 : ((r, []) :: lg).filter (fun e => decide (e.1.1 ≠ d)) = [] := by
        rw [List.filter_eq_nil_iff]
        intro e he
        rcases List.mem_cons.1 he with rfl | he
        · simp [hr]
        · simp [(hlg e he).1, hro]
      rw [e1, e2]
      exact hq
  · exact ⟨m4.os, m4.tape, m4.output, m4.size, fun b hb hm => m4.same b hb (fun h' => hm (hsub _ h')), fun b hb => (m4.new b hb).imp (fun h' => hsub _ h') id⟩
/-- a call that overwrites arrays below the root of an outer object -/
theorem PUpdR.useCKo {P f args H x H' d r} {KP : St → Prop} {t' o lg0} (h : PUpdR P f args H x H' r) (hr : ¬ r.1 = d) (ho : ∀ a q, OcleanT (hit [(r, a :: q)]) t') (hk : ∀ a q, ∀ en ∈ t', en.2.keep r (a :: q) = true) (hq : ∀ lg, (∀ e ∈ lg, e.1 = r ∧ ¬ e.2 = []) → KP ⟨putD t' o x, H', lg ++ lg0⟩) : PCalls P f args H (CK d KP t' o lg0) :=
  h.mono (by
    rintro T1 H1 lg ⟨rfl, rfl, hlg⟩
    have hform : ∀ e ∈ lg, ∃ a q, e = (r, a :: q) := fun e he => by
      obtain ⟨h1, h2⟩ := hlg e he
      obtain ⟨e1, e2⟩ := e
      cases e2 with
      | nil => exact absurd rfl h2
      | cons a q => exact ⟨a, q, by simp at h1; rw [h1]⟩
    refine ⟨fun e he => ?_, ?_⟩
    · obtain ⟨a, q, rfl⟩ := hform e he
      exact ho a q
    · have e1 : (t'.filter fun en => keepL lg en.2) = t' := by
        rw [List.filter_eq_self]
        intro en hen
        unfold keepL
        rw [List.all_eq_true]
        intro e he
        obtain ⟨a, q, rfl⟩ := hform e he
        exact hk a q en hen
      have e2 : lg.filter (fun e => decide (e.1.1 ≠ d)) = lg := by
        rw [List.filter_eq_self]
        intro e he
        simp [(hlg e he).1, hr]
      rw [e1, e2]
      exact hq lg hlg)
end Go.Px


namespace Go.Px
open Go.RowKit
set_option linter.unnecessarySimpa false
set_option linter.unusedVariables false
set_option linter.unusedSimpArgs false
set_option linter.constructorNameAsVariable false
/-- the store of a drawn region, then the operations that may come behind it once more, then the tail -/
def STail (cx : Cx) (ops : Array Oper) (m : Nat) (keep : List Nat) (ty : TypeId) (ad x : Operand) (t : List (Nat × T)) (H : HH) (lg : List (Nm × Path)) (KS : St → Prop) (val : List (Nat × T)) (cs : List Nat) : Prop :=
  cs = [] ∧
  (match rdO val ad, rdO val x with
  | some (.c (.pt r q z i f)), some (.c (.v y)) =>
    (match arrAt H r q with
    | some (z', els) => (match els[i]? with
      | some row => (match row[f]? with
        | some c0 => (isOwn c0 = false ∧ z' = z ∧ r.1 ≠ 0 ∧ relC cx.P ty x [.v y] = [.v y]) ∧
            FRun' cx ops m (setA H r q (.own z (els.set i (row.set f (.v y))))) (fun val2 cs2 => cs2 = [] ∧ val2 = val) m 0 t [] ∧
            POps' cx ops (List.range' (m + 1) (ops.size - (m + 1))) KS ⟨live keep val, setA H r q (.own z (els.set i (row.set f (.v y)))), lg⟩
        | none => False)
      | none => False)
    | none => False)
  | _, _ => False)
@[simp] theorem STail_mk {cx ops m keep ty ad x t H lg KS val cs} : STail cx ops m keep ty ad x t H lg KS val cs = (cs = [] ∧
  (match rdO val ad, rdO val x with
  | some (.c (.pt r q z i f)), some (.c (.v y)) =>
    (match arrAt H r q with
    | some (z', els) => (match els[i]? with
      | some row => (match row[f]? with
        | some c0 => (isOwn c0 = false ∧ z' = z ∧ r.1 ≠ 0 ∧ relC cx.P ty x [.v y] = [.v y]) ∧
            FRun' cx ops m (setA H r q (.own z (els.set i (row.set f (.v y))))) (fun val2 cs2 => cs2 = [] ∧ val2 = val) m 0 t [] ∧
            POps' cx ops (List.range' (m + 1) (ops.size - (m + 1))) KS ⟨live keep val, setA H r q (.own z (els.set i (row.set f (.v y)))), lg⟩
        | none => False)
      | none => False)
    | none => False)
  | _, _ => False)) := rfl
end Go.Px


namespace Go.Px
open Go.RowKit
set_option linter.unnecessarySimpa false
set_option linter.unusedVariables false
set_option linter.unusedSimpArgs false
set_option linter.constructorNameAsVariable false
/-- A call that hands back x, leaves H', and overwrote arrays below the object r only at paths of which W holds. -/
def PUpdW (P : Program) (f : FuncId) (args : List T) (H : HH) (x : T) (H' : HH) (r : Nm) (W : Path → Prop) : Prop := PCalls P f args H (fun T H1 lg => T = x ∧ H1 = H' ∧ ∀ e ∈ lg, e.1 = r ∧ W e.2)
/-- entry, for code that is looked at by PCode -/
theorem PUpdW.of {W : Path → Prop} {P : Program} {f : FuncId} {fn : Func} {c : Code} {args : List T} {H H' : HH} {x : T} {r : Nm} (kv : List Nat) (hf : P.funcs[f]? = some fn) (hb : fn.body = some c) (hN : args.length ≤ fn.ntmps)
    (h : ∀ d, d ≠ 0 → (∀ n, look H (d, n) = none) → CleanH (atD d) H → outH d H = H → PCode ⟨P, d, fn.ntmps⟩ kv c { t := enumT 0 args, H := H, lg := [] } (retK P d fn.results.toList (fun T H1 lg => T = x ∧ H1 = H' ∧ ∀ e ∈ lg, e.1 = r ∧ W e.2))) : PUpdW P f args H x H' r W := by
  refine PCalls.of_code hf hb hN (fun d hd hfr hcl => PCode.sound (h d hd (fun n => ?_) hcl ?_))
  · cases hl : look H (d, n) with
    | none => rfl
    | some c => exact absurd rfl (hfr _ (look_mem hl))
  · unfold outH
    rw [List.filter_eq_self]
    intro e he
    simpa using hfr e he
theorem PUpdWB2.of {W : Path → Prop} {P : Program} {f : FuncId} {fn : Func} {c : Code} {a0 a1 : T} {z : Nat} {els : List (List Cell)} {H H' : HH} {x : T} {r : Nm} (kv : List Nat) (hf : P.funcs[f]? = some fn) (hb : fn.body = some c) (hN : 3 ≤ fn.ntmps)
    (h : ∀ d, d ≠ 0 → (∀ n, look H (d, n) = none) → CleanH (atD d) H → outH d H = H → PCode ⟨P, d, fn.ntmps⟩ kv c { t := [(2, .c (.sl (d, 2) [] z 0 els.length)), (0, a0), (1, a1)], H := ((d, 2), .own z els) :: H, lg := [] } (retK P d fn.results.toList (fun T H1 lg => T = x ∧ H1 = H' ∧ ∀ e ∈ lg, e.1 = r ∧ W e.2))) : PUpdW P f [a0, a1, .c (.own z els)] H x H' r W := by
  refine PCalls.of_code hf hb hN (fun d hd hfr hcl => ?_)
  have hlk : ∀ n, look H (d, n) = none := fun n => by
    cases hl : look H (d, n) with
    | none => rfl
    | some c => exact absurd rfl (hfr _ (look_mem hl))
  have hout : outH d H = H := by
    unfold outH
    rw [List.filter_eq_self]
    intro e he
    simpa using hfr e he
  refine SCode.ghost (fun e a w he hr => ?_) (PCode.sound (h d hd hlk hcl hout))
  have := Rel.bind (i := 2) (z := z) (els := els) hr (by simp [enumT, getT]) (by rw [he]; exact hlk 2)
  simpa [enumT, setT_def, delT_cons, delT_nil, he] using this
/-- the two foremost objects may change places -/
theorem PUpdW.swap {W : Path → Prop} {P f args r c c' s o H x} (hne : s ≠ r) (h : PUpdW P f args ((r, c) :: (s, o) :: H) x ((r, c') :: (s, o) :: H) r W) : PUpdW P f args ((s, o) :: (r, c) :: H) x ((s, o) :: (r, c') :: H) r W := by
  intro g w β F FA vs hg hh ha hn hlow
  have e1 := fun n => look_swap (a := (s, o)) (b := (r, c)) (H := H) hne n
  have e2 := fun n => look_swap (a := (r, c')) (b := (s, o)) (H := H) (fun e => hne e.symm) n
  rw [VP.ext e1] at hh ha
  obtain ⟨F', p1, h1⟩ := hh.swap
  refine (h g w β F' FA vs hg h1 ha ((List.Perm.append_right FA p1).nodup_iff.2 hn) (fun b hb => hlow b ((List.Perm.append_right FA p1).subset hb))).mono ?_
  rintro en w' ⟨y, T, H1, lg, F1, FT, rfl, ⟨rfl, rfl, hlg⟩, m1, m2, m3, m4, m5⟩
  rw [VP.ext e2] at m1 m2
  obtain ⟨F2, p2, h2⟩ := m1.swap
  have p3 := List.Perm.append_right FT p2
  refine ⟨y, T, _, lg, F2, FT, rfl, ⟨rfl, rfl, hlg⟩, h2, m2, p3.nodup_iff.2 m3, ⟨m4.os, m4.tape, m4.output, m4.size, fun b hb hm => m4.same b hb (fun h' => hm ((List.Perm.append_right FA p1).subset h')), fun b hb => (m4.new b (p3.subset hb)).imp (fun h' => (List.Perm.append_right FA p1).subset h') id⟩, fun y x hy hv => ?_⟩
  rw [VP1.ext e1] at hv
  have := m5 y x hy hv
  rw [VP1.ext e2] at this
  exact this
theorem PUpdW.useCK {W : Path → Prop} {P f args H x H' d r} {KP : St → Prop} {t' o lg0} (h : PUpdW P f args H x H' r W) (hr : r.1 = d) (ho : ∀ q, W q → OcleanT (hit [(r, q)]) t') (hk : ∀ q, W q → ∀ en ∈ t', en.2.keep r q = true) (hq : KP ⟨putD t' o x, H', lg0⟩) : PCalls P f args H (CK d KP t' o lg0) :=
  h.mono (by
    rintro T1 H1 lg ⟨rfl, rfl, hlg⟩
    have hform : ∀ e ∈ lg, ∃ q, W q ∧ e = (r, q) := fun e he => by
      obtain ⟨h1, h2⟩ := hlg e he
      obtain ⟨e1, e2⟩ := e
      exact ⟨e2, h2, by simp at h1; rw [h1]⟩
    refine ⟨fun e he => ?_, ?_⟩
    · obtain ⟨q, hWq, rfl⟩ := hform e he
      exact ho q hWq
    · have e1 : (t'.filter fun en => keepL lg en.2) = t' := by
        rw [List.filter_eq_self]
        intro en hen
        unfold keepL
        rw [List.all_eq_true]
        intro e he
        obtain ⟨q, hWq, rfl⟩ := hform e he
        exact hk q hWq en hen
      have e2 : lg.filter (fun e => decide (e.1.1 ≠ d)) = [] := by
        rw [List.filter_eq_nil_iff]
        intro e he
        simp [(hlg e he).1, hr]
      rw [e1, e2]
      exact hq)
/-- a call that takes over a stretch of a local array of the caller's, and overwrites arrays below the root of the local object ro -/
theorem PUpdW.takeCK {W : Path → Prop} {P f args H x H' d ro} {KP : St → Prop} {t' o lg0 i r z i0 n els} (h : PUpdW P f (args.set i (.c (.own z (cutD i0 n els)))) (delH H r) x H' ro W) (hd : d ≠ 0) (hi : args[i]? = some (.c (.sl r [] z i0 n))) (hr : r.1 = d) (hro : ro.1 = d) (hl : look H r = some (.own z els)) (hn : i0 + n ≤ els.length)
    (hcl : CleanH (hit [(r, [])]) H) (hot : T.cleans (hit [(r, [])]) (args.set i .u)) (hoc : OcleanT (hit [(r, [])]) t') (ho : ∀ q, W q → OcleanT (hit [(ro, q)]) t') (hk : ∀ q, W q → ∀ en ∈ t', en.2.keep ro q = true) (hq : KP ⟨putD (t'.filter (fun en => en.2.keep r [])) o x, H', lg0⟩) : PCalls P f args H (CK d KP t' o lg0) := by
  intro g w β F FA vs hg hh ha hnd hlow
  have h0 : r.1 ≠ 0 := by rw [hr]; exact hd
  obtain ⟨Fr, G0, h1, h2, h3⟩ := hh.del h0 hl
  have hK : ∀ y x, isRef y = true → ¬ hit [(r, [])] y → VP w β H y x → VP w β (delH H r) y x := VP.map VP1.del
  have hcd0 : Clean (hit [(r, [])]) (.own z els) := hcl _ (look_mem hl)
  have hcd : Clean (hit [(r, [])]) (.own z (cutD i0 n els)) := Clean.own (fun row hr x hx => hcd0.sub x (List.mem_flatten.2 ⟨row, List.mem_of_mem_drop (List.mem_of_mem_take hr), hx⟩))
  have hxy : ∀ v F, TRep (VP w β H) w (.c (.sl r [] z i0 n)) v F → F = [] ∧ ∃ F1, TRep (VP w β (delH H r)) w (.c (.own z (cutD i0 n els))) v F1 ∧ F1.Sublist Fr := by
    intro v F hv
    have hF : F = [] := hv.bare rfl
    subst hF
    refine ⟨rfl, ?_⟩
    have hv := trep_ref hv rfl
    obtain ⟨c', els', hd', e1, e2, e3, e4, e5⟩ := hv
    rw [hl] at e1; cases e1
    simp [Cell.get] at e2; subst e2
    simp [hdr] at e3; subst e3
    obtain ⟨F0', r1, r2⟩ := rep_cut h2 e5 hn
    exact ⟨F0', .c (r1.mono hcd hK (fun _ _ => rfl)), r2⟩
  obtain ⟨F', F1', k1, k2, k3⟩ := TReps.swap hK hxy ha hi (cleans_get hot)
  have h4 := h3.mono (fun _ _ => rfl) (fun en he => hcl en (mem_delH he)) hK (fun _ _ => rfl) (fun _ _ => rfl)
  have hsub : ∀ b ∈ G0 ++ F', b ∈ F ++ FA := by
    intro b hb
    rcases List.mem_append.1 hb with hb | hb
    · exact List.mem_append.2 (.inl (h1.symm.subset (by simp [hb])))
    · rcases List.mem_append.1 (k2.subset hb) with hb | hb
      · exact List.mem_append.2 (.inl (h1.symm.subset (by simp [k3.subset hb])))
      · exact List.mem_append.2 (.inr hb)
  have hnd2 : (G0 ++ F').Nodup := by
    have e1 : (G0 ++ F').Perm ((F1' ++ G0) ++ FA) := by
      refine (List.Perm.append_left G0 k2).trans ?_
      rw [← List.append_assoc]
      exact List.Perm.append_right FA List.perm_append_comm
    have e2 : ((F1' ++ G0) ++ FA).Sublist ((Fr ++ G0) ++ FA) := List.Sublist.append (List.Sublist.append k3 (.refl _)) (.refl _)
    exact e1.nodup_iff.2 (List.Nodup.sublist e2 ((List.Perm.append_right FA h1).nodup_iff.1 hnd))
  refine (h g w β G0 F' vs hg h4 k1 hnd2 (fun b hb => hlow b (hsub b hb))).mono ?_
  rintro en w' ⟨y, T, H1, lg, F1, FT, rfl, ⟨rfl, rfl, hlg⟩, m1, m2, m3, m4, m5⟩
  have hform : ∀ e ∈ lg, ∃ q, W q ∧ e = (ro, q) := fun e he => by
    obtain ⟨h1, h2⟩ := hlg e he
    obtain ⟨e1, e2⟩ := e
    exact ⟨e2, h2, by simp at h1; rw [h1]⟩
  refine ⟨y, T, H1, (r, []) :: lg, F1, FT, rfl, ?_, m1, m2, m3, ?_, fun y x hy hv => m5 y x (hit1_cons hy).2 (VP1.del y x (hit1_cons hy).1 hv)⟩
  · rw [CK_mk]
    refine ⟨fun e he => ?_, ?_⟩
    · rcases List.mem_cons.1 he with rfl | he
      · exact hoc
      · obtain ⟨q, hWq, rfl⟩ := hform e he
        exact ho q hWq
    · have e1 : (t'.filter fun en => keepL ((r, []) :: lg) en.2) = t'.filter (fun en => en.2.keep r []) := by
        apply List.filter_congr
        intro en hen
        unfold keepL
        rw [List.all_cons]
        have : lg.all (fun e => en.2.keep e.1 e.2) = true := by
          rw [List.all_eq_true]
          intro e he
          obtain ⟨q, hWq, rfl⟩ := hform e he
          exact hk q hWq en hen
        rw [this, Bool.and_true]
      have e2 : ((r, []) :: lg).filter (fun e => decide (e.1.1 ≠ d)) = [] := by
        rw [List.filter_eq_nil_iff]
        intro e he
        rcases List.mem_cons.1 he with rfl | he
        · simp [hr]
        · simp [(hlg e he).1, hro]
      rw [e1, e2]
      exact hq
  · exact ⟨m4.os, m4.tape, m4.output, m4.size, fun b hb hm => m4.same b hb (fun h' => hm (hsub _ h')), fun b hb => (m4.new b hb).imp (fun h' => hsub _ h') id⟩
/-- a call that overwrites arrays below the root of an outer object -/
theorem PUpdW.useCKo {W : Path → Prop} {P f args H x H' d r} {KP : St → Prop} {t' o lg0} (h : PUpdW P f args H x H' r W) (hr : ¬ r.1 = d) (ho : ∀ q, W q → OcleanT (hit [(r, q)]) t') (hk : ∀ q, W q → ∀ en ∈ t', en.2.keep r q = true) (hq : ∀ lg, (∀ e ∈ lg, e.1 = r ∧ W e.2) → KP ⟨putD t' o x, H', lg ++ lg0⟩) : PCalls P f args H (CK d KP t' o lg0) :=
  h.mono (by
    rintro T1 H1 lg ⟨rfl, rfl, hlg⟩
    have hform : ∀ e ∈ lg, ∃ q, W q ∧ e = (r, q) := fun e he => by
      obtain ⟨h1, h2⟩ := hlg e he
      obtain ⟨e1, e2⟩ := e
      exact ⟨e2, h2, by simp at h1; rw [h1]⟩
    refine ⟨fun e he => ?_, ?_⟩
    · obtain ⟨q, hWq, rfl⟩ := hform e he
      exact ho q hWq
    · have e1 : (t'.filter fun en => keepL lg en.2) = t' := by
        rw [List.filter_eq_self]
        intro en hen
        unfold keepL
        rw [List.all_eq_true]
        intro e he
        obtain ⟨q, hWq, rfl⟩ := hform e he
        exact hk q hWq en hen
      have e2 : lg.filter (fun e => decide (e.1.1 ≠ d)) = lg := by
        rw [List.filter_eq_self]
        intro e he
        simp [(hlg e he).1, hr]
      rw [e1, e2]
      exact hq lg hlg)
theorem headA {a : Nat × Nat} {R : Path → Prop} (h : ∀ q, R (a :: q)) : ∀ q : Path, q.head? = some a → R q := fun q hq => by
  cases q with
  | nil => cases hq
  | cons b q => cases hq; exact h q
theorem PUpdW.takeCK' {W : Path → Prop} {P f args args' H H0 x H' d ro} {KP : St → Prop} {t' o lg0 i r z i0 n els} (h : PUpdW P f args' H0 x H' ro W) (hargs : args' = args.set i (.c (.own z (cutD i0 n els)))) (hH0 : H0 = delH H r) (hd : d ≠ 0) (hi : args[i]? = some (.c (.sl r [] z i0 n))) (hr : r.1 = d) (hro : ro.1 = d) (hl : look H r = some (.own z els)) (hn : i0 + n ≤ els.length)
    (hcl : CleanH (hit [(r, [])]) H) (hot : T.cleans (hit [(r, [])]) (args.set i .u)) (hoc : OcleanT (hit [(r, [])]) t') (ho : ∀ q, W q → OcleanT (hit [(ro, q)]) t') (hk : ∀ q, W q → ∀ en ∈ t', en.2.keep ro q = true) (hq : KP ⟨putD (t'.filter (fun en => en.2.keep r [])) o x, H', lg0⟩) : PCalls P f args H (CK d KP t' o lg0) :=
  by subst hargs; subst hH0; exact PUpdW.takeCK h hd hi hr hro hl hn hcl hot hoc ho hk hq
end Go.Px


namespace Go.Proofs.YtnlbjfdmjlnlgaaGreat
open Go Go.Px Go.RowKit Go.Proofs
set_option linter.unnecessarySimpa false
set_option linter.unusedVariables false
set_option linter.unusedSimpArgs false
set_option maxRecDepth 100000
set_option maxHeartbeats 1000000
attribute [-simp] Int.not_le Int.not_lt
set_option maxHeartbeats 4000000 in
theorem impl_Engine_setChainW (H : HH) {r p y} {x : DEngine} {k : Int} {c : List DVersion} (hl : x.le 1048576) (hs : sortedR x.rows) (hk : kOk k) (hks : keysOk x.rows) (hp : p < x.rows.length) (hkey : x.rows[p].key = k) (hcb : c.length ≤ 1048576)
    (hy : y = { x with rows := setC x.rows p c }) (hr0 : r.1 ≠ 0) (hrc : ∀ q, CleanH (hit [(r, q)]) H) :
    PUpdW Tryz.prog 128 [.c (.pt r [] 4 0 0), I k, .c (.own 4 (c.map DVersion.enc))] ((r, .own 4 [x.enc]) :: H) (.t []) ((r, .own 4 [y.enc]) :: H) r (fun q => q.head? = some (0, 3)) := by
  obtain ⟨⟨b1, b1p⟩, b2, b2p⟩ := hl
  have hrow := fun H' r2 q2 rows2 c0 c1 n1 q => impl_Engine_row H' (r1 := r) (q1 := q) (r2 := r2) (q2 := q2) (rows2 := rows2) (c0 := c0) (c1 := c1) (n1 := n1) b2 hs hk hks
  rw [rowP_pos hs hp hkey, foundR_at hs hp hkey] at hrow
  have hdel := fun H' (h : CleanH (hit [(r, [(0, 3)])]) H') (ha : arrAt H' r [(0, 3)] = some (2, x.rows.map DRow.enc)) => slices_Delete_Row H' (i := p) (n := x.rows.length) hr0 (by simp) h (fun row hr => by obtain ⟨x, -, rfl⟩ := List.mem_map.1 hr; rfl) (by simp) hp b2 ha
  have w1 : IntKind.i64.wrap ((p : Int) + 1) = p + 1 := w64 (by omega) (by omega)
  refine PUpdWB2.of [0, 1, 2, 6, 7, 16, 34, 44] Tryz.func128 rfl (by simp [Tryz.f128]) ?_
  intro d hd0 hfr0 hcl0 hout0
  have hrn : ∀ n, ¬ r = (d, n) := fun n h => by have := hfr0 n; rw [look_cons, if_pos h] at this; cases this
  have hrm : ∀ n, ¬ (d, n) = r := fun n h => hrn n h.symm
  have hrd : ¬ r.1 = d := fun h => hrn r.2 (by rw [← h])
  have hfr : ∀ n, Px.look H (d, n) = none := fun n => by have := hfr0 n; rwa [look_cons, if_neg (hrn n)] at this
  have hcl : CleanH (atD d) H := ((CleanH_cons _ _ _ _).1 hcl0).2
  have hout : outH d H = H := by have := hout0; rw [outH_cons, if_neg hrd] at this; exact (List.cons.inj this).2
  have hcd : ∀ n q, CleanH (hit [((d, n), q)]) H := fun n q => hcl.at
  clear hfr0 hcl0 hout0
  simp (maxSteps := 4000000) [hd0, hfr, hout, hcl, hcd, delA_none, hrn, hrm, hrd, hr0, hrc, Tryz.f128, DEngine.enc]
  refine (hrow _ r [(0, 2)] (x.txns.map DTxn.enc) _ _ _ _ (by simp (maxSteps := 4000000) [hd0, hfr, hout, hcl, hcd, delA_none, hrn, hrm, hrd, hr0, hrc]) (by simp (maxSteps := 4000000) [hd0, hfr, hout, hcl, hcd, delA_none, hrn, hrm, hrd, hr0, hrc])).useCK ?_
  by_cases hc : c.length = 0
  · have hc' : c = [] := List.eq_nil_of_length_eq_zero hc
    subst hc'
    simp (maxSteps := 4000000) [hd0, hfr, hout, hcl, hcd, delA_none, hrn, hrm, hrd, hr0, hrc, w1]
    refine (hdel _ (by simp (maxSteps := 4000000) [hd0, hfr, hout, hcl, hcd, delA_none, hrn, hrm, hrd, hr0, hrc]) (by simp (maxSteps := 4000000) [hd0, hfr, hout, hcl, hcd, delA_none, hrn, hrm, hrd, hr0, hrc])).useCK hrd (by simp (maxSteps := 4000000) [hd0, hfr, hout, hcl, hcd, delA_none, hrn, hrm, hrd, hr0, hrc]) ?_
    have he : ((x.rows.map DRow.enc).eraseIdx p).length = x.rows.length - 1 := by rw [List.length_eraseIdx_of_lt (by simpa using hp)]; simp
    have hE : (x.rows.map DRow.enc).eraseIdx p = (x.rows.eraseIdx p).map DRow.enc := eraseIdx_mapL
    have hS : setC x.rows p [] = x.rows.eraseIdx p := by simp [setC]
    rw [hS] at hy
    subst hy
    have hcut := cutD_app (z := [zRow]) he.symm
    rw [hE] at hcut ⊢
    simp only [zRow] at hcut
    rw [hE] at he
    simp only [List.length_map] at he
    simp (maxSteps := 4000000) [hd0, hfr, hout, hcl, hcd, delA_none, hrn, hrm, hrd, hr0, hrc, hcut, zRow]
    omega
  · obtain ⟨v, c', rfl⟩ : ∃ v c', c = v :: c' := by
      cases c with
      | nil => simp at hc
      | cons v c' => exact ⟨v, c', rfl⟩
    have hS : setC x.rows p (v :: c') = x.rows.set p { x.rows[p] with chain := v :: c' } := by simp [setC, List.getElem?_eq_getElem hp]
    rw [hS] at hy
    subst hy
    simp (maxSteps := 4000000) [hd0, hfr, hout, hcl, hcd, delA_none, hrn, hrm, hrd, hr0, hrc, hp, DRow.enc, eq_false (show ¬ (c'.length : Int) + 1 = 0 by omega)]
end Go.Proofs.YtnlbjfdmjlnlgaaGreat


namespace Go.Proofs.YtnlbjfdmjlnlgaaGreat
open Go Go.Px Go.RowKit Go.Proofs
set_option linter.unnecessarySimpa false
set_option linter.unusedVariables false
set_option linter.unusedSimpArgs false
set_option maxRecDepth 100000
set_option maxHeartbeats 1000000
attribute [-simp] Int.not_le Int.not_lt
/-- where a roll back writes: the undos of the transaction, and rows -/
def rollW (ix : Nat) (q : Path) : Prop := q = [(0, 2), (ix, 4)] ∨ q.head? = some (0, 3)
theorem rollA {ix : Nat} {R : Path → Prop} (h1 : R [(0, 2), (ix, 4)]) (h2 : ∀ q, R ((0, 3) :: q)) : ∀ q, rollW ix q → R q := fun q hq => hq.elim (fun e => e ▸ h1) (headA h2 q)
end Go.Proofs.YtnlbjfdmjlnlgaaGreat


namespace Go.Proofs.YtnlbjfdmjlnlgaaGreat
open Go Go.Px Go.RowKit Go.Proofs
set_option linter.unnecessarySimpa false
set_option linter.unusedVariables false
set_option linter.unusedSimpArgs false
set_option maxRecDepth 100000
set_option maxHeartbeats 1000000
attribute [-simp] Int.not_le Int.not_lt
def rolR (x : DEngine) (id : Int) (g : Nat → DTxn → Int × Int × DEngine) : Int × Int × DEngine :=
  let i := ixF (fun t : DTxn => decide (t.id_ = id)) 0 x.txns
  if i < 0 then (0, 4, x) else
    let t := x.txns.getD i.toNat ⟨0, 0, 0, 0, []⟩
    if t.state ≠ 1 then (0, 10, x) else g i.toNat t
theorem rolR_none {x : DEngine} {id : Int} {g} (h : ∀ t ∈ x.txns, t.id_ ≠ id) : rolR x id g = (0, 4, x) := by
  unfold rolR
  rw [ixF_none (fun t ht => by simpa using h t ht)]
  simp
theorem rolR_some {x : DEngine} {id : Int} {i : Nat} {g} (hi : i < x.txns.length) (h : ixF (fun t : DTxn => decide (t.id_ = id)) 0 x.txns = i) : rolR x id g = if x.txns[i].state ≠ 1 then (0, 10, x) else g i x.txns[i] := by
  unfold rolR
  simp only [h]
  rw [if_neg (by omega)]
  simp only [Int.toNat_natCast, List.getD_eq_getElem?_getD, List.getElem?_eq_getElem hi, Option.getD_some]
theorem rollW_ne {ix : Nat} : ∀ q, rollW ix q → ¬ q = [] := rollA (by simp) (by simp)
set_option maxHeartbeats 2000000 in
theorem impl_changed2 (H : HH) {r1 q1 r2 q2 g v c rc id rs sv} {x y : DEngine} (hl : x.le 1048576) (hg : tfunc Tryz.prog g = true)
    (hdo : engF x = 0 → ∀ (r : Nm) (H0 : HH), r.1 ≠ 0 → (∀ q, CleanH (hit [(r, q)]) H0) → arrAt H0 rc [] = some (1, [[.v (.int .i64 id)]]) → ¬ rc = r → arrAt H0 rs [] = some (1, [[.v (.int .i64 sv)]]) → ¬ rs = r → PUpdR Tryz.prog g (T.c (.pt r [] 4 0 0) :: [.pt rc [] 1 0 0, .pt rs [] 1 0 0].map T.c) ((r, .own 4 [x.enc]) :: H0) (.t [I v, I c]) ((r, .own 4 [y.enc]) :: H0) r)
    (a1 : arrAt H r1 q1 = some (5, x.txns.map DTxn.enc)) (a2 : arrAt H r2 q2 = some (2, x.rows.map DRow.enc)) (ac : arrAt H rc [] = some (1, [[.v (.int .i64 id)]])) (asv : arrAt H rs [] = some (1, [[.v (.int .i64 sv)]])) :
    PFun Tryz.prog 58 [.a (eRow x r1 q1 r2 q2), .c (.fn g [.pt rc [] 1 0 0, .pt rs [] 1 0 0])] H (.a (resF x y v c).enc) := by
  refine PFun.of [1, 2, 4, 5, 6, 7, 8, 12, 23] Tryz.func58 rfl (by simp [Tryz.f58]) ?_
  intro d hd0 hfr hcl hout
  have hcd : ∀ n q, CleanH (hit [((d, n), q)]) H := fun n q => hcl.at
  have a1_n : ∀ n, ¬ (d, n) = r1 := fun n => nm_ne (ne_of_arr hfr a1)
  have a1_d : ¬ r1.1 = d := ne_of_arr hfr a1
  have a1_m : ∀ n, ¬ r1 = (d, n) := fun n => nm_ne' (ne_of_arr hfr a1)
  have a2_n : ∀ n, ¬ (d, n) = r2 := fun n => nm_ne (ne_of_arr hfr a2)
  have a2_d : ¬ r2.1 = d := ne_of_arr hfr a2
  have a2_m : ∀ n, ¬ r2 = (d, n) := fun n => nm_ne' (ne_of_arr hfr a2)
  have ac_n : ∀ n, ¬ (d, n) = rc := fun n => nm_ne (ne_of_arr hfr ac)
  have ac_d : ¬ rc.1 = d := ne_of_arr hfr ac
  have ac_m : ∀ n, ¬ rc = (d, n) := fun n => nm_ne' (ne_of_arr hfr ac)
  have asv_n : ∀ n, ¬ (d, n) = rs := fun n => nm_ne (ne_of_arr hfr asv)
  have asv_d : ¬ rs.1 = d := ne_of_arr hfr asv
  have asv_m : ∀ n, ¬ rs = (d, n) := fun n => nm_ne' (ne_of_arr hfr asv)
  simp (maxSteps := 4000000) [hd0, hfr, hout, hcl, hcd, delA_none, a1, a1_n, a1_d, a1_m, a2, a2_n, a2_d, a2_m, ac, ac_n, ac_d, ac_m, asv, asv_n, asv_d, asv_m, Tryz.f58, eRow]
  refine (impl_EngineFault _ hl (by simp (maxSteps := 4000000) [hd0, hfr, hout, hcl, hcd, delA_none, a1, a1_n, a1_d, a1_m, a2, a2_n, a2_d, a2_m, ac, ac_n, ac_d, ac_m, asv, asv_n, asv_d, asv_m]) (by simp (maxSteps := 4000000) [hd0, hfr, hout, hcl, hcd, delA_none, a1, a1_n, a1_d, a1_m, a2, a2_n, a2_d, a2_m, ac, ac_n, ac_d, ac_m, asv, asv_n, asv_d, asv_m])).useCK ?_
  by_cases e0 : engF x = 0
  case neg => simp (maxSteps := 4000000) [hd0, hfr, hout, hcl, hcd, delA_none, a1, a1_n, a1_d, a1_m, a2, a2_n, a2_d, a2_m, ac, ac_n, ac_d, ac_m, asv, asv_n, asv_d, asv_m, eq_false e0, resF, badE, DEngineResult.enc]
  rw [e0]
  simp (maxSteps := 4000000) [hd0, hfr, hout, hcl, hcd, delA_none, a1, a1_n, a1_d, a1_m, a2, a2_n, a2_d, a2_m, ac, ac_n, ac_d, ac_m, asv, asv_n, asv_d, asv_m]
  refine (impl_Engine_copied _ (r1 := r1) (q1 := q1) (r2 := r2) (q2 := q2) hl (by simp (maxSteps := 4000000) [hd0, hfr, hout, hcl, hcd, delA_none, a1, a1_n, a1_d, a1_m, a2, a2_n, a2_d, a2_m, ac, ac_n, ac_d, ac_m, asv, asv_n, asv_d, asv_m]) (by simp (maxSteps := 4000000) [hd0, hfr, hout, hcl, hcd, delA_none, a1, a1_n, a1_d, a1_m, a2, a2_n, a2_d, a2_m, ac, ac_n, ac_d, ac_m, asv, asv_n, asv_d, asv_m])).useCK ?_
  have hF : resF x y v c = if c ≠ 0 then badE c else ⟨0, v, y⟩ := by unfold resF; rw [if_neg (by simp [e0])]
  generalize resF x y v c = R at *
  have hdo' := hdo e0 (d, 6)
  simp only [DEngine.enc, List.map_cons, List.map_nil] at hdo'
  clear hdo
  simp (maxSteps := 4000000) [hd0, hfr, hout, hcl, hcd, delA_none, a1, a1_n, a1_d, a1_m, a2, a2_n, a2_d, a2_m, ac, ac_n, ac_d, ac_m, asv, asv_n, asv_d, asv_m, DEngine.enc, hg]
  refine ⟨⟨rfl, rfl⟩, ?_⟩
  refine (hdo' _ hd0 (fun q => by simp (maxSteps := 4000000) [hd0, hfr, hout, hcl, hcd, delA_none, a1, a1_n, a1_d, a1_m, a2, a2_n, a2_d, a2_m, ac, ac_n, ac_d, ac_m, asv, asv_n, asv_d, asv_m]) (by simp (maxSteps := 4000000) [hd0, hfr, hout, hcl, hcd, delA_none, a1, a1_n, a1_d, a1_m, a2, a2_n, a2_d, a2_m, ac, ac_n, ac_d, ac_m, asv, asv_n, asv_d, asv_m]) (by simp (maxSteps := 4000000) [hd0, hfr, hout, hcl, hcd, delA_none, a1, a1_n, a1_d, a1_m, a2, a2_n, a2_d, a2_m, ac, ac_n, ac_d, ac_m, asv, asv_n, asv_d, asv_m]) (by simp (maxSteps := 4000000) [hd0, hfr, hout, hcl, hcd, delA_none, a1, a1_n, a1_d, a1_m, a2, a2_n, a2_d, a2_m, ac, ac_n, ac_d, ac_m, asv, asv_n, asv_d, asv_m]) (by simp (maxSteps := 4000000) [hd0, hfr, hout, hcl, hcd, delA_none, a1, a1_n, a1_d, a1_m, a2, a2_n, a2_d, a2_m, ac, ac_n, ac_d, ac_m, asv, asv_n, asv_d, asv_m])).useCK rfl (by intro a q; simp (maxSteps := 4000000) [hd0, hfr, hout, hcl, hcd, delA_none, a1, a1_n, a1_d, a1_m, a2, a2_n, a2_d, a2_m, ac, ac_n, ac_d, ac_m, asv, asv_n, asv_d, asv_m]) (by intro a q; simp (maxSteps := 4000000) [hd0, hfr, hout, hcl, hcd, delA_none, a1, a1_n, a1_d, a1_m, a2, a2_n, a2_d, a2_m, ac, ac_n, ac_d, ac_m, asv, asv_n, asv_d, asv_m, T.keep, keepC2, keepC]) ?_
  by_cases hc : c = 0
  · rw [if_neg (by simp [hc])] at hF
    simp (maxSteps := 4000000) [hd0, hfr, hout, hcl, hcd, delA_none, a1, a1_n, a1_d, a1_m, a2, a2_n, a2_d, a2_m, ac, ac_n, ac_d, ac_m, asv, asv_n, asv_d, asv_m, hc, hF, DEngineResult.enc]
  · rw [if_pos hc] at hF
    simp (maxSteps := 4000000) [hd0, hfr, hout, hcl, hcd, delA_none, a1, a1_n, a1_d, a1_m, a2, a2_n, a2_d, a2_m, ac, ac_n, ac_d, ac_m, asv, asv_n, asv_d, asv_m, eq_false hc, hF, badE, DEngineResult.enc]
end Go.Proofs.YtnlbjfdmjlnlgaaGreat


namespace Go.Px
open Go.RowKit
set_option linter.unnecessarySimpa false
set_option linter.unusedVariables false
set_option linter.unusedSimpArgs false
set_option linter.constructorNameAsVariable false
/-- an array below an outer object that the cell P of the object r0 refers to goes into it -/
def absO (r0 : Nm) (P : Path) (r : Nm) (q : Path) (K : St → Prop) (s : St) : Prop :=
  match look s.H r0, look s.H r with
  | some C0, some C1 =>
    (match C0.get P, C1.get q with
    | some (.sl r' q' z i0 m), some (.own z' els) =>
      (r' = r ∧ q' = q ∧ z' = z ∧ i0 = 0 ∧ m = els.length) ∧ CleanH (hit [(r, q)]) (putH s.H r0 (Cell.set .x P C0)) ∧ OcleanT (hit [(r, q)]) s.t ∧
        K ⟨s.t.filter (fun en => en.2.keep r q), putH (putH (putH s.H r0 (Cell.set .x P C0)) r (Cell.set .x q C1)) r0 (Cell.set (.own z els) P (Cell.set .x P C0)), (r, q) :: s.lg⟩
    | _, _ => False)
  | _, _ => False
@[simp] theorem absO_mk {r0 P r q K t H lg} : absO r0 P r q K ⟨t, H, lg⟩ = (match look H r0, look H r with
  | some C0, some C1 =>
    (match C0.get P, C1.get q with
    | some (.sl r' q' z i0 m), some (.own z' els) =>
      (r' = r ∧ q' = q ∧ z' = z ∧ i0 = 0 ∧ m = els.length) ∧ CleanH (hit [(r, q)]) (putH H r0 (Cell.set .x P C0)) ∧ OcleanT (hit [(r, q)]) t ∧
        K ⟨t.filter (fun en => en.2.keep r q), putH (putH (putH H r0 (Cell.set .x P C0)) r (Cell.set .x q C1)) r0 (Cell.set (.own z els) P (Cell.set .x P C0)), (r, q) :: lg⟩
    | _, _ => False)
  | _, _ => False) := rfl
theorem LK.absorbO {d I n t H lg} (r0 : Nm) (P : Path) (r : Nm) (q : Path) (h0 : r0.1 ≠ 0) (h1 : r.1 ≠ 0) (hrd : ¬ r.1 = d) (hne : ¬ r0 = r) (hP : P ≠ []) (hq : q ≠ []) (h : absO r0 P r q (LK d I n) ⟨t, H, lg⟩) : LK d I n ⟨t, H, lg⟩ := by
  unfold absO at h
  split at h
  · rename_i C0 C1 hl0 hl1
    split at h
    · rename_i r' q' z i0 m z' els hg0 hg1
      obtain ⟨⟨rfl, rfl, rfl, rfl, hm⟩, hcl, hp, h⟩ := h
      refine LK.ghost (fun e a w he hr => ?_) h
      have := hr.absorb (fun en => en.2.keep r' q') h0 h1 hne hP hq hl0 hg0 hl1 hg1 hm hcl (fun en he hk => keep_clean hk (hp en he))
      simpa [noteH, he, hrd] using this
    · exact h.elim
  · exact h.elim
end Go.Px


namespace Go.Proofs.YtnlbjfdmjlnlgaaGreat
open Go Go.Px Go.RowKit Go.Proofs
set_option linter.unnecessarySimpa false
set_option linter.unusedVariables false
set_option linter.unusedSimpArgs false
set_option maxRecDepth 100000
set_option maxHeartbeats 1000000
attribute [-simp] Int.not_le Int.not_lt
def holR (k : Int) (r : DRow) : List Cell := if r.key = k then r.enc else [.v (.int .i64 r.key), .x]
def hol (k : Int) (l : List DRow) (i : Nat) : List (List Cell) := (l.take i).map (holR k) ++ (l.drop i).map DRow.enc
theorem hol_len {k : Int} {l : List DRow} {i : Nat} : (hol k l i).length = l.length := by simp [hol]; omega
theorem hol_get {k : Int} {l : List DRow} {i : Nat} (hi : i < l.length) : (hol k l i)[i]? = some l[i].enc := by
  unfold hol
  rw [List.getElem?_append_right (by simp; omega)]
  simp [Nat.min_eq_left (Nat.le_of_lt hi), hi]
theorem hol_next {k : Int} {l : List DRow} {i : Nat} (hi : i < l.length) : hol k l (i + 1) = (hol k l i).set i (holR k l[i]) := by
  unfold hol
  rw [List.take_succ_eq_append_getElem hi, List.set_append_right _ _ (by simp; omega), List.drop_eq_getElem_cons hi]
  simp only [List.length_map, List.length_take, Nat.min_eq_left (Nat.le_of_lt hi), Nat.sub_self, List.map_append, List.map_cons, List.map_nil, List.set_cons_zero, List.append_assoc, List.cons_append, List.nil_append]
theorem hol_no {k : Int} {l : List DRow} {i : Nat} (hi : i < l.length) (h : l[i].key = k) : hol k l (i + 1) = hol k l i := by
  have h1 := hol_next (k := k) hi
  have h2 := hol_get (k := k) hi
  have : holR k l[i] = l[i].enc := by unfold holR; rw [if_pos h]
  rw [h1, this]
  exact set_at h2
theorem hol_clean {k : Int} {l : List DRow} {i : Nat} {K : Cell → Prop} : CleanRows K (hol k l i) := by
  unfold hol
  rw [CleanRows_append]
  refine ⟨?_, by simp⟩
  intro row hr
  obtain ⟨t, -, rfl⟩ := List.mem_map.1 hr
  unfold holR
  split
  · simp
  · simp [Clean.v]
/-- the rows behind a chain that was set: of a key that may not be there -/
def outF (k : Int) (c : List DVersion) (l : List DRow) : List DRow :=
  if c.length = 0 then l.filter (fun r => decide (r.key ≠ k)) else l.filter (fun r => decide (r.key < k)) ++ ⟨k, c⟩ :: l.filter (fun r => decide (k < r.key))
theorem outF_len {k : Int} {c : List DVersion} {l : List DRow} (hs : c.length = 0 ∨ True) : (outF k c l).length ≤ l.length + 1 := by
  unfold outF
  split
  · have := List.length_filter_le (fun r : DRow => decide (r.key ≠ k)) l; omega
  · have h : ∀ l : List DRow, (l.filter (fun r => decide (r.key < k))).length + (l.filter (fun r => decide (k < r.key))).length ≤ l.length := by
      intro l
      induction l with
      | nil => simp
      | cons r l ih =>
        by_cases h1 : r.key < k
        · have h2 : ¬ k < r.key := by omega
          simp [h1, h2]; omega
        · by_cases h2 : k < r.key
          · simp [h1, h2]; omega
          · simp [h1, h2]; omega
    have := h l
    simp; omega
/-- ahead of the key -/
def ltK (k : Int) (l : List DRow) : Prop := ∀ r ∈ l, r.key < k
theorem ltK_next {k : Int} {l : List DRow} {r : DRow} (h : ltK k l) (hr : r.key < k) : ltK k (l ++ [r]) := fun x hx => by
  rcases List.mem_append.1 hx with h1 | h1
  · exact h x h1
  · rw [List.mem_singleton.1 h1]; exact hr
theorem ltK_lt {k : Int} {l : List DRow} (h : ltK k l) : l.filter (fun r => decide (r.key < k)) = l := List.filter_eq_self.2 (fun r hr => by simpa using h r hr)
theorem ltK_gt {k : Int} {l : List DRow} (h : ltK k l) : l.filter (fun r => decide (k < r.key)) = [] := List.filter_eq_nil_iff.2 (fun r hr => by have := h r hr; simp; omega)
theorem outF_end {k : Int} {c : List DVersion} {l : List DRow} (hc : ¬ c.length = 0) (h : ltK k l) : outF k c l = l ++ [⟨k, c⟩] := by
  unfold outF
  rw [if_neg hc, ltK_lt h, ltK_gt h]
theorem outF_eq {k : Int} {c : List DVersion} {l : List DRow} {r : DRow} (hc : ¬ c.length = 0) (h : ltK k l) (hr : r.key = k) : outF k c (l ++ [r]) = l ++ [⟨k, c⟩] := by
  unfold outF
  rw [if_neg hc, List.filter_append, List.filter_append, ltK_lt h, ltK_gt h]
  simp [hr]
theorem outF_gt {k : Int} {c : List DVersion} {l : List DRow} {r : DRow} (hc : ¬ c.length = 0) (h : ltK k l) (hr : k < r.key) : outF k c (l ++ [r]) = (l ++ [⟨k, c⟩]) ++ [r] := by
  unfold outF
  rw [if_neg hc, List.filter_append, List.filter_append, ltK_lt h, ltK_gt h]
  simp [hr, show ¬ r.key < k by omega]
/-- behind the key's place -/
def pastK (k : Int) (c : List DVersion) (l : List DRow) (i : Nat) : Prop := c.length = 0 ∨ ∃ j, ∃ hj : j < l.length, j < i ∧ k ≤ l[j].key
theorem pastK_gt {k : Int} {c : List DVersion} {l : List DRow} {i : Nat} (hs : sortedR l) (h : pastK k c l i) (hi : i < l.length) : c.length = 0 ∨ (¬ c.length = 0 ∧ k < l[i].key) := by
  by_cases hc : c.length = 0
  · exact .inl hc
  · rcases h with h | ⟨j, hj, hji, hk⟩
    · exact absurd h hc
    · exact .inr ⟨hc, by have := hs j i hji hi; omega⟩
theorem outF_skip {k : Int} {c : List DVersion} {l : List DRow} {r : DRow} (h : c.length = 0 ∨ (¬ c.length = 0 ∧ k < r.key)) (hr : r.key = k) : outF k c (l ++ [r]) = outF k c l := by
  rcases h with h | ⟨-, h⟩
  · unfold outF; rw [if_pos h, if_pos h, List.filter_append]; simp [hr]
  · omega
theorem outF_more {k : Int} {c : List DVersion} {l : List DRow} {r : DRow} (h : c.length = 0 ∨ (¬ c.length = 0 ∧ k < r.key)) (hr : ¬ r.key = k) : outF k c (l ++ [r]) = outF k c l ++ [r] := by
  rcases h with h | ⟨h, h2⟩
  · unfold outF; rw [if_pos h, if_pos h, List.filter_append]; simp [hr]
  · unfold outF; rw [if_neg h, if_neg h, List.filter_append, List.filter_append]; simp [h2, show ¬ r.key < k by omega]
set_option maxHeartbeats 8000000 in
theorem spec_l6Set (H : HH) {r y} {x : DEngine} {k : Int} {c : List DVersion} (hl : x.le 1048576) (hs : sortedR x.rows) (hcb : c.length ≤ 1048576)
    (hy : y = { x with rows := outF k c x.rows }) (hr0 : r.1 ≠ 0) (hrc : ∀ q, CleanH (hit [(r, q)]) H) :
    PUpdW Tryz.prog 121 [.c (.pt r [] 4 0 0), I k, .c (.own 4 (c.map DVersion.enc))] ((r, .own 4 [x.enc]) :: H) (.t []) ((r, .own 4 [y.enc]) :: H) r (fun q => q.head? = some (0, 3)) := by
  obtain ⟨⟨b1, b1p⟩, b2, b2p⟩ := hl
  refine PUpdWB2.of [0, 1, 2, 6, 7, 8, 19, 35, 51, 53, 71] Tryz.func121 rfl (by simp [Tryz.f121]) ?_
  intro d hd0 hfr0 hcl0 hout0
  have hrn : ∀ n, ¬ r = (d, n) := fun n h => by have := hfr0 n; rw [look_cons, if_pos h] at this; cases this
  have hrm : ∀ n, ¬ (d, n) = r := fun n h => hrn n h.symm
  have hrd : ¬ r.1 = d := fun h => hrn r.2 (by rw [← h])
  have hfr : ∀ n, Px.look H (d, n) = none := fun n => by have := hfr0 n; rwa [look_cons, if_neg (hrn n)] at this
  have hcl : CleanH (atD d) H := ((CleanH_cons _ _ _ _).1 hcl0).2
  have hout : outH d H = H := by have := hout0; rw [outH_cons, if_neg hrd] at this; exact (List.cons.inj this).2
  have hcd : ∀ n q, CleanH (hit [((d, n), q)]) H := fun n q => hcl.at
  clear hfr0 hcl0 hout0
  simp (maxSteps := 4000000) [hd0, hfr, hout, hcl, hcd, delA_none, hrn, hrm, hrd, hr0, hrc, Tryz.f121, DEngine.enc]
  obtain ⟨I0, hI⟩ : ∃ I0 : Nat → St → Prop, ∀ m st, I0 m st ↔ ∃ i : Nat, i + m = x.rows.length ∧ ∃ lg, (∀ a b q, ((a, b), q) ∈ lg → (a, b) = r ∧ q.head? = some (0, 3)) ∧
      ((¬ c.length = 0 ∧ ltK k (x.rows.take i) ∧ ∃ O, O = x.rows.take i ∧ st = ⟨[(0, .c (.pt r [] 4 0 0)), (1, I k), (2, .c (.sl (d, 2) [] 4 0 c.length)), (6, .c (.sl (d, 6) [] 2 0 O.length)), (7, B false), (8, I i)],
          ((d, 6), .own 2 (O.map DRow.enc)) :: ((d, 2), .own 4 (c.map DVersion.enc)) :: (r, .own 4 [[.v (.int .i64 x.next), .v (.int .i64 x.clock), .own 5 (x.txns.map DTxn.enc), .own 2 (hol k x.rows i)]]) :: H, lg⟩) ∨
       (pastK k c x.rows i ∧ ∃ O, O = outF k c (x.rows.take i) ∧ st = ⟨[(0, .c (.pt r [] 4 0 0)), (1, I k), (6, .c (.sl (d, 6) [] 2 0 O.length)), (7, B true), (8, I i)],
          ((d, 6), .own 2 (O.map DRow.enc)) :: (r, .own 4 [[.v (.int .i64 x.next), .v (.int .i64 x.clock), .own 5 (x.txns.map DTxn.enc), .own 2 (hol k x.rows i)]]) :: H, lg⟩)) := ⟨_, fun _ _ => Iff.rfl⟩
  refine LoopK.intro I0 (x.rows.length + 1) ?_ ?_
  · by_cases hc : c = []
    · subst hc
      exact LK.intro x.rows.length [0, 1, 6, 7, 8] [2] (by omega) (by decide) (by simp (maxSteps := 4000000) [hd0, hfr, hout, hcl, hcd, delA_none, hrn, hrm, hrd, hr0, hrc, hit, hit1]) ((hI _ _).2 ⟨0, by omega, [], by simp, .inr ⟨.inl rfl, [], by simp [outF], by simp (maxSteps := 4000000) [hd0, hfr, hout, hcl, hcd, delA_none, hrn, hrm, hrd, hr0, hrc, hol]⟩⟩)
    · exact LK.intro x.rows.length [0, 1, 2, 6, 7, 8] [] (by omega) (by decide) (by simp (maxSteps := 4000000) [hd0, hfr, hout, hcl, hcd, delA_none, hrn, hrm, hrd, hr0, hrc, hit, hit1]) ((hI _ _).2 ⟨0, by omega, [], by simp, .inl ⟨by simpa using hc, by simp [ltK], [], by simp, by simp (maxSteps := 4000000) [hd0, hfr, hout, hcl, hcd, delA_none, hrn, hrm, hrd, hr0, hrc, hol, hc]⟩⟩)
  rintro m st hst
  obtain ⟨i, him, lg, hlg, hAB⟩ := (hI _ _).1 hst
  clear hst
  have hlg' : ∀ p, ∀ a b q, ((a, b), q) ∈ (r, (0, 3) :: p) :: lg → (a, b) = r ∧ q.head? = some (0, 3) := fun p a b q h => by
    rcases List.mem_cons.1 h with h | h
    · cases h; exact ⟨rfl, rfl⟩
    · exact hlg _ _ _ h
  have hLl := hol_len (k := k) (l := x.rows) (i := i)
  have hLc := fun K => hol_clean (k := k) (l := x.rows) (i := i) (K := K)
  by_cases hi : i < x.rows.length
  · have w1 : IntKind.i64.wrap ((i : Int) + 1) = i + 1 := w64 (by omega) (by omega)
    have hLg := hol_get (k := k) hi
    have hLn := hol_next (k := k) hi
    have hLo := hol_no (k := k) hi
    have htk := List.take_succ_eq_append_getElem hi
    have hcb2 : x.rows[i].chain.length ≤ 1048576 := b2p _ (List.getElem_mem hi)
    generalize hol k x.rows i = L at *
    have hiL : i < L.length := by omega
    have hLe : L[i] = x.rows[i].enc := by rw [List.getElem?_eq_getElem hiL] at hLg; exact Option.some.inj hLg
    rcases hAB with ⟨hc, hlt, O, hO, rfl⟩ | ⟨hp, O, hO, rfl⟩
    · rw [← hO] at hlt
      have hOl : O.length ≤ 1048576 := by rw [hO, List.length_take]; omega
      have hpn' : k ≤ x.rows[i].key → pastK k c x.rows (i + 1) := fun h => .inr ⟨i, hi, Nat.lt_succ_self i, h⟩
      rcases Int.lt_trichotomy x.rows[i].key k with hk | hk | hk
      · simp (maxSteps := 4000000) [hd0, hfr, hout, hcl, hcd, delA_none, hrn, hrm, hrd, hr0, hrc, hLl, hLe, eq_true (show (i : Int) < x.rows.length by omega), hi, hiL, DRow.enc, hLc, w1, eq_false (show ¬ k < x.rows[i].key by omega), eq_false (show ¬ x.rows[i].key = k by omega)]
        refine ⟨by omega, ?_⟩
        refine LK.absorbO (d, 6) [(O.length, 1)] r [(0, 3), (i, 1)] hd0 hr0 hrd (hrm 6) (by simp) (by simp) ?_
        simp (maxSteps := 4000000) [hd0, hfr, hout, hcl, hcd, delA_none, hrn, hrm, hrd, hr0, hrc, List.getElem?_append_right, List.set_append_right, hLe, hiL, DRow.enc, hLc, DTxn.enc, DUndo.enc, DVersion.enc]
        have hX : holR k x.rows[i] = [.v (.int .i64 x.rows[i].key), .x] := by unfold holR; rw [if_neg (by omega)]
        rw [hX] at hLn
        refine LK.intro (m - 1) [0, 1, 2, 6, 7, 8] [] (by omega) (by decide) (by simp (maxSteps := 4000000) [hd0, hfr, hout, hcl, hcd, delA_none, hrn, hrm, hrd, hr0, hrc, hit, hit1]) ((hI _ _).2 ⟨i + 1, by omega, _, hlg' [(i, 1)], .inl ⟨hc, by rw [htk, ← hO]; exact ltK_next hlt hk, O ++ [x.rows[i]], by rw [htk, hO], ?_⟩⟩)
        rw [hLn]
        simp [DRow.enc]
      · have hpn := hpn' (by omega)
        simp (maxSteps := 4000000) [hd0, hfr, hout, hcl, hcd, delA_none, hrn, hrm, hrd, hr0, hrc, hLl, hLe, eq_true (show (i : Int) < x.rows.length by omega), hi, hiL, DRow.enc, hLc, w1, hk]
        refine ⟨by omega, ?_⟩
        refine LK.intro (m - 1) [0, 1, 6, 7, 8] [] (by omega) (by decide) (by simp (maxSteps := 4000000) [hd0, hfr, hout, hcl, hcd, delA_none, hrn, hrm, hrd, hr0, hrc, hit, hit1]) ((hI _ _).2 ⟨i + 1, by omega, _, hlg, .inr ⟨hpn, O ++ [⟨k, c⟩], by rw [htk, ← hO]; exact (outF_eq hc hlt hk).symm, ?_⟩⟩)
        rw [hLo hk]
        simp [DRow.enc]
      · have hX : holR k x.rows[i] = [.v (.int .i64 x.rows[i].key), .x] := by unfold holR; rw [if_neg (by omega)]
        rw [hX] at hLn
        have hpn := hpn' (by omega)
        simp (maxSteps := 4000000) [hd0, hfr, hout, hcl, hcd, delA_none, hrn, hrm, hrd, hr0, hrc, hLl, hLe, eq_true (show (i : Int) < x.rows.length by omega), hi, hiL, DRow.enc, hLc, w1, eq_true hk, eq_false (show ¬ x.rows[i].key = k by omega)]
        refine ⟨by omega, by omega, ?_⟩
        refine LK.absorbO (d, 6) [(O.length + 1, 1)] r [(0, 3), (i, 1)] hd0 hr0 hrd (hrm 6) (by simp) (by simp) ?_
        simp (maxSteps := 4000000) [hd0, hfr, hout, hcl, hcd, delA_none, hrn, hrm, hrd, hr0, hrc, List.getElem?_append_right, List.set_append_right, hLe, hiL, DRow.enc, hLc, DTxn.enc, DUndo.enc, DVersion.enc]
        refine LK.intro (m - 1) [0, 1, 6, 7, 8] [] (by omega) (by decide) (by simp (maxSteps := 4000000) [hd0, hfr, hout, hcl, hcd, delA_none, hrn, hrm, hrd, hr0, hrc, hit, hit1]) ((hI _ _).2 ⟨i + 1, by omega, _, hlg' [(i, 1)], .inr ⟨hpn, (O ++ [⟨k, c⟩]) ++ [x.rows[i]], by rw [htk, ← hO]; exact (outF_gt hc hlt hk).symm, ?_⟩⟩)
        rw [hLn]
        simp [DRow.enc]
    · have hp2 := pastK_gt hs hp hi
      have hOl : O.length ≤ 1048577 := by
        have := outF_len (k := k) (c := c) (l := x.rows.take i) (.inr trivial)
        rw [← hO, List.length_take] at this; omega
      have hpn : pastK k c x.rows (i + 1) := hp.imp id (fun ⟨j, hj, h1, h2⟩ => ⟨j, hj, by omega, h2⟩)
      by_cases hk : x.rows[i].key = k
      · simp (maxSteps := 4000000) [hd0, hfr, hout, hcl, hcd, delA_none, hrn, hrm, hrd, hr0, hrc, hLl, hLe, eq_true (show (i : Int) < x.rows.length by omega), hi, hiL, DRow.enc, hLc, w1, hk]
        refine LK.intro (m - 1) [0, 1, 6, 7, 8] [] (by omega) (by decide) (by simp (maxSteps := 4000000) [hd0, hfr, hout, hcl, hcd, delA_none, hrn, hrm, hrd, hr0, hrc, hit, hit1]) ((hI _ _).2 ⟨i + 1, by omega, _, hlg, .inr ⟨hpn, O, by rw [htk, outF_skip hp2 hk]; exact hO, ?_⟩⟩)
        rw [hLo hk]
        simp (maxSteps := 4000000) [hd0, hfr, hout, hcl, hcd, delA_none, hrn, hrm, hrd, hr0, hrc]
      · have hX : holR k x.rows[i] = [.v (.int .i64 x.rows[i].key), .x] := by unfold holR; rw [if_neg hk]
        rw [hX] at hLn
        simp (maxSteps := 4000000) [hd0, hfr, hout, hcl, hcd, delA_none, hrn, hrm, hrd, hr0, hrc, hLl, hLe, eq_true (show (i : Int) < x.rows.length by omega), hi, hiL, DRow.enc, hLc, w1, eq_false hk]
        refine ⟨by omega, ?_⟩
        refine LK.absorbO (d, 6) [(O.length, 1)] r [(0, 3), (i, 1)] hd0 hr0 hrd (hrm 6) (by simp) (by simp) ?_
        simp (maxSteps := 4000000) [hd0, hfr, hout, hcl, hcd, delA_none, hrn, hrm, hrd, hr0, hrc, List.getElem?_append_right, List.set_append_right, hLe, hiL, DRow.enc, hLc, DTxn.enc, DUndo.enc, DVersion.enc]
        refine LK.intro (m - 1) [0, 1, 6, 7, 8] [] (by omega) (by decide) (by simp (maxSteps := 4000000) [hd0, hfr, hout, hcl, hcd, delA_none, hrn, hrm, hrd, hr0, hrc, hit, hit1]) ((hI _ _).2 ⟨i + 1, by omega, _, hlg' [(i, 1)], .inr ⟨hpn, O ++ [x.rows[i]], by rw [htk, outF_more hp2 hk, hO], ?_⟩⟩)
        rw [hLn]
        simp [DRow.enc]
  · have hie : i = x.rows.length := by omega
    subst hie
    rw [List.take_length] at hAB
    generalize hol k x.rows x.rows.length = L at *
    rcases hAB with ⟨hc, hlt, O, hO, rfl⟩ | ⟨hp, O, hO, rfl⟩
    · have hOl : O.length ≤ 1048576 := by rw [hO]; exact b2
      rw [outF_end hc hlt, ← hO] at hy
      simp (maxSteps := 4000000) [hd0, hfr, hout, hcl, hcd, delA_none, hrn, hrm, hrd, hr0, hrc, hLl, hLc]
      refine ⟨by omega, ?_, ?_⟩
      · subst hy; simp [DRow.enc]
      · rintro a b q (⟨h, rfl⟩ | h)
        · exact ⟨h, rfl⟩
        · exact hlg _ _ _ h
    · rw [← hO] at hy
      simp (maxSteps := 4000000) [hd0, hfr, hout, hcl, hcd, delA_none, hrn, hrm, hrd, hr0, hrc, hLl, hLc]
      refine ⟨?_, ?_⟩
      · subst hy; simp [DRow.enc]
      · rintro a b q (⟨h, rfl⟩ | h)
        · exact ⟨h, rfl⟩
        · exact hlg _ _ _ h
end Go.Proofs.YtnlbjfdmjlnlgaaGreat


namespace Go.Proofs.YtnlbjfdmjlnlgaaGreat
open Go Go.Px Go.RowKit Go.Proofs
set_option linter.unnecessarySimpa false
set_option linter.unusedVariables false
set_option linter.unusedSimpArgs false
set_option maxRecDepth 100000
set_option maxHeartbeats 1000000
attribute [-simp] Int.not_le Int.not_lt
theorem setC_outF {l : List DRow} {k : Int} {c : List DVersion} (hs : sortedR l) (hf : foundR l k = true) : setC l (rowP l k) c = outF k c l := by
  obtain ⟨hp, hk⟩ := foundR_key hf
  obtain ⟨-, h2, -⟩ := rowP_spec (k := k) l
  generalize rowP l k = p at *
  have hA : ∀ r ∈ l.take p, r.key < k := fun r hr => by
    obtain ⟨j, hj, rfl⟩ := List.getElem_of_mem hr
    rw [List.getElem_take]
    rw [List.length_take] at hj
    exact h2 j (by omega) (by omega)
  have hB : ∀ r ∈ l.drop (p + 1), k < r.key := fun r hr => by
    obtain ⟨j, hj, rfl⟩ := List.getElem_of_mem hr
    rw [List.getElem_drop]
    rw [List.length_drop] at hj
    have := hs p (p + 1 + j) (by omega) (by omega)
    omega
  have hd : l = l.take p ++ l[p] :: l.drop (p + 1) := by rw [List.getElem_cons_drop, List.take_append_drop]
  generalize hr : l[p] = rp at *
  have e1 : ∀ q : DRow → Bool, l.filter q = (l.take p).filter q ++ (if q rp = true then [rp] else []) ++ (l.drop (p + 1)).filter q := fun q => by
    conv => lhs; rw [hd]
    rw [List.filter_append, List.filter_cons]
    split <;> simp
  unfold setC outF
  split
  · rw [e1, List.eraseIdx_eq_take_drop_succ]
    rw [List.filter_eq_self.2 (fun r hr => by have := hA r hr; simp; omega), List.filter_eq_self.2 (fun r hr => by have := hB r hr; simp; omega)]
    simp [hk]
  · rw [List.getElem?_eq_getElem hp, hr]
    show l.set p { rp with chain := c } = _
    rw [List.set_eq_take_append_cons_drop, if_pos hp, e1, e1]
    rw [List.filter_eq_self.2 (fun r hr => by have := hA r hr; simpa using this), List.filter_eq_nil_iff.2 (fun r hr => by have := hB r hr; simp; omega), List.filter_eq_nil_iff.2 (fun r hr => by have := hA r hr; simp; omega), List.filter_eq_self.2 (fun r hr => by have := hB r hr; simpa using this)]
    have hrp : ({ rp with chain := c } : DRow) = ⟨k, c⟩ := by rw [← hk]
    rw [hrp]
    simp [hk]
theorem ixF_rowP {l : List DRow} {k : Int} (hs : sortedR l) (hf : foundR l k = true) : ixF (fun t : DRow => decide (t.key = k)) 0 l = rowP l k := by
  obtain ⟨hp, hk⟩ := foundR_key hf
  obtain ⟨-, h2, -⟩ := rowP_spec (k := k) l
  rcases ixF_some (p := fun t : DRow => decide (t.key = k)) (l := l) (n := 0) with ⟨h3, h4⟩ | ⟨i, hi, h3, h4⟩
  · have := h4 _ (List.getElem_mem hp)
    simp [hk] at this
  · simp only [decide_eq_true_eq] at h4
    rw [h3]
    rcases Nat.lt_trichotomy i (rowP l k) with h | h | h
    · have := h2 i hi h; omega
    · omega
    · have := hs _ _ h hi; omega
theorem spec_l6Row_o (H : HH) {r c0 c1 c2} {l : List DRow} {k : Int} (hb : l.length ≤ 1048576) (ha : arrAt H r [] = some (4, [[c0, c1, c2, .own 2 (l.map DRow.enc)]])) :
    PFun Tryz.prog 120 [.c (.pt r [] 4 0 0), I k] H (I (ixF (fun t : DRow => decide (t.key = k)) 0 l)) := by
  obtain ⟨R, hR⟩ : ∃ R, R = ixF (fun t : DRow => decide (t.key = k)) 0 l := ⟨_, rfl⟩
  rw [← hR]
  have hsub : arrAt H r [(0, 3)] = some (2, l.map DRow.enc) := by simpa using arrAt_sub ha (i := 0) (f := 3) rfl rfl
  refine PFun.of [0, 1, 4, 5, 12, 24] Tryz.func120 rfl (by simp [Tryz.f120]) ?_
  intro d hd0 hfr hcl hout
  have hcd : ∀ n q, CleanH (hit [((d, n), q)]) H := fun n q => hcl.at
  have ha_n : ∀ n, ¬ (d, n) = r := fun n => nm_ne (ne_of_arr hfr ha)
  have ha_d : ¬ r.1 = d := ne_of_arr hfr ha
  have ha_m : ∀ n, ¬ r = (d, n) := fun n => nm_ne' (ne_of_arr hfr ha)
  simp (maxSteps := 4000000) [hd0, hfr, hout, hcl, hcd, delA_none, ha, ha_n, ha_d, ha_m, Tryz.f120]
  refine LoopK.intro (fun m s => ∃ i : Nat, i + m = l.length ∧ ixF (fun t : DRow => decide (t.key = k)) i (l.drop i) = R ∧ s = ⟨[(0, .c (.pt r [] 4 0 0)), (1, I k), (5, I i)], H, []⟩) (l.length + 1)
    (LK.intro l.length [0, 1, 5] [] (by omega) (by decide) (by simp (maxSteps := 4000000) [hd0, hfr, hout, hcl, hcd, delA_none, ha, ha_n, ha_d, ha_m]) ⟨0, by simp [hR]⟩) ?_
  rintro m s ⟨i, him, hinv, rfl⟩
  by_cases hi' : i < l.length
  case neg =>
    rw [List.drop_eq_nil_of_le (by omega)] at hinv
    simp only [ixF] at hinv
    simp (maxSteps := 4000000) [hd0, hfr, hout, hcl, hcd, delA_none, ha, ha_n, ha_d, ha_m, hsub, eq_false (show ¬ (i : Int) < l.length by omega), hinv.symm]
  rw [List.drop_eq_getElem_cons hi'] at hinv
  simp only [ixF] at hinv
  have w1 : IntKind.i64.wrap ((i : Int) + 1) = i + 1 := w64 (by omega) (by omega)
  by_cases he : l[i].key = k
  · rw [if_pos (by simp [he])] at hinv
    simp (maxSteps := 4000000) [hd0, hfr, hout, hcl, hcd, delA_none, ha, ha_n, ha_d, ha_m, hsub, eq_true (show (i : Int) < l.length by omega), hi', DRow.enc, eq_true he, hinv.symm]
  · rw [if_neg (by simp [he])] at hinv
    simp (maxSteps := 4000000) [hd0, hfr, hout, hcl, hcd, delA_none, ha, ha_n, ha_d, ha_m, hsub, eq_true (show (i : Int) < l.length by omega), hi', DRow.enc, eq_false he, w1]
    refine LK.intro (m - 1) [0, 1, 5] [] (by omega) (by decide) (by simp (maxSteps := 4000000) [hd0, hfr, hout, hcl, hcd, delA_none, ha, ha_n, ha_d, ha_m]) ⟨i + 1, by omega, hinv, by simp⟩
theorem openF_cons {c : List DVersion} {id : Int} (h : openF c id = true) : ∃ v l, c = v :: l ∧ v.txn = id ∧ v.at_ = 0 := by
  cases c with
  | nil => simp [openF] at h
  | cons v l =>
    simp only [openF, Bool.and_eq_true, decide_eq_true_eq] at h
    exact ⟨v, l, rfl, h.2, h.1⟩
end Go.Proofs.YtnlbjfdmjlnlgaaGreat


namespace Go.Proofs.YtnlbjfdmjlnlgaaGreat
open Go Go.Px Go.RowKit Go.Proofs
set_option linter.unnecessarySimpa false
set_option linter.unusedVariables false
set_option linter.unusedSimpArgs false
set_option maxRecDepth 100000
set_option maxHeartbeats 1000000
attribute [-simp] Int.not_le Int.not_lt
theorem resF_bad {x y : DEngine} {v c : Int} (h : engF x ≠ 0) : resF x y v c = badE (engF x) := by unfold resF; rw [if_pos h]
theorem resF_code {x y : DEngine} {v c : Int} (h : engF x = 0) (hc : c ≠ 0) : resF x y v c = badE c := by unfold resF; rw [if_neg (by simp [h]), if_pos hc]
theorem resF_ok {x y : DEngine} {v : Int} (h : engF x = 0) : resF x y v 0 = ⟨0, v, y⟩ := by unfold resF; rw [if_neg (by simp [h])]; simp
theorem rolG_le {x : DEngine} {id : Int} {g : Nat → DTxn → Int × Int × DEngine} (h : x.le 1048576) (hg : ∀ i (hi : i < x.txns.length), (g i x.txns[i]).2.2.le 1048576) : (rolR x id g).2.2.le 1048576 := by
  unfold rolR
  simp only
  split
  · exact h
  · rename_i hn
    split
    · exact h
    · obtain ⟨i, hi, h2⟩ : ∃ i, ∃ hi : i < x.txns.length, ixF (fun t : DTxn => decide (t.id_ = id)) 0 x.txns = i := by
        rcases ixF_some (p := fun t : DTxn => decide (t.id_ = id)) (l := x.txns) (n := 0) with ⟨h2, h3⟩ | ⟨i, hi, h2, h3⟩
        · omega
        · exact ⟨i, hi, by rw [h2]; omega⟩
      rw [h2]
      simp only [Int.toNat_natCast, List.getD_eq_getElem?_getD, List.getElem?_eq_getElem hi, Option.getD_some]
      exact hg i hi
theorem resF_le {x y : DEngine} {v c : Int} (h : y.le 1048576) : (resF x y v c).le 1048576 := by
  unfold resF
  split
  · exact badE_le
  · split
    · exact badE_le
    · exact h
end Go.Proofs.YtnlbjfdmjlnlgaaGreat

