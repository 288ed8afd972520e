/- Part 4 of the proof that the law FnExactBeginTxn answers true at every input: memory as trees, the program walked over them, and what it computes; no condition. -/
import Derived.Test.YtnlbjfdmjlnlgaaU3
namespace Go.Proofs.Ytnlbjfdmjlnlgaa
open Go Go.Px Go.RowKit Go.Proofs
set_option linter.unnecessarySimpa false
set_option linter.unusedVariables false
set_option linter.unusedSimpArgs false
set_option maxRecDepth 100000
attribute [-simp] Int.not_le Int.not_lt
theorem rowOpen_zero {txns : List DTxn} {r : DRow} (hv : ∀ v ∈ r.chain, v.txn ≠ 0) (h : writF r.chain = 0) : rowOpenF txns r = true := by
  unfold rowOpenF
  cases hc : r.chain with
  | nil => rfl
  | cons v l =>
    rw [hc] at h
    have h1 := hv v (by rw [hc]; simp)
    simp only [writF] at h
    split at h
    · exact absurd h h1
    · rename_i h2; simp [h2]
theorem rowOpen_some {txns : List DTxn} {r : DRow} (h : writF r.chain ≠ 0) : rowOpenF txns r = txns.any fun t => decide (t.id_ = writF r.chain) && undoesF t r.key := by
  unfold rowOpenF
  cases hc : r.chain with
  | nil => rw [hc] at h; simp [writF] at h
  | cons v l =>
    rw [hc] at h
    simp only [writF] at h ⊢
    split at h
    · rename_i h2; simp [h2]
    · simp at h
theorem spec_l6Open (H : HH) {r0 q0 r1 q1 r2 q2 ix} {x : DEngine} (hix : ix < x.rows.length) (hl : x.le 1048576) (ht : txsF x.next x.clock none x.txns = 0) (hv : ∀ v ∈ x.rows[ix].chain, v.txn ≠ 0)
    (a0 : arrAt H r0 q0 = some (4, [eRow x r1 q1 r2 q2])) (a1 : arrAt H r1 q1 = some (5, x.txns.map DTxn.enc)) (a2 : arrAt H r2 q2 = some (2, x.rows.map DRow.enc)) :
    PFun Try.prog 90 [.c (.pt r0 q0 4 0 0), .c (.pt r2 q2 2 ix 0)] H (B (rowOpenF x.txns x.rows[ix])) := by
  have hsub := arrAt_sub a2 (i := ix) (f := 1) (row := x.rows[ix].enc) (by simp [hix]) rfl
  refine PFun.of [0, 1, 4, 5, 6, 13] Try.func90 rfl (by simp [Try.f90]) ?_
  intro d hd0 hfr hcl hout
  have hcd : ∀ n q, CleanH (hit [((d, n), q)]) H := fun n q => hcl.at
  have a0_n : ∀ n, ¬ (d, n) = r0 := fun n => nm_ne (ne_of_arr hfr a0)
  have a0_d : ¬ r0.1 = d := ne_of_arr hfr a0
  have a0_m : ∀ n, ¬ r0 = (d, n) := fun n => nm_ne' (ne_of_arr hfr a0)
  have a1_n : ∀ n, ¬ (d, n) = r1 := fun n => nm_ne (ne_of_arr hfr a1)
  have a1_d : ¬ r1.1 = d := ne_of_arr hfr a1
  have a1_m : ∀ n, ¬ r1 = (d, n) := fun n => nm_ne' (ne_of_arr hfr a1)
  have a2_n : ∀ n, ¬ (d, n) = r2 := fun n => nm_ne (ne_of_arr hfr a2)
  have a2_d : ¬ r2.1 = d := ne_of_arr hfr a2
  have a2_m : ∀ n, ¬ r2 = (d, n) := fun n => nm_ne' (ne_of_arr hfr a2)
  simp (maxSteps := 4000000) [hd0, hfr, hout, hcl, hcd, delA_none, a0, a0_n, a0_d, a0_m, a1, a1_n, a1_d, a1_m, a2, a2_n, a2_d, a2_m, Try.f90]
  simp (maxSteps := 4000000) [hd0, hfr, hout, hcl, hcd, delA_none, a0, a0_n, a0_d, a0_m, a1, a1_n, a1_d, a1_m, a2, a2_n, a2_d, a2_m, hix, DRow.enc]
  refine (spec_l5Writer _ (l := x.rows[ix].chain) (by simp (maxSteps := 4000000) [hd0, hfr, hout, hcl, hcd, delA_none, a0, a0_n, a0_d, a0_m, a1, a1_n, a1_d, a1_m, a2, a2_n, a2_d, a2_m, hsub])).useCK ?_
  have hz := rowOpen_zero (txns := x.txns) hv
  have hs := rowOpen_some (txns := x.txns) (r := x.rows[ix])
  obtain ⟨b1, b1p⟩ := hl.1
  generalize writF x.rows[ix].chain = w at *
  generalize rowOpenF x.txns x.rows[ix] = R at *
  by_cases hw : w = 0
  case pos => simp (maxSteps := 4000000) [hd0, hfr, hout, hcl, hcd, delA_none, a0, a0_n, a0_d, a0_m, a1, a1_n, a1_d, a1_m, a2, a2_n, a2_d, a2_m, eq_true hw, hz hw]
  simp (maxSteps := 4000000) [hd0, hfr, hout, hcl, hcd, delA_none, a0, a0_n, a0_d, a0_m, a1, a1_n, a1_d, a1_m, a2, a2_n, a2_d, a2_m, eq_false hw]
  refine (spec_l6Txn _ (r1 := r1) (q1 := q1) (r2 := r2) (q2 := q2) hl (by simp (maxSteps := 4000000) [hd0, hfr, hout, hcl, hcd, delA_none, a0, a0_n, a0_d, a0_m, a1, a1_n, a1_d, a1_m, a2, a2_n, a2_d, a2_m]) (by simp (maxSteps := 4000000) [hd0, hfr, hout, hcl, hcd, delA_none, a0, a0_n, a0_d, a0_m, a1, a1_n, a1_d, a1_m, a2, a2_n, a2_d, a2_m])).useCK ?_
  have hR := hs hw
  clear hs hz
  simp (maxSteps := 4000000) [hd0, hfr, hout, hcl, hcd, delA_none, a0, a0_n, a0_d, a0_m, a1, a1_n, a1_d, a1_m, a2, a2_n, a2_d, a2_m]
  refine DrawK.intro 27 [4] rfl (by kernel_rfl) (by decide) ?_
  rcases ixF_some (p := fun t : DTxn => decide (t.id_ = w)) (l := x.txns) (n := 0) with ⟨h2, h3⟩ | ⟨i, hi, h2, h3⟩
  · have hR0 : R = false := by
      rw [hR, List.any_eq_false]
      intro t htm
      have := h3 t htm
      simp only [decide_eq_false_iff_not] at this
      simp [this]
    rw [h2]
    simp (maxSteps := 4000000) [hd0, hfr, hout, hcl, hcd, delA_none, a0, a0_n, a0_d, a0_m, a1, a1_n, a1_d, a1_m, a2, a2_n, a2_d, a2_m, hR0]
  · rw [h2]
    simp only [decide_eq_true_eq] at h3
    rw [any_at ht hi h3] at hR
    subst hR
    by_cases h5 : x.txns[i].state = 1
    · simp (maxSteps := 4000000) [hd0, hfr, hout, hcl, hcd, delA_none, a0, a0_n, a0_d, a0_m, a1, a1_n, a1_d, a1_m, a2, a2_n, a2_d, a2_m, eRow, hi, DTxn.enc, eq_true h5, hix, DRow.enc, eq_true (show (0 : Int) ≤ (i : Int) by omega), eq_true (show (0 : Int) ≤ 0 + (i : Int) by omega), Int.zero_add]
      refine ⟨_, spec_l6Wrote _ hi (b1p _ (List.getElem_mem hi)) (by simp (maxSteps := 4000000) [hd0, hfr, hout, hcl, hcd, delA_none, a0, a0_n, a0_d, a0_m, a1, a1_n, a1_d, a1_m, a2, a2_n, a2_d, a2_m]), ?_⟩
      simp (maxSteps := 4000000) [hd0, hfr, hout, hcl, hcd, delA_none, a0, a0_n, a0_d, a0_m, a1, a1_n, a1_d, a1_m, a2, a2_n, a2_d, a2_m, undoesF, eq_true h5]
    · simp (maxSteps := 4000000) [hd0, hfr, hout, hcl, hcd, delA_none, a0, a0_n, a0_d, a0_m, a1, a1_n, a1_d, a1_m, a2, a2_n, a2_d, a2_m, eRow, hi, DTxn.enc, eq_false h5, undoesF, eq_true (show (0 : Int) ≤ (i : Int) by omega), eq_true (show (0 : Int) ≤ 0 + (i : Int) by omega), Int.zero_add]
end Go.Proofs.Ytnlbjfdmjlnlgaa

namespace Go.Proofs.Ytnlbjfdmjlnlgaa
open Go Go.Px Go.RowKit Go.Proofs
set_option linter.unnecessarySimpa false
set_option linter.unusedVariables false
set_option linter.unusedSimpArgs false
set_option maxRecDepth 100000
attribute [-simp] Int.not_le Int.not_lt
theorem foundR_none {l : List DRow} {k : Int} (h : ∀ r ∈ l, r.key ≠ k) : foundR l k = false := by
  unfold foundR
  by_cases h1 : rowP l k < l.length
  · simp only [List.getElem?_eq_getElem h1]
    simpa using h _ (List.getElem_mem h1)
  · simp [List.getElem?_eq_none (show l.length ≤ rowP l k by omega)]
theorem rowP_at {l : List DRow} {k : Int} {j : Nat} (hs : sortedR l) (hj : j < l.length) (he : l[j].key = k) : rowP l k = j := by
  obtain ⟨p1, p2, p3⟩ := rowP_spec (k := k) l
  have h1 : rowP l k ≤ j := by
    apply Nat.le_of_not_lt
    intro h
    have := p2 j hj h
    omega
  have h2 : ¬ rowP l k < j := by
    intro h
    have := p3 (by omega)
    have := hs (rowP l k) j h hj
    omega
  omega
theorem chainR_at {l : List DRow} {k : Int} {j : Nat} (hs : sortedR l) (hj : j < l.length) (he : l[j].key = k) : chainR l k = l[j].chain := by
  have hp := rowP_at hs hj he
  have hf : foundR l k = true := by unfold foundR; simp [hp, List.getElem?_eq_getElem hj, he]
  unfold chainR
  simp [hf, hp, List.getD_eq_getElem?_getD, List.getElem?_eq_getElem hj]
theorem chainR_none {l : List DRow} {k : Int} (h : ∀ r ∈ l, r.key ≠ k) : chainR l k = [] := by
  unfold chainR; simp [foundR_none h]
theorem openF_writ {l : List DVersion} {id : Int} (h : id ≠ 0) : openF l id = decide (writF l = id) := by
  cases l with
  | nil => have h0 : ¬ (0 : Int) = id := fun e => h e.symm
           simp [openF, writF, h0]
  | cons v l =>
    simp only [openF, writF]
    by_cases h1 : v.at_ = 0
    · simp [h1]
    · have h0 : ¬ (0 : Int) = id := fun e => h e.symm
      simp [h1, h0]
theorem take_any_succ {l : List DUndo} {k : Int} {j : Nat} (hj : j < l.length) : ((l.take (j + 1)).any fun x => decide (x.key = k)) = (((l.take j).any fun x => decide (x.key = k)) || decide (l[j].key = k)) := by
  rw [List.take_succ_eq_append_getElem hj, List.any_append]; simp
set_option maxHeartbeats 8000000 in
theorem spec_l6Owns (H : HH) {r0 q0 r1 q1 r2 q2 ti} {x : DEngine} (hti : ti < x.txns.length) (hl : x.le 1048576) (hid : x.txns[ti].id_ ≠ 0) (hs : sortedR x.rows)
    (a0 : arrAt H r0 q0 = some (4, [eRow x r1 q1 r2 q2])) (a1 : arrAt H r1 q1 = some (5, x.txns.map DTxn.enc)) (a2 : arrAt H r2 q2 = some (2, x.rows.map DRow.enc)) :
    PFun Try.prog 50 [.c (.pt r0 q0 4 0 0), .c (.pt r1 q1 5 ti 0)] H (B (ownsF x.rows x.txns[ti])) := by
  have hsub := arrAt_sub a1 (i := ti) (f := 4) (row := x.txns[ti].enc) (by simp [hti]) rfl
  have hbu : x.txns[ti].undos.length ≤ 1048576 := hl.1.2 _ (List.getElem_mem hti)
  have hF : (∀ j, j < x.txns[ti].undos.length → ownI x.rows x.txns[ti].id_ x.txns[ti].undos j = true) → ownsF x.rows x.txns[ti] = true := fun h => by
    unfold ownsF; rw [List.all_eq_true]; intro j hj; exact h j (List.mem_range.1 hj)
  have hE : ∀ j, j < x.txns[ti].undos.length → ownI x.rows x.txns[ti].id_ x.txns[ti].undos j = false → ownsF x.rows x.txns[ti] = false := fun j hj h => by
    cases hw : ownsF x.rows x.txns[ti] with
    | false => rfl
    | true =>
      unfold ownsF at hw
      rw [List.all_eq_true] at hw
      have := hw j (List.mem_range.2 hj)
      rw [h] at this; exact absurd this (by simp)
  generalize ownsF x.rows x.txns[ti] = R at *
  generalize hu : x.txns[ti].undos = us at *
  generalize hd' : x.txns[ti].id_ = id at *
  refine PFun.of [0, 1, 4, 5, 6, 7, 8, 9, 16, 47, 50, 70] Try.func50 rfl (by simp [Try.f50]) ?_
  intro d hd0 hfr hcl hout
  have hcd : ∀ n q, CleanH (hit [((d, n), q)]) H := fun n q => hcl.at
  have a0_n : ∀ n, ¬ (d, n) = r0 := fun n => nm_ne (ne_of_arr hfr a0)
  have a0_d : ¬ r0.1 = d := ne_of_arr hfr a0
  have a0_m : ∀ n, ¬ r0 = (d, n) := fun n => nm_ne' (ne_of_arr hfr a0)
  have a1_n : ∀ n, ¬ (d, n) = r1 := fun n => nm_ne (ne_of_arr hfr a1)
  have a1_d : ¬ r1.1 = d := ne_of_arr hfr a1
  have a1_m : ∀ n, ¬ r1 = (d, n) := fun n => nm_ne' (ne_of_arr hfr a1)
  have a2_n : ∀ n, ¬ (d, n) = r2 := fun n => nm_ne (ne_of_arr hfr a2)
  have a2_d : ¬ r2.1 = d := ne_of_arr hfr a2
  have a2_m : ∀ n, ¬ r2 = (d, n) := fun n => nm_ne' (ne_of_arr hfr a2)
  simp (maxSteps := 4000000) [hd0, hfr, hout, hcl, hcd, delA_none, a0, a0_n, a0_d, a0_m, a1, a1_n, a1_d, a1_m, a2, a2_n, a2_d, a2_m, Try.f50]
  refine LoopK.intro (fun m s => ∃ i : Nat, i + m = us.length ∧ (∀ j, j < i → ownI x.rows id us j = true) ∧ s = ⟨[(0, .c (.pt r0 q0 4 0 0)), (1, .c (.pt r1 q1 5 ti 0)), (5, I i)], H, []⟩) (us.length + 1)
    (LK.intro us.length [0, 1, 5] [] (by omega) (by decide) (by simp (maxSteps := 4000000) [hd0, hfr, hout, hcl, hcd, delA_none, a0, a0_n, a0_d, a0_m, a1, a1_n, a1_d, a1_m, a2, a2_n, a2_d, a2_m]) ⟨0, by simp⟩) ?_
  rintro m s ⟨i, him, hinv, rfl⟩
  by_cases hi' : i < us.length
  case neg =>
    simp (maxSteps := 4000000) [hd0, hfr, hout, hcl, hcd, delA_none, a0, a0_n, a0_d, a0_m, a1, a1_n, a1_d, a1_m, a2, a2_n, a2_d, a2_m, hti, DTxn.enc, hu, eq_false (show ¬ (i : Int) < us.length by omega), hF (fun j hj => hinv j (by omega))]
  have w1 : IntKind.i64.wrap ((i : Int) + 1) = i + 1 := w64 (by omega) (by omega)
  have hO : ownI x.rows id us i = (openF (chainR x.rows us[i].key) id && ((us.take i).any (fun x => decide (x.key = us[i].key)) == us[i].had)) := by
    unfold ownI; rw [List.getElem?_eq_getElem hi']
  rw [openF_writ hid] at hO
  simp (maxSteps := 4000000) [hd0, hfr, hout, hcl, hcd, delA_none, a0, a0_n, a0_d, a0_m, a1, a1_n, a1_d, a1_m, a2, a2_n, a2_d, a2_m, hti, DTxn.enc, hu, hsub, hi', DUndo.enc, eq_true (show (i : Int) < us.length by omega)]
  refine (spec_l6Row _ (x := x) (r1 := r1) (q1 := q1) (r2 := r2) (q2 := q2) hl (by simp (maxSteps := 4000000) [hd0, hfr, hout, hcl, hcd, delA_none, a0, a0_n, a0_d, a0_m, a1, a1_n, a1_d, a1_m, a2, a2_n, a2_d, a2_m]) (by simp (maxSteps := 4000000) [hd0, hfr, hout, hcl, hcd, delA_none, a0, a0_n, a0_d, a0_m, a1, a1_n, a1_d, a1_m, a2, a2_n, a2_d, a2_m])).useCK ?_
  rcases ixF_some (p := fun t : DRow => decide (t.key = us[i].key)) (l := x.rows) (n := 0) with ⟨h2, h3⟩ | ⟨k, hk, h2, h3⟩
  · rw [h2]
    rw [chainR_none (by intro r hr; simpa using h3 r hr)] at hO
    have hR := hE i hi' (by rw [hO]; simp [writF, show ¬ (0 : Int) = id from fun e => hid e.symm])
    simp (maxSteps := 4000000) [hd0, hfr, hout, hcl, hcd, delA_none, a0, a0_n, a0_d, a0_m, a1, a1_n, a1_d, a1_m, a2, a2_n, a2_d, a2_m]
    refine DrawK.intro 18 [0, 1, 5, 6, 47] rfl (by kernel_rfl) (by decide) ?_
    simp (maxSteps := 4000000) [hd0, hfr, hout, hcl, hcd, delA_none, a0, a0_n, a0_d, a0_m, a1, a1_n, a1_d, a1_m, a2, a2_n, a2_d, a2_m, hR]
  simp only [decide_eq_true_eq] at h3
  rw [chainR_at hs hk h3] at hO
  rw [h2]
  have hsub2 := arrAt_sub a2 (i := k) (f := 1) (row := x.rows[k].enc) (by simp [hk]) rfl
  simp (maxSteps := 4000000) [hd0, hfr, hout, hcl, hcd, delA_none, a0, a0_n, a0_d, a0_m, a1, a1_n, a1_d, a1_m, a2, a2_n, a2_d, a2_m, Int.zero_add]
  refine DrawK.intro 18 [0, 1, 5, 6, 47] rfl (by kernel_rfl) (by decide) ?_
  simp (maxSteps := 4000000) [hd0, hfr, hout, hcl, hcd, delA_none, a0, a0_n, a0_d, a0_m, a1, a1_n, a1_d, a1_m, a2, a2_n, a2_d, a2_m, eRow, hk, DRow.enc, eq_false (show ¬ (k : Int) < 0 by omega), hti, DTxn.enc]
  refine ⟨_, spec_l5Writer _ (l := x.rows[k].chain) (by simp (maxSteps := 4000000) [hd0, hfr, hout, hcl, hcd, delA_none, a0, a0_n, a0_d, a0_m, a1, a1_n, a1_d, a1_m, a2, a2_n, a2_d, a2_m, hsub2]), ?_⟩
  by_cases e1 : writF x.rows[k].chain = id
  case neg =>
    have hR := hE i hi' (by rw [hO]; simp [e1])
    simp (maxSteps := 4000000) [hd0, hfr, hout, hcl, hcd, delA_none, a0, a0_n, a0_d, a0_m, a1, a1_n, a1_d, a1_m, a2, a2_n, a2_d, a2_m, eq_false e1, hR, hd', hti, DTxn.enc]
  simp (maxSteps := 4000000) [hd0, hfr, hout, hcl, hcd, delA_none, a0, a0_n, a0_d, a0_m, a1, a1_n, a1_d, a1_m, a2, a2_n, a2_d, a2_m, eq_true e1, hd', hti, DTxn.enc]
  refine LoopK.intro (fun m s => ∃ j : Nat, j + m = i ∧ s = ⟨[(0, .c (.pt r0 q0 4 0 0)), (1, .c (.pt r1 q1 5 ti 0)), (5, I i), (6, .c (.pt (d, 6) [] 4 0 0)), (8, B ((us.take j).any fun x => decide (x.key = us[i].key))), (9, I j)], ((d, 6), .own 4 [us[i].enc]) :: H, []⟩) (i + 1)
    (LK.intro i [0, 1, 5, 6, 8, 9] [] (by omega) (by decide) (by simp (maxSteps := 4000000) [hd0, hfr, hout, hcl, hcd, delA_none, a0, a0_n, a0_d, a0_m, a1, a1_n, a1_d, a1_m, a2, a2_n, a2_d, a2_m]) ⟨0, by simp [DUndo.enc]⟩) ?_
  rintro m2 s ⟨j, hjm, rfl⟩
  by_cases hj' : j < i
  · have w2 : IntKind.i64.wrap ((j : Int) + 1) = j + 1 := w64 (by omega) (by omega)
    have hju : j < us.length := by omega
    have hts := take_any_succ (k := us[i].key) hju
    simp (maxSteps := 4000000) [hd0, hfr, hout, hcl, hcd, delA_none, a0, a0_n, a0_d, a0_m, a1, a1_n, a1_d, a1_m, a2, a2_n, a2_d, a2_m, eq_true (show (j : Int) < (i : Int) by omega)]
    refine DrawK.intro 14 [0, 1, 5, 6, 9, 66] rfl (by kernel_rfl) (by decide) ?_
    generalize ((us.take j).any fun x => decide (x.key = us[i].key)) = b at *
    cases b
    · simp (maxSteps := 4000000) [hd0, hfr, hout, hcl, hcd, delA_none, a0, a0_n, a0_d, a0_m, a1, a1_n, a1_d, a1_m, a2, a2_n, a2_d, a2_m, hti, DTxn.enc, hu, hsub, hju, DUndo.enc, w2]
      refine LK.intro (m2 - 1) [0, 1, 5, 6, 8, 9] [] (by omega) (by decide) (by simp (maxSteps := 4000000) [hd0, hfr, hout, hcl, hcd, delA_none, a0, a0_n, a0_d, a0_m, a1, a1_n, a1_d, a1_m, a2, a2_n, a2_d, a2_m]) ⟨j + 1, by omega, by rw [hts]; simp⟩
    · simp (maxSteps := 4000000) [hd0, hfr, hout, hcl, hcd, delA_none, a0, a0_n, a0_d, a0_m, a1, a1_n, a1_d, a1_m, a2, a2_n, a2_d, a2_m, w2]
      refine LK.intro (m2 - 1) [0, 1, 5, 6, 8, 9] [] (by omega) (by decide) (by simp (maxSteps := 4000000) [hd0, hfr, hout, hcl, hcd, delA_none, a0, a0_n, a0_d, a0_m, a1, a1_n, a1_d, a1_m, a2, a2_n, a2_d, a2_m]) ⟨j + 1, by omega, by rw [hts]; simp⟩
  have hji : j = i := by omega
  subst hji
  rw [show decide (writF x.rows[k].chain = id) = true by simp [e1], Bool.true_and] at hO
  generalize ((us.take j).any fun x => decide (x.key = us[j].key)) = b at *
  have hx : b = us[j].had → ownI x.rows id us j = true := fun h => by rw [hO, h]; simp
  have hy : b ≠ us[j].had → R = false := fun h => hE j hi' (by rw [hO]; simpa using h)
  by_cases hb2 : us[j].had = b
  · simp (maxSteps := 4000000) [hd0, hfr, hout, hcl, hcd, delA_none, a0, a0_n, a0_d, a0_m, a1, a1_n, a1_d, a1_m, a2, a2_n, a2_d, a2_m, eq_false (show ¬ (j : Int) < (j : Int) by omega), DUndo.enc, hb2, w1]
    refine LK.intro (m - 1) [0, 1, 5] [6] (by omega) (by decide) (by simp (maxSteps := 4000000) [hd0, hfr, hout, hcl, hcd, delA_none, a0, a0_n, a0_d, a0_m, a1, a1_n, a1_d, a1_m, a2, a2_n, a2_d, a2_m]) ⟨j + 1, by omega, fun k hk => ?_, by simp⟩
    by_cases hkj : k = j
    · subst hkj; exact hx hb2.symm
    · exact hinv k (by omega)
  · simp (maxSteps := 4000000) [hd0, hfr, hout, hcl, hcd, delA_none, a0, a0_n, a0_d, a0_m, a1, a1_n, a1_d, a1_m, a2, a2_n, a2_d, a2_m, eq_false (show ¬ (j : Int) < (j : Int) by omega), DUndo.enc, eq_false hb2, eq_false (fun h => hb2 h.symm : ¬ b = us[j].had), hy (fun h => hb2 h.symm)]
end Go.Proofs.Ytnlbjfdmjlnlgaa

namespace Go.Proofs.Ytnlbjfdmjlnlgaa
open Go Go.Px Go.RowKit Go.Proofs
set_option linter.unnecessarySimpa false
set_option linter.unusedVariables false
set_option linter.unusedSimpArgs false
set_option maxRecDepth 100000
attribute [-simp] Int.not_le Int.not_lt
theorem chF_get : ∀ {l : List DVersion} {p}, chF p l = 0 → ∀ v ∈ l, vRange v = true
  | [], _, _ => by simp
  | v0 :: l, p, h => by
    simp only [chF] at h
    split at h
    · omega
    · rename_i h1
      split at h
      · omega
      · intro v hv
        rcases List.mem_cons.1 hv with rfl | hv
        · simpa using h1
        · exact chF_get h v hv
theorem chF_fall : ∀ {l : List DVersion} {b : Int}, chF (some b) l = 0 → b ≠ 0 → ∀ v ∈ l, v.at_ < b
  | [], _, _, _ => by simp
  | v0 :: l, b, h, hb => by
    simp only [chF] at h
    split at h
    · omega
    · split at h
      · omega
      · rename_i h2
        simp only [Bool.or_eq_true, Bool.and_eq_true, badP, decide_eq_true_eq, not_or, not_and] at h2
        have h3 : v0.at_ ≠ 0 := h2.2.1
        have h4 : v0.at_ < b := by have := h2.2.2 hb; omega
        intro v hv
        rcases List.mem_cons.1 hv with rfl | hv
        · exact h4
        · have := chF_fall h h3 v hv; omega
theorem chain_any {c : Int} {v0 v1 : DVersion} {l : List DVersion} (hc : 0 ≤ c) (h : chF none (v0 :: v1 :: l) = 0) :
    ((v0 :: v1 :: l).any fun v => decide (c < v.at_)) = (decide (c < v0.at_) || decide (c < v1.at_)) := by
  have hf : ∀ v ∈ l, v.at_ < v1.at_ := by
    simp only [chF] at h
    split at h
    · omega
    · split at h
      · omega
      · split at h
        · omega
        · split at h
          · omega
          · rename_i h2
            simp only [Bool.or_eq_true, Bool.and_eq_true, badP, decide_eq_true_eq, not_or, not_and] at h2
            exact chF_fall h h2.2.1
  rw [Bool.eq_iff_iff, List.any_eq_true]
  simp only [decide_eq_true_eq, Bool.or_eq_true]
  constructor
  · rintro ⟨v, hv, h1⟩
    rcases List.mem_cons.1 hv with rfl | hv
    · exact .inl h1
    · rcases List.mem_cons.1 hv with rfl | hv
      · exact .inr h1
      · have := hf v hv; exact .inr (by omega)
  · rintro (h1 | h1)
    · exact ⟨v0, by simp, h1⟩
    · exact ⟨v1, by simp, h1⟩
theorem chain_txn {l : List DVersion} (h : chainF l = 0) : ∀ v ∈ l, v.txn ≠ 0 := by
  unfold chainF at h
  split at h
  · omega
  · intro v hv
    have := chF_get h v hv
    unfold vRange inR at this
    simp only [Bool.and_eq_true, decide_eq_true_eq] at this
    omega
theorem chainF_chF {l : List DVersion} (h : chainF l = 0) : chF none l = 0 := by
  unfold chainF at h
  split at h
  · omega
  · exact h
set_option maxHeartbeats 8000000 in
theorem spec_l6Rows (H : HH) {r0 q0 r1 q1 r2 q2} {x : DEngine} (hc : 0 ≤ x.clock) (hl : x.le 1048576) (ht : txsF x.next x.clock none x.txns = 0)
    (a0 : arrAt H r0 q0 = some (4, [eRow x r1 q1 r2 q2])) (a1 : arrAt H r1 q1 = some (5, x.txns.map DTxn.enc)) (a2 : arrAt H r2 q2 = some (2, x.rows.map DRow.enc)) :
    PFun Try.prog 49 [.c (.pt r0 q0 4 0 0)] H (I (rowsF x.clock x.txns none x.rows)) := by
  have hl' := hl
  obtain ⟨⟨b1, b1p⟩, b2, b2p⟩ := hl'
  obtain ⟨R, hR⟩ : ∃ R, R = rowsF x.clock x.txns none x.rows := ⟨_, rfl⟩
  rw [← hR]
  refine PFun.of [0, 2, 3, 4, 5, 12, 26, 52, 59, 100] Try.func49 rfl (by simp [Try.f49]) ?_
  intro d hd0 hfr hcl hout
  have hcd : ∀ n q, CleanH (hit [((d, n), q)]) H := fun n q => hcl.at
  have a0_n : ∀ n, ¬ (d, n) = r0 := fun n => nm_ne (ne_of_arr hfr a0)
  have a0_d : ¬ r0.1 = d := ne_of_arr hfr a0
  have a0_m : ∀ n, ¬ r0 = (d, n) := fun n => nm_ne' (ne_of_arr hfr a0)
  have a1_n : ∀ n, ¬ (d, n) = r1 := fun n => nm_ne (ne_of_arr hfr a1)
  have a1_d : ¬ r1.1 = d := ne_of_arr hfr a1
  have a1_m : ∀ n, ¬ r1 = (d, n) := fun n => nm_ne' (ne_of_arr hfr a1)
  have a2_n : ∀ n, ¬ (d, n) = r2 := fun n => nm_ne (ne_of_arr hfr a2)
  have a2_d : ¬ r2.1 = d := ne_of_arr hfr a2
  have a2_m : ∀ n, ¬ r2 = (d, n) := fun n => nm_ne' (ne_of_arr hfr a2)
  simp (maxSteps := 4000000) [hd0, hfr, hout, hcl, hcd, delA_none, a0, a0_n, a0_d, a0_m, a1, a1_n, a1_d, a1_m, a2, a2_n, a2_d, a2_m, Try.f49]
  refine LoopK.intro (fun m s => ∃ i : Nat, i + m = x.rows.length ∧ rowsF x.clock x.txns (prv DRow.key x.rows i) (x.rows.drop i) = R ∧ s = ⟨[(0, .c (.pt r0 q0 4 0 0)), (3, I i)], H, []⟩) (x.rows.length + 1)
    (LK.intro x.rows.length [0, 3] [] (by omega) (by decide) (by simp (maxSteps := 4000000) [hd0, hfr, hout, hcl, hcd, delA_none, a0, a0_n, a0_d, a0_m, a1, a1_n, a1_d, a1_m, a2, a2_n, a2_d, a2_m]) ⟨0, by simp [prv, hR]⟩) ?_
  rintro m s ⟨i, him, hinv, rfl⟩
  by_cases hi' : i < x.rows.length
  case neg =>
    rw [List.drop_eq_nil_of_le (by omega)] at hinv
    simp only [rowsF] at hinv
    simp (maxSteps := 4000000) [hd0, hfr, hout, hcl, hcd, delA_none, a0, a0_n, a0_d, a0_m, a1, a1_n, a1_d, a1_m, a2, a2_n, a2_d, a2_m, eRow, eq_false (show ¬ (i : Int) < x.rows.length by omega), hinv.symm]
  rw [List.drop_eq_getElem_cons hi'] at hinv
  simp only [rowsF] at hinv
  have w1 : IntKind.i64.wrap ((i : Int) + 1) = i + 1 := w64 (by omega) (by omega)
  have w2 : i ≠ 0 → IntKind.i64.wrap ((i : Int) - 1) = (i - 1 : Nat) := fun h => by rw [w64 (by omega) (by omega)]; omega
  have hend := prv_succ (f := DRow.key) hi'
  have hbc := b2p _ (List.getElem_mem hi')
  have hsub := arrAt_sub a2 (i := i) (f := 1) (row := x.rows[i].enc) (by simp [hi']) rfl
  simp (maxSteps := 4000000) [hd0, hfr, hout, hcl, hcd, delA_none, a0, a0_n, a0_d, a0_m, a1, a1_n, a1_d, a1_m, a2, a2_n, a2_d, a2_m, eRow, eq_true (show (i : Int) < x.rows.length by omega), hi', DRow.enc]
  refine (spec_l1Key _ _).useCK ?_
  by_cases d1 : inR x.rows[i].key 0 31 = true
  case neg => simp only [Bool.not_eq_true] at d1; simp [d1] at hinv; simp (maxSteps := 4000000) [hd0, hfr, hout, hcl, hcd, delA_none, a0, a0_n, a0_d, a0_m, a1, a1_n, a1_d, a1_m, a2, a2_n, a2_d, a2_m, d1, hinv.symm]
  rw [d1, if_neg (by simp)] at hinv
  simp (maxSteps := 4000000) [hd0, hfr, hout, hcl, hcd, delA_none, a0, a0_n, a0_d, a0_m, a1, a1_n, a1_d, a1_m, a2, a2_n, a2_d, a2_m, d1]
  refine DrawK.intro 26 [0, 3, 4, 52] rfl (by kernel_rfl) (by decide) ?_
  have hone : (nab (prv DRow.key x.rows i) x.rows[i].key || decide (x.rows[i].chain.length = 0)) = true → R = 1 := fun h => by rw [if_pos h] at hinv; exact hinv.symm
  by_cases e0 : x.rows[i].chain.length = 0
  case pos =>
    have h1 := hone (by simp [e0])
    have e0' : x.rows[i].chain = [] := List.eq_nil_of_length_eq_zero e0
    by_cases hi0 : i = 0
    · simp (maxSteps := 4000000) [hd0, hfr, hout, hcl, hcd, delA_none, a0, a0_n, a0_d, a0_m, a1, a1_n, a1_d, a1_m, a2, a2_n, a2_d, a2_m, eq_false (show ¬ (0 : Int) < (i : Int) by omega), eq_false (show ¬ 0 < i by omega), eq_true hi0, hi', DRow.enc, e0', h1]
    · have h3 : i - 1 < x.rows.length := by omega
      by_cases h4 : x.rows[i].key ≤ x.rows[i-1].key
      · simp (maxSteps := 4000000) [hd0, hfr, hout, hcl, hcd, delA_none, a0, a0_n, a0_d, a0_m, a1, a1_n, a1_d, a1_m, a2, a2_n, a2_d, a2_m, eRow, eq_true (show (0 : Int) < (i : Int) by omega), eq_true (show 0 < i by omega), hi0, w2 hi0, h3, hi', DRow.enc, eq_true h4, e0', h1]
      · simp (maxSteps := 4000000) [hd0, hfr, hout, hcl, hcd, delA_none, a0, a0_n, a0_d, a0_m, a1, a1_n, a1_d, a1_m, a2, a2_n, a2_d, a2_m, eRow, eq_true (show (0 : Int) < (i : Int) by omega), eq_true (show 0 < i by omega), hi0, w2 hi0, h3, hi', DRow.enc, eq_false h4, e0', h1]
  have e0' : ¬ x.rows[i].chain = [] := fun h => e0 (by rw [h]; rfl)
  by_cases hi0 : i = 0
  case' pos =>
    have hnab : nab (prv DRow.key x.rows i) x.rows[i].key = false := by simp [hi0, prv, nab]
    simp (maxSteps := 4000000) [hd0, hfr, hout, hcl, hcd, delA_none, a0, a0_n, a0_d, a0_m, a1, a1_n, a1_d, a1_m, a2, a2_n, a2_d, a2_m, eq_false (show ¬ (0 : Int) < (i : Int) by omega), eq_false (show ¬ 0 < i by omega), eq_true hi0, hi', DRow.enc, eq_false e0']
  case' neg =>
    have h3 : i - 1 < x.rows.length := by omega
    have hp := prv_pos (f := DRow.key) hi0 h3
    by_cases h4 : x.rows[i].key ≤ x.rows[i-1].key
    case pos =>
      have h1 := hone (by simp [hp, nab, h4])
      simp (maxSteps := 4000000) [hd0, hfr, hout, hcl, hcd, delA_none, a0, a0_n, a0_d, a0_m, a1, a1_n, a1_d, a1_m, a2, a2_n, a2_d, a2_m, eRow, eq_true (show (0 : Int) < (i : Int) by omega), eq_true (show 0 < i by omega), hi0, w2 hi0, h3, hi', DRow.enc, eq_true h4, h1]
    have hnab : nab (prv DRow.key x.rows i) x.rows[i].key = false := by rw [hp]; simp [nab]; omega
    simp (maxSteps := 4000000) [hd0, hfr, hout, hcl, hcd, delA_none, a0, a0_n, a0_d, a0_m, a1, a1_n, a1_d, a1_m, a2, a2_n, a2_d, a2_m, eRow, eq_true (show (0 : Int) < (i : Int) by omega), eq_true (show 0 < i by omega), hi0, w2 hi0, h3, hi', DRow.enc, eq_false h4, eq_false e0']
  all_goals
    rw [if_neg (by simp [hnab, e0])] at hinv
    refine (spec_ChainFault _ hbc (by simp (maxSteps := 4000000) [hd0, hfr, hout, hcl, hcd, delA_none, a0, a0_n, a0_d, a0_m, a1, a1_n, a1_d, a1_m, a2, a2_n, a2_d, a2_m, hsub])).useCK ?_
    by_cases e1 : chainF x.rows[i].chain = 0
    case neg =>
      rw [if_pos e1] at hinv
      have hRne : ¬ R = 0 := by rw [← hinv]; exact e1
      simp (maxSteps := 4000000) [hd0, hfr, hout, hcl, hcd, delA_none, a0, a0_n, a0_d, a0_m, a1, a1_n, a1_d, a1_m, a2, a2_n, a2_d, a2_m, hinv, eq_false hRne]
    rw [if_neg (by simp [e1])] at hinv
    rw [e1]
    simp (maxSteps := 4000000) [hd0, hfr, hout, hcl, hcd, delA_none, a0, a0_n, a0_d, a0_m, a1, a1_n, a1_d, a1_m, a2, a2_n, a2_d, a2_m]
    refine DrawK.intro 40 [0, 3, 100] rfl (by kernel_rfl) (by decide) ?_
    have hone2 : ((x.rows[i].chain.any fun v => decide (x.clock < v.at_)) || !rowOpenF x.txns x.rows[i]) = true → R = 1 := fun h => by rw [if_pos h] at hinv; exact hinv.symm
    have hfin2 : (x.rows[i].chain.any fun v => decide (x.clock < v.at_)) = false → rowOpenF x.txns x.rows[i] = true → rowsF x.clock x.txns (some x.rows[i].key) (x.rows.drop (i + 1)) = R := fun h1 h2 => by rw [if_neg (by simp [h1, h2])] at hinv; exact hinv
    clear hinv
    have hO := fun H' h1 h2 h3 => spec_l6Open H' (x := x) (r0 := r0) (q0 := q0) (r1 := r1) (q1 := q1) (r2 := r2) (q2 := q2) hi' hl ht (chain_txn e1) h1 h2 h3
    generalize rowOpenF x.txns x.rows[i] = op at *
    have e2 := chainF_chF e1
    have h0l : 0 < x.rows[i].chain.length := by omega
    by_cases h1l : 1 < x.rows[i].chain.length
    case' pos =>
      obtain ⟨v0, v1, rest, hcf⟩ : ∃ v0 v1 rest, x.rows[i].chain = v0 :: v1 :: rest := by
        cases hcc : x.rows[i].chain with
        | nil => exact absurd hcc e0'
        | cons a l => cases l with
          | nil => rw [hcc] at h1l; simp at h1l
          | cons b l => exact ⟨a, b, l, rfl⟩
      have hg0 : x.rows[i].chain[0] = v0 := by simp [hcf]
      have hg1 : x.rows[i].chain[1] = v1 := by simp [hcf]
      have hany : (x.rows[i].chain.any fun v => decide (x.clock < v.at_)) = (decide (x.clock < v0.at_) || decide (x.clock < v1.at_)) := by rw [hcf] at e2 ⊢; exact chain_any hc e2
      rw [hany] at hone2 hfin2
      by_cases k0 : x.clock < v0.at_
      case pos =>
        have hR := hone2 (by simp [k0])
        simp (maxSteps := 4000000) [hd0, hfr, hout, hcl, hcd, delA_none, a0, a0_n, a0_d, a0_m, a1, a1_n, a1_d, a1_m, a2, a2_n, a2_d, a2_m, eRow, hi', DRow.enc, hsub, h0l, hg0, DVersion.enc, eq_true k0, hR]
      by_cases k1 : x.clock < v1.at_
      case pos =>
        have hR := hone2 (by simp [k1])
        simp (maxSteps := 4000000) [hd0, hfr, hout, hcl, hcd, delA_none, a0, a0_n, a0_d, a0_m, a1, a1_n, a1_d, a1_m, a2, a2_n, a2_d, a2_m, eRow, hi', DRow.enc, hsub, h0l, h1l, hg0, hg1, DVersion.enc, eq_false k0, eq_true (show (1 : Int) < (x.rows[i].chain.length : Int) by omega), eq_true k1, hR]
      simp (maxSteps := 4000000) [hd0, hfr, hout, hcl, hcd, delA_none, a0, a0_n, a0_d, a0_m, a1, a1_n, a1_d, a1_m, a2, a2_n, a2_d, a2_m, eRow, hi', DRow.enc, hsub, h0l, h1l, hg0, hg1, DVersion.enc, eq_false k0, eq_true (show (1 : Int) < (x.rows[i].chain.length : Int) by omega), eq_false k1]
    case' neg =>
      obtain ⟨v0, hcf⟩ : ∃ v0, x.rows[i].chain = [v0] := by
        cases hcc : x.rows[i].chain with
        | nil => exact absurd hcc e0'
        | cons a l => cases l with
          | nil => exact ⟨a, rfl⟩
          | cons b l => rw [hcc] at h1l; simp at h1l
      have hg0 : x.rows[i].chain[0] = v0 := by simp [hcf]
      have hany : (x.rows[i].chain.any fun v => decide (x.clock < v.at_)) = decide (x.clock < v0.at_) := by rw [hcf]; simp
      rw [hany] at hone2 hfin2
      by_cases k0 : x.clock < v0.at_
      case pos =>
        have hR := hone2 (by simp [k0])
        simp (maxSteps := 4000000) [hd0, hfr, hout, hcl, hcd, delA_none, a0, a0_n, a0_d, a0_m, a1, a1_n, a1_d, a1_m, a2, a2_n, a2_d, a2_m, eRow, hi', DRow.enc, hsub, h0l, hg0, DVersion.enc, eq_true k0, hR]
      have k1 := k0
      simp (maxSteps := 4000000) [hd0, hfr, hout, hcl, hcd, delA_none, a0, a0_n, a0_d, a0_m, a1, a1_n, a1_d, a1_m, a2, a2_n, a2_d, a2_m, eRow, hi', DRow.enc, hsub, h0l, hg0, DVersion.enc, eq_false k0, eq_false (show ¬ (1 : Int) < (x.rows[i].chain.length : Int) by omega)]
    all_goals
      refine ⟨_, hO _ (by simp (maxSteps := 4000000) [hd0, hfr, hout, hcl, hcd, delA_none, a0, a0_n, a0_d, a0_m, a1, a1_n, a1_d, a1_m, a2, a2_n, a2_d, a2_m]) (by simp (maxSteps := 4000000) [hd0, hfr, hout, hcl, hcd, delA_none, a0, a0_n, a0_d, a0_m, a1, a1_n, a1_d, a1_m, a2, a2_n, a2_d, a2_m]) (by simp (maxSteps := 4000000) [hd0, hfr, hout, hcl, hcd, delA_none, a0, a0_n, a0_d, a0_m, a1, a1_n, a1_d, a1_m, a2, a2_n, a2_d, a2_m]), ?_⟩
      cases op
      · have hR := hone2 (by simp)
        simp (maxSteps := 4000000) [hd0, hfr, hout, hcl, hcd, delA_none, a0, a0_n, a0_d, a0_m, a1, a1_n, a1_d, a1_m, a2, a2_n, a2_d, a2_m, hR]
      · have hf := hfin2 (by simp [k0, k1]) rfl
        simp (maxSteps := 4000000) [hd0, hfr, hout, hcl, hcd, delA_none, a0, a0_n, a0_d, a0_m, a1, a1_n, a1_d, a1_m, a2, a2_n, a2_d, a2_m, w1]
        refine LK.intro (m - 1) [0, 3] [] (by omega) (by decide) (by simp (maxSteps := 4000000) [hd0, hfr, hout, hcl, hcd, delA_none, a0, a0_n, a0_d, a0_m, a1, a1_n, a1_d, a1_m, a2, a2_n, a2_d, a2_m]) ⟨i + 1, by omega, by rw [hend]; exact hf, by simp⟩
end Go.Proofs.Ytnlbjfdmjlnlgaa

namespace Go.Proofs.Ytnlbjfdmjlnlgaa
open Go Go.Px Go.RowKit Go.Proofs
set_option linter.unnecessarySimpa false
set_option linter.unusedVariables false
set_option linter.unusedSimpArgs false
set_option maxRecDepth 100000
attribute [-simp] Int.not_le Int.not_lt
set_option maxHeartbeats 8000000 in
theorem spec_l6Fault (H : HH) {r0 q0 r1 q1 r2 q2} {x : DEngine} (hl : x.le 1048576)
    (a0 : arrAt H r0 q0 = some (4, [eRow x r1 q1 r2 q2])) (a1 : arrAt H r1 q1 = some (5, x.txns.map DTxn.enc)) (a2 : arrAt H r2 q2 = some (2, x.rows.map DRow.enc)) :
    PFun Try.prog 22 [.c (.pt r0 q0 4 0 0)] H (I (engF x)) := by
  obtain ⟨⟨b1, b1p⟩, b2, b2p⟩ := id hl
  refine PFun.of [0, 2, 3, 4, 5, 19, 33, 37, 42, 50, 61] Try.func22 rfl (by simp [Try.f22]) ?_
  intro d hd0 hfr hcl hout
  have hcd : ∀ n q, CleanH (hit [((d, n), q)]) H := fun n q => hcl.at
  have a0_n : ∀ n, ¬ (d, n) = r0 := fun n => nm_ne (ne_of_arr hfr a0)
  have a0_d : ¬ r0.1 = d := ne_of_arr hfr a0
  have a0_m : ∀ n, ¬ r0 = (d, n) := fun n => nm_ne' (ne_of_arr hfr a0)
  have a1_n : ∀ n, ¬ (d, n) = r1 := fun n => nm_ne (ne_of_arr hfr a1)
  have a1_d : ¬ r1.1 = d := ne_of_arr hfr a1
  have a1_m : ∀ n, ¬ r1 = (d, n) := fun n => nm_ne' (ne_of_arr hfr a1)
  have a2_n : ∀ n, ¬ (d, n) = r2 := fun n => nm_ne (ne_of_arr hfr a2)
  have a2_d : ¬ r2.1 = d := ne_of_arr hfr a2
  have a2_m : ∀ n, ¬ r2 = (d, n) := fun n => nm_ne' (ne_of_arr hfr a2)
  simp (maxSteps := 4000000) [hd0, hfr, hout, hcl, hcd, delA_none, a0, a0_n, a0_d, a0_m, a1, a1_n, a1_d, a1_m, a2, a2_n, a2_d, a2_m, Try.f22]
  simp (maxSteps := 4000000) [hd0, hfr, hout, hcl, hcd, delA_none, a0, a0_n, a0_d, a0_m, a1, a1_n, a1_d, a1_m, a2, a2_n, a2_d, a2_m, eRow]
  refine (spec_l5Txn _ _).useCK ?_
  by_cases c1 : inR x.next 1 999 = true
  case neg => simp only [Bool.not_eq_true] at c1; simp (maxSteps := 4000000) [hd0, hfr, hout, hcl, hcd, delA_none, a0, a0_n, a0_d, a0_m, a1, a1_n, a1_d, a1_m, a2, a2_n, a2_d, a2_m, c1, engF]
  simp (maxSteps := 4000000) [hd0, hfr, hout, hcl, hcd, delA_none, a0, a0_n, a0_d, a0_m, a1, a1_n, a1_d, a1_m, a2, a2_n, a2_d, a2_m, c1, eRow]
  refine (spec_l1In _ _ _ _).useCK ?_
  by_cases c2 : inR x.clock 0 1000000 = true
  case neg => simp only [Bool.not_eq_true] at c2; simp (maxSteps := 4000000) [hd0, hfr, hout, hcl, hcd, delA_none, a0, a0_n, a0_d, a0_m, a1, a1_n, a1_d, a1_m, a2, a2_n, a2_d, a2_m, c1, c2, engF]
  by_cases g1 : 20 < x.txns.length
  case pos => simp (maxSteps := 4000000) [hd0, hfr, hout, hcl, hcd, delA_none, a0, a0_n, a0_d, a0_m, a1, a1_n, a1_d, a1_m, a2, a2_n, a2_d, a2_m, eRow, eq_true (show 20 < (x.txns.length : Int) by omega), c1, c2, eq_true g1, engF]
  by_cases g2 : 32 < x.rows.length
  case pos => simp (maxSteps := 4000000) [hd0, hfr, hout, hcl, hcd, delA_none, a0, a0_n, a0_d, a0_m, a1, a1_n, a1_d, a1_m, a2, a2_n, a2_d, a2_m, eRow, eq_false (show ¬ 20 < (x.txns.length : Int) by omega), eq_true (show 32 < (x.rows.length : Int) by omega), c1, c2, eq_true g2, engF]
  have hF : engF x = if txsF x.next x.clock none x.txns ≠ 0 then txsF x.next x.clock none x.txns
      else if rowsF x.clock x.txns none x.rows ≠ 0 then rowsF x.clock x.txns none x.rows
      else if (x.txns.all fun t => ownsF x.rows t) = false then 1 else 0 := by
    conv => lhs; unfold engF
    rw [if_neg (by simp [c1, c2]), if_neg (by omega)]
  generalize engF x = R at *
  have hnx : 1 ≤ x.next ∧ x.next ≤ 999 := by simpa [inR] using c1
  have hck : 0 ≤ x.clock ∧ x.clock ≤ 1000000 := by simpa [inR] using c2
  have hT1 := fun H' h1 h2 => spec_l6Txns H' (r0 := r0) (q0 := q0) (r1 := r1) (q1 := q1) (r2 := r2) (q2 := q2) hnx hl h1 h2
  have hR1 := fun ht H' h1 h2 h3 => spec_l6Rows H' (r0 := r0) (q0 := q0) (r1 := r1) (q1 := q1) (r2 := r2) (q2 := q2) hck.1 hl ht h1 h2 h3
  simp (maxSteps := 4000000) [hd0, hfr, hout, hcl, hcd, delA_none, a0, a0_n, a0_d, a0_m, a1, a1_n, a1_d, a1_m, a2, a2_n, a2_d, a2_m, eRow, c2, eq_false (show ¬ 20 < (x.txns.length : Int) by omega), eq_false (show ¬ 32 < (x.rows.length : Int) by omega)]
  refine (hT1 _ (by simp (maxSteps := 4000000) [hd0, hfr, hout, hcl, hcd, delA_none, a0, a0_n, a0_d, a0_m, a1, a1_n, a1_d, a1_m, a2, a2_n, a2_d, a2_m]) (by simp (maxSteps := 4000000) [hd0, hfr, hout, hcl, hcd, delA_none, a0, a0_n, a0_d, a0_m, a1, a1_n, a1_d, a1_m, a2, a2_n, a2_d, a2_m])).useCK ?_
  by_cases c3 : txsF x.next x.clock none x.txns = 0
  case neg =>
    rw [if_pos c3] at hF
    have hRne : ¬ R = 0 := by rw [hF]; exact c3
    simp (maxSteps := 4000000) [hd0, hfr, hout, hcl, hcd, delA_none, a0, a0_n, a0_d, a0_m, a1, a1_n, a1_d, a1_m, a2, a2_n, a2_d, a2_m, ← hF, eq_false hRne]
  rw [if_neg (by simp [c3])] at hF
  rw [c3]
  simp (maxSteps := 4000000) [hd0, hfr, hout, hcl, hcd, delA_none, a0, a0_n, a0_d, a0_m, a1, a1_n, a1_d, a1_m, a2, a2_n, a2_d, a2_m]
  refine (hR1 c3 _ (by simp (maxSteps := 4000000) [hd0, hfr, hout, hcl, hcd, delA_none, a0, a0_n, a0_d, a0_m, a1, a1_n, a1_d, a1_m, a2, a2_n, a2_d, a2_m]) (by simp (maxSteps := 4000000) [hd0, hfr, hout, hcl, hcd, delA_none, a0, a0_n, a0_d, a0_m, a1, a1_n, a1_d, a1_m, a2, a2_n, a2_d, a2_m]) (by simp (maxSteps := 4000000) [hd0, hfr, hout, hcl, hcd, delA_none, a0, a0_n, a0_d, a0_m, a1, a1_n, a1_d, a1_m, a2, a2_n, a2_d, a2_m])).useCK ?_
  by_cases c4 : rowsF x.clock x.txns none x.rows = 0
  case neg =>
    rw [if_pos c4] at hF
    have hRne : ¬ R = 0 := by rw [hF]; exact c4
    simp (maxSteps := 4000000) [hd0, hfr, hout, hcl, hcd, delA_none, a0, a0_n, a0_d, a0_m, a1, a1_n, a1_d, a1_m, a2, a2_n, a2_d, a2_m, ← hF, eq_false hRne]
  rw [if_neg (by simp [c4])] at hF
  rw [c4]
  have hO1 := fun H' ti hti h1 h2 h3 => spec_l6Owns H' (ti := ti) (r0 := r0) (q0 := q0) (r1 := r1) (q1 := q1) (r2 := r2) (q2 := q2) hti hl (by have := (txsF_rise c3).2.1 _ (List.getElem_mem hti); omega) (rowsF_sorted c4).2.1 h1 h2 h3
  clear hT1 hR1
  simp (maxSteps := 4000000) [hd0, hfr, hout, hcl, hcd, delA_none, a0, a0_n, a0_d, a0_m, a1, a1_n, a1_d, a1_m, a2, a2_n, a2_d, a2_m]
  refine LoopK.intro (fun m s => ∃ i : Nat, i + m = x.txns.length ∧ (∀ j (hj : j < x.txns.length), j < i → ownsF x.rows x.txns[j] = true) ∧ s = ⟨[(0, .c (.pt r0 q0 4 0 0)), (5, I i)], H, []⟩) (x.txns.length + 1)
    (LK.intro x.txns.length [0, 5] [] (by omega) (by decide) (by simp (maxSteps := 4000000) [hd0, hfr, hout, hcl, hcd, delA_none, a0, a0_n, a0_d, a0_m, a1, a1_n, a1_d, a1_m, a2, a2_n, a2_d, a2_m]) ⟨0, by simp⟩) ?_
  rintro m s ⟨i, him, hinv, rfl⟩
  by_cases hi' : i < x.txns.length
  case neg =>
    have hR0 : R = 0 := by
      rw [hF, if_neg]
      simp only [Bool.not_eq_false, List.all_eq_true]
      intro t ht
      obtain ⟨j, hj, rfl⟩ := List.getElem_of_mem ht
      exact hinv j hj (by omega)
    simp (maxSteps := 4000000) [hd0, hfr, hout, hcl, hcd, delA_none, a0, a0_n, a0_d, a0_m, a1, a1_n, a1_d, a1_m, a2, a2_n, a2_d, a2_m, eRow, eq_false (show ¬ (i : Int) < x.txns.length by omega), hR0]
  have w1 : IntKind.i64.wrap ((i : Int) + 1) = i + 1 := w64 (by omega) (by omega)
  simp (maxSteps := 4000000) [hd0, hfr, hout, hcl, hcd, delA_none, a0, a0_n, a0_d, a0_m, a1, a1_n, a1_d, a1_m, a2, a2_n, a2_d, a2_m, eRow, eq_true (show (i : Int) < x.txns.length by omega), hi']
  refine (hO1 _ i hi' (by simp (maxSteps := 4000000) [hd0, hfr, hout, hcl, hcd, delA_none, a0, a0_n, a0_d, a0_m, a1, a1_n, a1_d, a1_m, a2, a2_n, a2_d, a2_m]) (by simp (maxSteps := 4000000) [hd0, hfr, hout, hcl, hcd, delA_none, a0, a0_n, a0_d, a0_m, a1, a1_n, a1_d, a1_m, a2, a2_n, a2_d, a2_m]) (by simp (maxSteps := 4000000) [hd0, hfr, hout, hcl, hcd, delA_none, a0, a0_n, a0_d, a0_m, a1, a1_n, a1_d, a1_m, a2, a2_n, a2_d, a2_m])).useCK ?_
  cases ho : ownsF x.rows x.txns[i]
  · have hR0 : R = 1 := by
      rw [hF, if_pos]
      rw [List.all_eq_false]
      exact ⟨x.txns[i], List.getElem_mem hi', by simp [ho]⟩
    simp (maxSteps := 4000000) [hd0, hfr, hout, hcl, hcd, delA_none, a0, a0_n, a0_d, a0_m, a1, a1_n, a1_d, a1_m, a2, a2_n, a2_d, a2_m, hR0]
  · simp (maxSteps := 4000000) [hd0, hfr, hout, hcl, hcd, delA_none, a0, a0_n, a0_d, a0_m, a1, a1_n, a1_d, a1_m, a2, a2_n, a2_d, a2_m, w1]
    refine LK.intro (m - 1) [0, 5] [] (by omega) (by decide) (by simp (maxSteps := 4000000) [hd0, hfr, hout, hcl, hcd, delA_none, a0, a0_n, a0_d, a0_m, a1, a1_n, a1_d, a1_m, a2, a2_n, a2_d, a2_m]) ⟨i + 1, by omega, fun j hj h => ?_, by simp⟩
    by_cases hji : j = i
    · subst hji; exact ho
    · exact hinv j hj (by omega)
end Go.Proofs.Ytnlbjfdmjlnlgaa

namespace Go.Proofs.Ytnlbjfdmjlnlgaa
open Go Go.Px Go.RowKit Go.Proofs
set_option linter.unnecessarySimpa false
set_option linter.unusedVariables false
set_option linter.unusedSimpArgs false
set_option maxRecDepth 100000
attribute [-simp] Int.not_le Int.not_lt
theorem Undo_clean {l : List DUndo} : ∀ K, CleanRows K (l.map DUndo.enc) := by intro K; simp [DUndo.enc, Clean.v]
theorem Version_clean {l : List DVersion} : ∀ K, CleanRows K (l.map DVersion.enc) := by intro K; simp [DVersion.enc, Clean.v]
theorem slices_Clone_Undo (H : HH) {r q n} {l : List DUndo} (hb : l.length ≤ 1048576) (hn : n = l.length) (ha : arrAt H r q = some (4, l.map DUndo.enc)) : PFun Try.prog 94 [.c (.sl r q 4 0 n)] H (.c (.own 4 (l.map DUndo.enc))) := by
  subst hn
  refine PFun.of [0, 2, 4] Try.func94 rfl (by simp [Try.f94]) ?_
  intro d hd0 hfr hcl hout
  have hcd : ∀ n q, CleanH (hit [((d, n), q)]) H := fun n q => hcl.at
  have ha_n : ∀ n, ¬ (d, n) = r := fun n => nm_ne (ne_of_arr hfr ha)
  have ha_d : ¬ r.1 = d := ne_of_arr hfr ha
  have ha_m : ∀ n, ¬ r = (d, n) := fun n => nm_ne' (ne_of_arr hfr ha)
  simp (maxSteps := 4000000) [hd0, hfr, hout, hcl, hcd, delA_none, ha, ha_n, ha_d, ha_m, Try.f94]
  simp (maxSteps := 4000000) [hd0, hfr, hout, hcl, hcd, delA_none, ha, ha_n, ha_d, ha_m, DUndo.enc]
  omega
theorem slices_Clone_Version (H : HH) {r q n} {l : List DVersion} (hb : l.length ≤ 1048576) (hn : n = l.length) (ha : arrAt H r q = some (4, l.map DVersion.enc)) : PFun Try.prog 95 [.c (.sl r q 4 0 n)] H (.c (.own 4 (l.map DVersion.enc))) := by
  subst hn
  refine PFun.of [0, 2, 4] Try.func95 rfl (by simp [Try.f95]) ?_
  intro d hd0 hfr hcl hout
  have hcd : ∀ n q, CleanH (hit [((d, n), q)]) H := fun n q => hcl.at
  have ha_n : ∀ n, ¬ (d, n) = r := fun n => nm_ne (ne_of_arr hfr ha)
  have ha_d : ¬ r.1 = d := ne_of_arr hfr ha
  have ha_m : ∀ n, ¬ r = (d, n) := fun n => nm_ne' (ne_of_arr hfr ha)
  simp (maxSteps := 4000000) [hd0, hfr, hout, hcl, hcd, delA_none, ha, ha_n, ha_d, ha_m, Try.f95]
  simp (maxSteps := 4000000) [hd0, hfr, hout, hcl, hcd, delA_none, ha, ha_n, ha_d, ha_m, DVersion.enc]
  omega
theorem spec_l5Copy (H : HH) {r q n} {l : List DVersion} (hb : l.length ≤ 1048576) (hn : n = l.length) (ha : arrAt H r q = some (4, l.map DVersion.enc)) : PFun Try.prog 51 [.c (.sl r q 4 0 n)] H (.c (.own 4 (l.map DVersion.enc))) := by
  subst hn
  refine PFun.of [0, 2] Try.func51 rfl (by simp [Try.f51]) ?_
  intro d hd0 hfr hcl hout
  have hcd : ∀ n q, CleanH (hit [((d, n), q)]) H := fun n q => hcl.at
  have ha_n : ∀ n, ¬ (d, n) = r := fun n => nm_ne (ne_of_arr hfr ha)
  have ha_d : ¬ r.1 = d := ne_of_arr hfr ha
  have ha_m : ∀ n, ¬ r = (d, n) := fun n => nm_ne' (ne_of_arr hfr ha)
  simp (maxSteps := 4000000) [hd0, hfr, hout, hcl, hcd, delA_none, ha, ha_n, ha_d, ha_m, Try.f51]
  simp (maxSteps := 4000000) [hd0, hfr, hout, hcl, hcd, delA_none, ha, ha_n, ha_d, ha_m, DVersion.enc]
  omega
set_option maxHeartbeats 4000000 in
theorem impl_Engine_copied (H : HH) {r1 q1 r2 q2} {x : DEngine} (hl : x.le 1048576) (a1 : arrAt H r1 q1 = some (5, x.txns.map DTxn.enc)) (a2 : arrAt H r2 q2 = some (2, x.rows.map DRow.enc)) :
    PFun Try.prog 54 [.a (eRow x r1 q1 r2 q2)] H (.a x.enc) := by
  obtain ⟨⟨b1, b1p⟩, b2, b2p⟩ := hl
  refine PFun.of [1, 2, 3, 5, 7, 14, 15, 16, 17, 32, 33, 34, 35] Try.func54 rfl (by simp [Try.f54]) ?_
  intro d hd0 hfr hcl hout
  have hcd : ∀ n q, CleanH (hit [((d, n), q)]) H := fun n q => hcl.at
  have a1_n : ∀ n, ¬ (d, n) = r1 := fun n => nm_ne (ne_of_arr hfr a1)
  have a1_d : ¬ r1.1 = d := ne_of_arr hfr a1
  have a1_m : ∀ n, ¬ r1 = (d, n) := fun n => nm_ne' (ne_of_arr hfr a1)
  have a2_n : ∀ n, ¬ (d, n) = r2 := fun n => nm_ne (ne_of_arr hfr a2)
  have a2_d : ¬ r2.1 = d := ne_of_arr hfr a2
  have a2_m : ∀ n, ¬ r2 = (d, n) := fun n => nm_ne' (ne_of_arr hfr a2)
  simp (maxSteps := 4000000) [hd0, hfr, hout, hcl, hcd, delA_none, a1, a1_n, a1_d, a1_m, a2, a2_n, a2_d, a2_m, Try.f54, eRow]
  refine LoopK.intro (fun m s => ∃ i : Nat, i + m = x.txns.length ∧ s = ⟨[(1, .c (.pt (d, 1) [] 4 0 0)), (2, .c (.pt (d, 2) [] 4 0 0)), (3, .c (.pt (d, 3) [] 4 0 0)), (14, .c (.sl r1 q1 5 0 x.txns.length)), (15, I x.txns.length), (16, I i)],
      ((d, 3), .own 4 [[.v (.int .i64 x.next), .v (.int .i64 x.clock), .own 5 ((x.txns.take i).map DTxn.enc), .own 2 []]]) :: ((d, 2), .own 4 [[.v (.int .i64 0), .v (.int .i64 0), .own 5 [], .own 2 []]]) :: ((d, 1), .own 4 [[.v (.int .i64 x.next), .v (.int .i64 x.clock), .sl r1 q1 5 0 x.txns.length, .sl r2 q2 2 0 x.rows.length]]) :: H, []⟩) (x.txns.length + 1)
    (LK.intro x.txns.length [1, 2, 3, 14, 15, 16] [] (by omega) (by decide) (by simp (maxSteps := 4000000) [hd0, hfr, hout, hcl, hcd, delA_none, a1, a1_n, a1_d, a1_m, a2, a2_n, a2_d, a2_m]) ⟨0, by simp⟩) ?_
  rintro m s ⟨i, him, rfl⟩
  by_cases hi' : i < x.txns.length
  · have w1 : IntKind.i64.wrap ((i : Int) + 1) = i + 1 := w64 (by omega) (by omega)
    have hpl : x.txns[i].undos.length ≤ 1048576 := b1p _ (List.getElem_mem hi')
    have hsub := arrAt_sub a1 (i := i) (f := 4) (row := x.txns[i].enc) (by simp [hi']) rfl
    have hn := take_next (f := DTxn.enc) hi'
    simp only [DTxn.enc] at hn
    simp (maxSteps := 4000000) [hd0, hfr, hout, hcl, hcd, delA_none, a1, a1_n, a1_d, a1_m, a2, a2_n, a2_d, a2_m, eq_true (show (i : Int) < x.txns.length by omega), hi', DTxn.enc]
    refine (slices_Clone_Undo _ hpl rfl (by simp (maxSteps := 4000000) [hd0, hfr, hout, hcl, hcd, delA_none, a1, a1_n, a1_d, a1_m, a2, a2_n, a2_d, a2_m, hsub])).useCK ?_
    simp (maxSteps := 4000000) [hd0, hfr, hout, hcl, hcd, delA_none, a1, a1_n, a1_d, a1_m, a2, a2_n, a2_d, a2_m, DTxn.enc, Undo_clean, w1]
    refine ⟨by omega, ?_⟩
    refine LK.intro (m - 1) [1, 2, 3, 14, 15, 16] [5] (by omega) (by decide) (by simp (maxSteps := 4000000) [hd0, hfr, hout, hcl, hcd, delA_none, a1, a1_n, a1_d, a1_m, a2, a2_n, a2_d, a2_m, DTxn.enc]) ⟨i + 1, by omega, by simp [DTxn.enc, hn]⟩
  simp (maxSteps := 4000000) [hd0, hfr, hout, hcl, hcd, delA_none, a1, a1_n, a1_d, a1_m, a2, a2_n, a2_d, a2_m, eq_false (show ¬ (i : Int) < x.txns.length by omega)]
  refine LoopK.intro (fun m s => ∃ i : Nat, i + m = x.rows.length ∧ s = ⟨[(2, .c (.pt (d, 2) [] 4 0 0)), (3, .c (.pt (d, 3) [] 4 0 0)), (32, .c (.sl r2 q2 2 0 x.rows.length)), (33, I x.rows.length), (34, I i)],
      ((d, 3), .own 4 [[.v (.int .i64 x.next), .v (.int .i64 x.clock), .own 5 (x.txns.map DTxn.enc), .own 2 ((x.rows.take i).map DRow.enc)]]) :: ((d, 2), .own 4 [[.v (.int .i64 0), .v (.int .i64 0), .own 5 [], .own 2 []]]) :: H, []⟩) (x.rows.length + 1)
    (LK.intro x.rows.length [2, 3, 32, 33, 34] [1] (by omega) (by decide) (by simp (maxSteps := 4000000) [hd0, hfr, hout, hcl, hcd, delA_none, a1, a1_n, a1_d, a1_m, a2, a2_n, a2_d, a2_m]) ⟨0, by simp [List.take_of_length_le (show (x.txns.map DTxn.enc).length ≤ i by simp; omega)]⟩) ?_
  clear him hi' m i
  rintro m s ⟨i, him, rfl⟩
  by_cases hi' : i < x.rows.length
  · have w1 : IntKind.i64.wrap ((i : Int) + 1) = i + 1 := w64 (by omega) (by omega)
    have hpl : x.rows[i].chain.length ≤ 1048576 := b2p _ (List.getElem_mem hi')
    have hsub := arrAt_sub a2 (i := i) (f := 1) (row := x.rows[i].enc) (by simp [hi']) rfl
    have hn := take_next (f := DRow.enc) hi'
    simp only [DRow.enc] at hn
    simp (maxSteps := 4000000) [hd0, hfr, hout, hcl, hcd, delA_none, a1, a1_n, a1_d, a1_m, a2, a2_n, a2_d, a2_m, eq_true (show (i : Int) < x.rows.length by omega), hi', DRow.enc]
    refine DrawK.intro 9 [2, 3, 32, 33, 34, 39, 46] rfl (by kernel_rfl) (by decide) ?_
    simp (maxSteps := 4000000) [hd0, hfr, hout, hcl, hcd, delA_none, a1, a1_n, a1_d, a1_m, a2, a2_n, a2_d, a2_m]
    refine ⟨_, slices_Clone_Version _ hpl rfl (by simp (maxSteps := 4000000) [hd0, hfr, hout, hcl, hcd, delA_none, a1, a1_n, a1_d, a1_m, a2, a2_n, a2_d, a2_m, hsub]), ?_⟩
    simp (maxSteps := 4000000) [hd0, hfr, hout, hcl, hcd, delA_none, a1, a1_n, a1_d, a1_m, a2, a2_n, a2_d, a2_m, DRow.enc, Version_clean, w1]
    refine ⟨by kernel_rfl, by kernel_rfl, by omega, ?_⟩
    refine LK.intro (m - 1) [2, 3, 32, 33, 34] [7] (by omega) (by decide) (by simp (maxSteps := 4000000) [hd0, hfr, hout, hcl, hcd, delA_none, a1, a1_n, a1_d, a1_m, a2, a2_n, a2_d, a2_m, DRow.enc]) ⟨i + 1, by omega, by simp [DRow.enc, hn]⟩
  simp (maxSteps := 4000000) [hd0, hfr, hout, hcl, hcd, delA_none, a1, a1_n, a1_d, a1_m, a2, a2_n, a2_d, a2_m, DEngine.enc, eq_false (show ¬ (i : Int) < x.rows.length by omega), List.take_of_length_le (show (x.rows.map DRow.enc).length ≤ i by simp; omega)]
set_option maxHeartbeats 4000000 in
theorem spec_l6Copy (H : HH) {r1 q1 r2 q2} {x : DEngine} (hl : x.le 1048576) (a1 : arrAt H r1 q1 = some (5, x.txns.map DTxn.enc)) (a2 : arrAt H r2 q2 = some (2, x.rows.map DRow.enc)) :
    PFun Try.prog 24 [.a (eRow x r1 q1 r2 q2)] H (.a x.enc) := by
  obtain ⟨⟨b1, b1p⟩, b2, b2p⟩ := hl
  refine PFun.of [1, 2, 3, 4, 5, 6, 16, 39] Try.func24 rfl (by simp [Try.f24]) ?_
  intro d hd0 hfr hcl hout
  have hcd : ∀ n q, CleanH (hit [((d, n), q)]) H := fun n q => hcl.at
  have a1_n : ∀ n, ¬ (d, n) = r1 := fun n => nm_ne (ne_of_arr hfr a1)
  have a1_d : ¬ r1.1 = d := ne_of_arr hfr a1
  have a1_m : ∀ n, ¬ r1 = (d, n) := fun n => nm_ne' (ne_of_arr hfr a1)
  have a2_n : ∀ n, ¬ (d, n) = r2 := fun n => nm_ne (ne_of_arr hfr a2)
  have a2_d : ¬ r2.1 = d := ne_of_arr hfr a2
  have a2_m : ∀ n, ¬ r2 = (d, n) := fun n => nm_ne' (ne_of_arr hfr a2)
  simp (maxSteps := 4000000) [hd0, hfr, hout, hcl, hcd, delA_none, a1, a1_n, a1_d, a1_m, a2, a2_n, a2_d, a2_m, Try.f24, eRow]
  refine LoopK.intro (fun m s => ∃ i : Nat, i + m = x.txns.length ∧ s = ⟨[(1, .c (.pt (d, 1) [] 4 0 0)), (2, .c (.pt (d, 2) [] 4 0 0)), (3, .c (.pt (d, 3) [] 4 0 0)), (4, I i)],
      ((d, 3), .own 4 [[.v (.int .i64 x.next), .v (.int .i64 x.clock), .own 5 ((x.txns.take i).map DTxn.enc), .own 2 []]]) :: ((d, 2), .own 4 [[.v (.int .i64 0), .v (.int .i64 0), .own 5 [], .own 2 []]]) :: ((d, 1), .own 4 [[.v (.int .i64 x.next), .v (.int .i64 x.clock), .sl r1 q1 5 0 x.txns.length, .sl r2 q2 2 0 x.rows.length]]) :: H, []⟩) (x.txns.length + 1)
    (LK.intro x.txns.length [1, 2, 3, 4] [] (by omega) (by decide) (by simp (maxSteps := 4000000) [hd0, hfr, hout, hcl, hcd, delA_none, a1, a1_n, a1_d, a1_m, a2, a2_n, a2_d, a2_m]) ⟨0, by simp⟩) ?_
  rintro m s ⟨i, him, rfl⟩
  by_cases hi' : i < x.txns.length
  · have w1 : IntKind.i64.wrap ((i : Int) + 1) = i + 1 := w64 (by omega) (by omega)
    have hpl : x.txns[i].undos.length ≤ 1048576 := b1p _ (List.getElem_mem hi')
    have hsub := arrAt_sub a1 (i := i) (f := 4) (row := x.txns[i].enc) (by simp [hi']) rfl
    have hn := take_next (f := DTxn.enc) hi'
    simp only [DTxn.enc] at hn
    simp (maxSteps := 4000000) [hd0, hfr, hout, hcl, hcd, delA_none, a1, a1_n, a1_d, a1_m, a2, a2_n, a2_d, a2_m, eq_true (show (i : Int) < x.txns.length by omega), hi', DTxn.enc, hsub, DUndo.enc, w1]
    refine ⟨by omega, by omega, ?_⟩
    refine LK.intro (m - 1) [1, 2, 3, 4] [5] (by omega) (by decide) (by simp (maxSteps := 4000000) [hd0, hfr, hout, hcl, hcd, delA_none, a1, a1_n, a1_d, a1_m, a2, a2_n, a2_d, a2_m, DTxn.enc]) ⟨i + 1, by omega, by simp [DTxn.enc, DUndo.enc, hn]⟩
  simp (maxSteps := 4000000) [hd0, hfr, hout, hcl, hcd, delA_none, a1, a1_n, a1_d, a1_m, a2, a2_n, a2_d, a2_m, eq_false (show ¬ (i : Int) < x.txns.length by omega)]
  refine LoopK.intro (fun m s => ∃ i : Nat, i + m = x.rows.length ∧ s = ⟨[(1, .c (.pt (d, 1) [] 4 0 0)), (2, .c (.pt (d, 2) [] 4 0 0)), (3, .c (.pt (d, 3) [] 4 0 0)), (6, I i)],
      ((d, 3), .own 4 [[.v (.int .i64 x.next), .v (.int .i64 x.clock), .own 5 (x.txns.map DTxn.enc), .own 2 ((x.rows.take i).map DRow.enc)]]) :: ((d, 2), .own 4 [[.v (.int .i64 0), .v (.int .i64 0), .own 5 [], .own 2 []]]) :: ((d, 1), .own 4 [[.v (.int .i64 x.next), .v (.int .i64 x.clock), .sl r1 q1 5 0 x.txns.length, .sl r2 q2 2 0 x.rows.length]]) :: H, []⟩) (x.rows.length + 1)
    (LK.intro x.rows.length [1, 2, 3, 6] [] (by omega) (by decide) (by simp (maxSteps := 4000000) [hd0, hfr, hout, hcl, hcd, delA_none, a1, a1_n, a1_d, a1_m, a2, a2_n, a2_d, a2_m]) ⟨0, by simp [List.take_of_length_le (show (x.txns.map DTxn.enc).length ≤ i by simp; omega)]⟩) ?_
  clear him hi' m i
  rintro m s ⟨i, him, rfl⟩
  by_cases hi' : i < x.rows.length
  · have w1 : IntKind.i64.wrap ((i : Int) + 1) = i + 1 := w64 (by omega) (by omega)
    have hpl : x.rows[i].chain.length ≤ 1048576 := b2p _ (List.getElem_mem hi')
    have hsub := arrAt_sub a2 (i := i) (f := 1) (row := x.rows[i].enc) (by simp [hi']) rfl
    have hn := take_next (f := DRow.enc) hi'
    simp only [DRow.enc] at hn
    simp (maxSteps := 4000000) [hd0, hfr, hout, hcl, hcd, delA_none, a1, a1_n, a1_d, a1_m, a2, a2_n, a2_d, a2_m, eq_true (show (i : Int) < x.rows.length by omega)]
    refine DrawK.intro 17 [1, 2, 3, 6, 43, 58] rfl (by kernel_rfl) (by decide) ?_
    simp (maxSteps := 4000000) [hd0, hfr, hout, hcl, hcd, delA_none, a1, a1_n, a1_d, a1_m, a2, a2_n, a2_d, a2_m, hi', DRow.enc]
    refine ⟨_, spec_l5Copy _ hpl rfl (by simp (maxSteps := 4000000) [hd0, hfr, hout, hcl, hcd, delA_none, a1, a1_n, a1_d, a1_m, a2, a2_n, a2_d, a2_m, hsub]), ?_⟩
    simp (maxSteps := 4000000) [hd0, hfr, hout, hcl, hcd, delA_none, a1, a1_n, a1_d, a1_m, a2, a2_n, a2_d, a2_m, DRow.enc, Version_clean, w1]
    refine ⟨by kernel_rfl, by kernel_rfl, by omega, ?_⟩
    refine LK.intro (m - 1) [1, 2, 3, 6] [] (by omega) (by decide) (by simp (maxSteps := 4000000) [hd0, hfr, hout, hcl, hcd, delA_none, a1, a1_n, a1_d, a1_m, a2, a2_n, a2_d, a2_m, DRow.enc]) ⟨i + 1, by omega, by simp [DRow.enc, hn]⟩
  simp (maxSteps := 4000000) [hd0, hfr, hout, hcl, hcd, delA_none, a1, a1_n, a1_d, a1_m, a2, a2_n, a2_d, a2_m, DEngine.enc, eq_false (show ¬ (i : Int) < x.rows.length by omega), List.take_of_length_le (show (x.rows.map DRow.enc).length ≤ i by simp; omega)]
end Go.Proofs.Ytnlbjfdmjlnlgaa

namespace Go.Proofs.Ytnlbjfdmjlnlgaa
open Go Go.Px Go.RowKit Go.Proofs
set_option linter.unnecessarySimpa false
set_option linter.unusedVariables false
set_option linter.unusedSimpArgs false
set_option maxRecDepth 100000
attribute [-simp] Int.not_le Int.not_lt
set_option maxHeartbeats 8000000 in
theorem impl_EngineFault (H : HH) {r1 q1 r2 q2} {x : DEngine} (hl : x.le 1048576) (a1 : arrAt H r1 q1 = some (5, x.txns.map DTxn.enc)) (a2 : arrAt H r2 q2 = some (2, x.rows.map DRow.enc)) :
    PFun Try.prog 41 [.a [.v (.int .i64 x.next), .v (.int .i64 x.clock), .sl r1 q1 5 0 x.txns.length, .sl r2 q2 2 0 x.rows.length]] H (I (engF x)) := by
  obtain ⟨⟨b1, b1p⟩, b2, b2p⟩ := hl
  refine PFun.of [1, 2, 3, 4, 5, 6, 7, 8, 9, 11, 12, 13, 14, 15, 26, 38, 39, 40, 41, 45, 75, 118, 122, 123, 124, 125, 129, 134, 159, 180, 183, 184, 185, 186, 190, 191, 192, 193, 217] Try.func41 rfl (by simp [Try.f41]) ?_
  intro d hd0 hfr hcl hout
  have hcd : ∀ n q, CleanH (hit [((d, n), q)]) H := fun n q => hcl.at
  have a1_n : ∀ n, ¬ (d, n) = r1 := fun n => nm_ne (ne_of_arr hfr a1)
  have a1_d : ¬ r1.1 = d := ne_of_arr hfr a1
  have a1_m : ∀ n, ¬ r1 = (d, n) := fun n => nm_ne' (ne_of_arr hfr a1)
  have a2_n : ∀ n, ¬ (d, n) = r2 := fun n => nm_ne (ne_of_arr hfr a2)
  have a2_d : ¬ r2.1 = d := ne_of_arr hfr a2
  have a2_m : ∀ n, ¬ r2 = (d, n) := fun n => nm_ne' (ne_of_arr hfr a2)
  simp (maxSteps := 4000000) [hd0, hfr, hout, hcl, hcd, delA_none, a1, a1_n, a1_d, a1_m, a2, a2_n, a2_d, a2_m, Try.f41]
  refine (impl_isTxn _ _).useCK ?_
  by_cases c1 : inR x.next 1 999 = true
  case neg => simp only [Bool.not_eq_true] at c1; simp (maxSteps := 4000000) [hd0, hfr, hout, hcl, hcd, delA_none, a1, a1_n, a1_d, a1_m, a2, a2_n, a2_d, a2_m, c1, engF]
  simp (maxSteps := 4000000) [hd0, hfr, hout, hcl, hcd, delA_none, a1, a1_n, a1_d, a1_m, a2, a2_n, a2_d, a2_m, c1]
  refine (impl_isLsn _ _).useCK ?_
  by_cases c2 : inR x.clock 0 1000000 = true
  case neg => simp only [Bool.not_eq_true] at c2; simp (maxSteps := 4000000) [hd0, hfr, hout, hcl, hcd, delA_none, a1, a1_n, a1_d, a1_m, a2, a2_n, a2_d, a2_m, c1, c2, engF]
  by_cases g1 : 20 < x.txns.length
  case pos => simp (maxSteps := 4000000) [hd0, hfr, hout, hcl, hcd, delA_none, a1, a1_n, a1_d, a1_m, a2, a2_n, a2_d, a2_m, eq_true (show 20 < (x.txns.length : Int) by omega), c1, c2, eq_true g1, engF]
  by_cases g2 : 32 < x.rows.length
  case pos => simp (maxSteps := 4000000) [hd0, hfr, hout, hcl, hcd, delA_none, a1, a1_n, a1_d, a1_m, a2, a2_n, a2_d, a2_m, eq_false (show ¬ 20 < (x.txns.length : Int) by omega), eq_true (show 32 < (x.rows.length : Int) by omega), c1, c2, eq_true g2, engF]
  have hF : engF x = if txsF x.next x.clock none x.txns ≠ 0 then txsF x.next x.clock none x.txns
      else if rowsF x.clock x.txns none x.rows ≠ 0 then rowsF x.clock x.txns none x.rows
      else if (x.txns.all fun t => ownsF x.rows t) = false then 1 else 0 := by
    conv => lhs; unfold engF
    rw [if_neg (by simp [c1, c2]), if_neg (by omega)]
  have hE1 : ∀ c, c ≠ 0 → c = txsF x.next x.clock none x.txns → engF x = c := fun c h1 h2 => by rw [hF, ← h2, if_pos h1]
  have hE2 : txsF x.next x.clock none x.txns = 0 → ∀ c, c ≠ 0 → c = rowsF x.clock x.txns none x.rows → engF x = c := fun h0 c h1 h2 => by rw [hF, if_neg (by simp [h0]), ← h2, if_pos h1]
  have hE3 : txsF x.next x.clock none x.txns = 0 → rowsF x.clock x.txns none x.rows = 0 → engF x = if (x.txns.all fun t => ownsF x.rows t) = false then 1 else 0 := fun h0 h1 => by rw [hF, if_neg (by simp [h0]), if_neg (by simp [h1])]
  clear hF
  generalize engF x = R at *
  have hnx : 1 ≤ x.next ∧ x.next ≤ 999 := by simpa [inR] using c1
  have wn : IntKind.i64.wrap (x.next - 1) = x.next - 1 := w64 (by omega) (by omega)
  simp (maxSteps := 4000000) [hd0, hfr, hout, hcl, hcd, delA_none, a1, a1_n, a1_d, a1_m, a2, a2_n, a2_d, a2_m, c2, eq_false (show ¬ 20 < (x.txns.length : Int) by omega), eq_false (show ¬ 32 < (x.rows.length : Int) by omega)]
  refine LoopK.intro (fun m s => ∃ i : Nat, i + m = x.txns.length ∧ txsF x.next x.clock (prv DTxn.id_ x.txns i) (x.txns.drop i) = txsF x.next x.clock none x.txns ∧ s = ⟨[(1, .c (.pt (d, 1) [] 4 0 0)), (38, .c (.sl r1 q1 5 0 x.txns.length)), (39, I x.txns.length), (40, I i)],
      ((d, 1), .own 4 [[.v (.int .i64 x.next), .v (.int .i64 x.clock), .sl r1 q1 5 0 x.txns.length, .sl r2 q2 2 0 x.rows.length]]) :: H, []⟩) (x.txns.length + 1)
    (LK.intro x.txns.length [1, 38, 39, 40] [] (by omega) (by decide) (by simp (maxSteps := 4000000) [hd0, hfr, hout, hcl, hcd, delA_none, a1, a1_n, a1_d, a1_m, a2, a2_n, a2_d, a2_m]) ⟨0, by simp [prv]⟩) ?_
  rintro m s ⟨i, him, hinv, rfl⟩
  by_cases hi' : i < x.txns.length
  · rw [List.drop_eq_getElem_cons hi'] at hinv
    simp only [txsF] at hinv
    have w1 : IntKind.i64.wrap ((i : Int) + 1) = i + 1 := w64 (by omega) (by omega)
    have hend := prv_succ (f := DTxn.id_) hi'
    have hbu := b1p _ (List.getElem_mem hi')
    have hsub := arrAt_sub a1 (i := i) (f := 4) (row := x.txns[i].enc) (by simp [hi']) rfl
    simp (maxSteps := 4000000) [hd0, hfr, hout, hcl, hcd, delA_none, a1, a1_n, a1_d, a1_m, a2, a2_n, a2_d, a2_m, eq_true (show (i : Int) < x.txns.length by omega), hi', DTxn.enc, wn]
    refine (impl_within _ _ _ _).useCK ?_
    by_cases d1 : inR x.txns[i].id_ 1 (x.next - 1) = true
    case neg => simp only [Bool.not_eq_true] at d1; simp [tRange, d1] at hinv; simp (maxSteps := 4000000) [hd0, hfr, hout, hcl, hcd, delA_none, a1, a1_n, a1_d, a1_m, a2, a2_n, a2_d, a2_m, d1, hE1 3 (by omega) hinv]
    simp (maxSteps := 4000000) [hd0, hfr, hout, hcl, hcd, delA_none, a1, a1_n, a1_d, a1_m, a2, a2_n, a2_d, a2_m, d1]
    refine (impl_within _ _ _ _).useCK ?_
    by_cases d2 : inR x.txns[i].at_ 0 x.clock = true
    case neg => simp only [Bool.not_eq_true] at d2; simp [tRange, d2] at hinv; simp (maxSteps := 4000000) [hd0, hfr, hout, hcl, hcd, delA_none, a1, a1_n, a1_d, a1_m, a2, a2_n, a2_d, a2_m, d2, hE1 3 (by omega) hinv]
    simp (maxSteps := 4000000) [hd0, hfr, hout, hcl, hcd, delA_none, a1, a1_n, a1_d, a1_m, a2, a2_n, a2_d, a2_m, d2]
    refine (impl_within _ _ _ _).useCK ?_
    by_cases d3 : inR x.txns[i].state 1 3 = true
    case neg => simp only [Bool.not_eq_true] at d3; simp [tRange, d3] at hinv; simp (maxSteps := 4000000) [hd0, hfr, hout, hcl, hcd, delA_none, a1, a1_n, a1_d, a1_m, a2, a2_n, a2_d, a2_m, d3, hE1 3 (by omega) hinv]
    simp (maxSteps := 4000000) [hd0, hfr, hout, hcl, hcd, delA_none, a1, a1_n, a1_d, a1_m, a2, a2_n, a2_d, a2_m, d3]
    refine (impl_within _ _ _ _).useCK ?_
    by_cases d4 : inR x.txns[i].done 0 x.clock = true
    case neg => simp only [Bool.not_eq_true] at d4; simp [tRange, d4] at hinv; simp (maxSteps := 4000000) [hd0, hfr, hout, hcl, hcd, delA_none, a1, a1_n, a1_d, a1_m, a2, a2_n, a2_d, a2_m, d4, hE1 3 (by omega) hinv]
    have hv : tRange x.next x.clock x.txns[i] = true := by simp [tRange, d1, d2, d3, d4]
    rw [hv, if_neg (by simp)] at hinv
    simp (maxSteps := 4000000) [hd0, hfr, hout, hcl, hcd, delA_none, a1, a1_n, a1_d, a1_m, a2, a2_n, a2_d, a2_m, d4]
    refine DrawK.intro 15 [1, 4, 38, 39, 40, 75] rfl (by kernel_rfl) (by decide) ?_
    have w2 : i ≠ 0 → IntKind.i64.wrap ((i : Int) - 1) = (i - 1 : Nat) := fun h => by rw [w64 (by omega) (by omega)]; omega
    have hone : tForm (prv DTxn.id_ x.txns i) x.txns[i] = false → R = 1 := fun h => by rw [if_pos h] at hinv; exact hE1 1 (by omega) hinv
    have hfin : tForm (prv DTxn.id_ x.txns i) x.txns[i] = true → (if undosF x.txns[i].undos ≠ 0 then undosF x.txns[i].undos else txsF x.next x.clock (some x.txns[i].id_) (x.txns.drop (i + 1))) = txsF x.next x.clock none x.txns := fun h => by rw [h] at hinv; simpa using hinv
    clear hinv
    by_cases hi0 : i = 0
    case' pos =>
      have hnab : nab (prv DTxn.id_ x.txns i) x.txns[i].id_ = false := by simp [hi0, prv, nab]
      simp (maxSteps := 4000000) [hd0, hfr, hout, hcl, hcd, delA_none, a1, a1_n, a1_d, a1_m, a2, a2_n, a2_d, a2_m, eq_false (show ¬ (0 : Int) < (i : Int) by omega), eq_false (show ¬ 0 < i by omega), eq_true hi0]
    case' neg =>
      have h3 : i - 1 < x.txns.length := by omega
      have hp := prv_pos (f := DTxn.id_) hi0 h3
      by_cases h4 : x.txns[i].id_ ≤ x.txns[i-1].id_
      case pos =>
        have h1 := hone (by simp [tForm, hp, nab, h4])
        simp (maxSteps := 4000000) [hd0, hfr, hout, hcl, hcd, delA_none, a1, a1_n, a1_d, a1_m, a2, a2_n, a2_d, a2_m, eq_true (show (0 : Int) < (i : Int) by omega), eq_true (show 0 < i by omega), hi0, w2 hi0, h3, hi', DTxn.enc, eq_true h4, h1]
      have hnab : nab (prv DTxn.id_ x.txns i) x.txns[i].id_ = false := by rw [hp]; simp [nab]; omega
      simp (maxSteps := 4000000) [hd0, hfr, hout, hcl, hcd, delA_none, a1, a1_n, a1_d, a1_m, a2, a2_n, a2_d, a2_m, eq_true (show (0 : Int) < (i : Int) by omega), eq_true (show 0 < i by omega), hi0, w2 hi0, h3, hi', DTxn.enc, eq_false h4]
    all_goals
      by_cases e1 : x.txns[i].done = 0
      case' pos =>
        have hdn : (decide (x.txns[i].done = 0) || (decide (x.txns[i].state = 2) && decide (x.txns[i].at_ < x.txns[i].done))) = true := by simp [e1]
        simp (maxSteps := 4000000) [hd0, hfr, hout, hcl, hcd, delA_none, a1, a1_n, a1_d, a1_m, a2, a2_n, a2_d, a2_m, eq_true e1]
      case' neg =>
        by_cases e2 : x.txns[i].state = 2
        case neg =>
          have h1 := hone (by simp [tForm, e1, e2])
          simp (maxSteps := 4000000) [hd0, hfr, hout, hcl, hcd, delA_none, a1, a1_n, a1_d, a1_m, a2, a2_n, a2_d, a2_m, eq_false e1, eq_false e2, h1]
        by_cases e3 : x.txns[i].done ≤ x.txns[i].at_
        case pos =>
          have h1 := hone (by simp [tForm, e1, show ¬ x.txns[i].at_ < x.txns[i].done by omega])
          simp (maxSteps := 4000000) [hd0, hfr, hout, hcl, hcd, delA_none, a1, a1_n, a1_d, a1_m, a2, a2_n, a2_d, a2_m, eq_false e1, eq_true e2, eq_true e3, h1]
        have hdn : (decide (x.txns[i].done = 0) || (decide (x.txns[i].state = 2) && decide (x.txns[i].at_ < x.txns[i].done))) = true := by simp [e2, show x.txns[i].at_ < x.txns[i].done by omega]
        simp (maxSteps := 4000000) [hd0, hfr, hout, hcl, hcd, delA_none, a1, a1_n, a1_d, a1_m, a2, a2_n, a2_d, a2_m, eq_false e1, eq_true e2, eq_false e3]
      all_goals
        by_cases e4 : x.txns[i].undos.length = 0
        case' pos =>
          have hun : (decide (x.txns[i].undos.length = 0) || decide (x.txns[i].state = 1)) = true := by simp [e4]
          simp (maxSteps := 4000000) [hd0, hfr, hout, hcl, hcd, delA_none, a1, a1_n, a1_d, a1_m, a2, a2_n, a2_d, a2_m, eq_false (show ¬ (0 : Int) < (x.txns[i].undos.length : Int) by omega), eq_false (show ¬ 0 < x.txns[i].undos.length by omega), eq_true (show x.txns[i].undos = [] from List.eq_nil_of_length_eq_zero e4)]
        case' neg =>
          by_cases e5 : x.txns[i].state = 1
          case neg =>
            have h1 := hone (by simp [tForm, e4, e5])
            simp (maxSteps := 4000000) [hd0, hfr, hout, hcl, hcd, delA_none, a1, a1_n, a1_d, a1_m, a2, a2_n, a2_d, a2_m, eq_true (show (0 : Int) < (x.txns[i].undos.length : Int) by omega), eq_true (show 0 < x.txns[i].undos.length by omega), eq_false (show ¬ x.txns[i].undos = [] from fun h => e4 (by rw [h]; rfl)), eq_false e5, h1]
          have hun : (decide (x.txns[i].undos.length = 0) || decide (x.txns[i].state = 1)) = true := by simp [e5]
          simp (maxSteps := 4000000) [hd0, hfr, hout, hcl, hcd, delA_none, a1, a1_n, a1_d, a1_m, a2, a2_n, a2_d, a2_m, eq_true (show (0 : Int) < (x.txns[i].undos.length : Int) by omega), eq_true (show 0 < x.txns[i].undos.length by omega), eq_false (show ¬ x.txns[i].undos = [] from fun h => e4 (by rw [h]; rfl)), eq_true e5]
        all_goals
          have hf := hfin (by unfold tForm; rw [hnab, hdn, hun]; rfl)
          refine (impl_undosFault _ hbu (by simp (maxSteps := 4000000) [hd0, hfr, hout, hcl, hcd, delA_none, a1, a1_n, a1_d, a1_m, a2, a2_n, a2_d, a2_m, hsub])).useCK ?_
          by_cases e6 : undosF x.txns[i].undos = 0
          · rw [if_neg (by simp [e6])] at hf
            simp (maxSteps := 4000000) [hd0, hfr, hout, hcl, hcd, delA_none, a1, a1_n, a1_d, a1_m, a2, a2_n, a2_d, a2_m, e6, w1]
            refine LK.intro (m - 1) [1, 38, 39, 40] [4] (by omega) (by decide) (by simp (maxSteps := 4000000) [hd0, hfr, hout, hcl, hcd, delA_none, a1, a1_n, a1_d, a1_m, a2, a2_n, a2_d, a2_m]) ⟨i + 1, by omega, by rw [hend]; exact hf, by simp⟩
          · rw [if_pos e6] at hf
            simp (maxSteps := 4000000) [hd0, hfr, hout, hcl, hcd, delA_none, a1, a1_n, a1_d, a1_m, a2, a2_n, a2_d, a2_m, e6, hE1 _ e6 hf]
  rw [List.drop_eq_nil_of_le (by omega)] at hinv
  simp only [txsF] at hinv
  have hT : txsF x.next x.clock none x.txns = 0 := hinv.symm
  have hE2 := hE2 hT
  have hE3 := hE3 hT
  clear hinv hE1
  simp (maxSteps := 4000000) [hd0, hfr, hout, hcl, hcd, delA_none, a1, a1_n, a1_d, a1_m, a2, a2_n, a2_d, a2_m, eq_false (show ¬ (i : Int) < x.txns.length by omega)]
  refine LoopK.intro (fun m s => ∃ i : Nat, i + m = x.rows.length ∧ rowsF x.clock x.txns (prv DRow.key x.rows i) (x.rows.drop i) = rowsF x.clock x.txns none x.rows ∧ s = ⟨[(1, .c (.pt (d, 1) [] 4 0 0)), (122, .c (.sl r2 q2 2 0 x.rows.length)), (123, I x.rows.length), (124, I i)],
      ((d, 1), .own 4 [[.v (.int .i64 x.next), .v (.int .i64 x.clock), .sl r1 q1 5 0 x.txns.length, .sl r2 q2 2 0 x.rows.length]]) :: H, []⟩) (x.rows.length + 1)
    (LK.intro x.rows.length [1, 122, 123, 124] [] (by omega) (by decide) (by simp (maxSteps := 4000000) [hd0, hfr, hout, hcl, hcd, delA_none, a1, a1_n, a1_d, a1_m, a2, a2_n, a2_d, a2_m]) ⟨0, by simp [prv]⟩) ?_
  clear him hi' i m
  rintro m s ⟨i, him, hinv, rfl⟩
  by_cases hi' : i < x.rows.length
  · rw [List.drop_eq_getElem_cons hi'] at hinv
    simp only [rowsF] at hinv
    have w1 : IntKind.i64.wrap ((i : Int) + 1) = i + 1 := w64 (by omega) (by omega)
    have w2 : i ≠ 0 → IntKind.i64.wrap ((i : Int) - 1) = (i - 1 : Nat) := fun h => by rw [w64 (by omega) (by omega)]; omega
    have hend := prv_succ (f := DRow.key) hi'
    have hbc := b2p _ (List.getElem_mem hi')
    have hsub := arrAt_sub a2 (i := i) (f := 1) (row := x.rows[i].enc) (by simp [hi']) rfl
    simp (maxSteps := 4000000) [hd0, hfr, hout, hcl, hcd, delA_none, a1, a1_n, a1_d, a1_m, a2, a2_n, a2_d, a2_m, eq_true (show (i : Int) < x.rows.length by omega), hi', DRow.enc]
    refine (impl_isKey _ _).useCK ?_
    by_cases d1 : inR x.rows[i].key 0 31 = true
    case neg => simp only [Bool.not_eq_true] at d1; simp [d1] at hinv; simp (maxSteps := 4000000) [hd0, hfr, hout, hcl, hcd, delA_none, a1, a1_n, a1_d, a1_m, a2, a2_n, a2_d, a2_m, d1, hE2 3 (by omega) hinv]
    rw [d1, if_neg (by simp)] at hinv
    simp (maxSteps := 4000000) [hd0, hfr, hout, hcl, hcd, delA_none, a1, a1_n, a1_d, a1_m, a2, a2_n, a2_d, a2_m, d1]
    refine DrawK.intro 21 [1, 7, 122, 123, 124, 134] rfl (by kernel_rfl) (by decide) ?_
    have hone : (nab (prv DRow.key x.rows i) x.rows[i].key || decide (x.rows[i].chain.length = 0)) = true → R = 1 := fun h => by rw [if_pos h] at hinv; exact hE2 1 (by omega) hinv
    by_cases e0 : x.rows[i].chain.length = 0
    case pos =>
      have h1 := hone (by simp [e0])
      have e0' : x.rows[i].chain = [] := List.eq_nil_of_length_eq_zero e0
      by_cases hi0 : i = 0
      · simp (maxSteps := 4000000) [hd0, hfr, hout, hcl, hcd, delA_none, a1, a1_n, a1_d, a1_m, a2, a2_n, a2_d, a2_m, eq_false (show ¬ (0 : Int) < (i : Int) by omega), eq_false (show ¬ 0 < i by omega), eq_true hi0, e0', h1]
      · have h3 : i - 1 < x.rows.length := by omega
        by_cases h4 : x.rows[i].key ≤ x.rows[i-1].key
        · simp (maxSteps := 4000000) [hd0, hfr, hout, hcl, hcd, delA_none, a1, a1_n, a1_d, a1_m, a2, a2_n, a2_d, a2_m, eq_true (show (0 : Int) < (i : Int) by omega), eq_true (show 0 < i by omega), hi0, w2 hi0, h3, hi', DRow.enc, eq_true h4, e0', h1]
        · simp (maxSteps := 4000000) [hd0, hfr, hout, hcl, hcd, delA_none, a1, a1_n, a1_d, a1_m, a2, a2_n, a2_d, a2_m, eq_true (show (0 : Int) < (i : Int) by omega), eq_true (show 0 < i by omega), hi0, w2 hi0, h3, hi', DRow.enc, eq_false h4, e0', h1]
    have e0' : ¬ x.rows[i].chain = [] := fun h => e0 (by rw [h]; rfl)
    by_cases hi0 : i = 0
    case' pos =>
      have hnab : nab (prv DRow.key x.rows i) x.rows[i].key = false := by simp [hi0, prv, nab]
      simp (maxSteps := 4000000) [hd0, hfr, hout, hcl, hcd, delA_none, a1, a1_n, a1_d, a1_m, a2, a2_n, a2_d, a2_m, eq_false (show ¬ (0 : Int) < (i : Int) by omega), eq_false (show ¬ 0 < i by omega), eq_true hi0, eq_false e0']
    case' neg =>
      have h3 : i - 1 < x.rows.length := by omega
      have hp := prv_pos (f := DRow.key) hi0 h3
      by_cases h4 : x.rows[i].key ≤ x.rows[i-1].key
      case pos =>
        have h1 := hone (by simp [hp, nab, h4])
        simp (maxSteps := 4000000) [hd0, hfr, hout, hcl, hcd, delA_none, a1, a1_n, a1_d, a1_m, a2, a2_n, a2_d, a2_m, eq_true (show (0 : Int) < (i : Int) by omega), eq_true (show 0 < i by omega), hi0, w2 hi0, h3, hi', DRow.enc, eq_true h4, h1]
      have hnab : nab (prv DRow.key x.rows i) x.rows[i].key = false := by rw [hp]; simp [nab]; omega
      simp (maxSteps := 4000000) [hd0, hfr, hout, hcl, hcd, delA_none, a1, a1_n, a1_d, a1_m, a2, a2_n, a2_d, a2_m, eq_true (show (0 : Int) < (i : Int) by omega), eq_true (show 0 < i by omega), hi0, w2 hi0, h3, hi', DRow.enc, eq_false h4, eq_false e0']
    all_goals
      rw [if_neg (by simp [hnab, e0])] at hinv
      refine (impl_ChainFault _ hbc (by simp (maxSteps := 4000000) [hd0, hfr, hout, hcl, hcd, delA_none, a1, a1_n, a1_d, a1_m, a2, a2_n, a2_d, a2_m, hsub])).useCK ?_
      by_cases e1 : chainF x.rows[i].chain = 0
      case neg => rw [if_pos e1] at hinv; simp (maxSteps := 4000000) [hd0, hfr, hout, hcl, hcd, delA_none, a1, a1_n, a1_d, a1_m, a2, a2_n, a2_d, a2_m, e1, hE2 _ e1 hinv]
      rw [if_neg (by simp [e1])] at hinv
      obtain ⟨f, rest, hcf⟩ : ∃ f rest, x.rows[i].chain = f :: rest := by
        cases hc : x.rows[i].chain with
        | nil => exact absurd hc e0'
        | cons f rest => exact ⟨f, rest, rfl⟩
      have hC1 : ∀ H', arrAt H' (d, 1) [] = some (4, [[.v (.int .i64 x.next), .v (.int .i64 x.clock), .sl r1 q1 5 0 x.txns.length, .sl r2 q2 2 0 x.rows.length]]) → arrAt H' r2 (q2 ++ [(i, 1)]) = some (4, x.rows[i].chain.map DVersion.enc) →
          PFun Try.prog 72 [.c (.sl r2 (q2 ++ [(i, 1)]) 4 0 x.rows[i].chain.length), .c (.fn 73 [.pt (d, 1) [] 4 0 0])] H' (B (x.rows[i].chain.any fun v => decide (x.clock < v.at_))) := fun H' h1 h2 => by
        have := slices_ContainsFunc_Version H' (P := fun v => decide (x.clock < v.at_)) (g := 73) (caps := [.pt (d, 1) [] 4 0 0]) hbc (Nat.le_refl _) h2 (by simp [isRef]) (by simp) (fun i hi => impl_EngineFault_1 H' h1)
        simpa using this
      have hC2 : ∀ H', arrAt H' (d, 9) [] = some (4, [f.enc]) → arrAt H' (d, 7) [] = some (2, [[.v (.int .i64 x.rows[i].key), .sl r2 (q2 ++ [(i, 1)]) 4 0 x.rows[i].chain.length]]) → arrAt H' r1 q1 = some (5, x.txns.map DTxn.enc) →
          PFun Try.prog 74 [.c (.sl r1 q1 5 0 x.txns.length), .c (.fn 75 [.pt (d, 9) [] 4 0 0, .pt (d, 7) [] 2 0 0])] H' (B (x.txns.any fun t => decide (t.id_ = f.txn) && undoesF t x.rows[i].key)) := fun H' h1 h2 h3 => by
        have := slices_ContainsFunc_Txn H' (P := fun t => decide (t.id_ = f.txn) && undoesF t x.rows[i].key) (g := 75) (caps := [.pt (d, 9) [] 4 0 0, .pt (d, 7) [] 2 0 0]) b1 (Nat.le_refl _) h3 (by simp [isRef]) (by simp) (fun j hj => impl_EngineFault_2 H' (b1p _ (List.getElem_mem hj)) (arrAt_sub h3 (i := j) (f := 4) (row := x.txns[j].enc) (by simp [hj]) rfl) h1 h2)
        simpa using this
      have hro : rowOpenF x.txns x.rows[i] = (decide (f.at_ ≠ 0) || x.txns.any fun t => decide (t.id_ = f.txn) && undoesF t x.rows[i].key) := by unfold rowOpenF; rw [hcf]
      have h0l : 0 < x.rows[i].chain.length := by omega
      have hg0 : x.rows[i].chain[0] = f := by simp [hcf]
      simp (maxSteps := 4000000) [hd0, hfr, hout, hcl, hcd, delA_none, a1, a1_n, a1_d, a1_m, a2, a2_n, a2_d, a2_m, e1, hsub, h0l, hg0, DVersion.enc]
      refine (hC1 _ (by simp (maxSteps := 4000000) [hd0, hfr, hout, hcl, hcd, delA_none, a1, a1_n, a1_d, a1_m, a2, a2_n, a2_d, a2_m]) (by simp (maxSteps := 4000000) [hd0, hfr, hout, hcl, hcd, delA_none, a1, a1_n, a1_d, a1_m, a2, a2_n, a2_d, a2_m, hsub])).useCK ?_
      have hone2 : ((x.rows[i].chain.any fun v => decide (x.clock < v.at_)) || !rowOpenF x.txns x.rows[i]) = true → R = 1 := fun h => by rw [if_pos h] at hinv; exact hE2 1 (by omega) hinv
      have hfin2 : (x.rows[i].chain.any fun v => decide (x.clock < v.at_)) = false → rowOpenF x.txns x.rows[i] = true → rowsF x.clock x.txns (some x.rows[i].key) (x.rows.drop (i + 1)) = rowsF x.clock x.txns none x.rows := fun h1 h2 => by rw [if_neg (by simp [h1, h2])] at hinv; exact hinv
      by_cases k5 : (x.rows[i].chain.any fun v => decide (x.clock < v.at_)) = true
      case pos =>
        have hR := hone2 (by rw [k5]; rfl)
        rw [k5]
        simp (maxSteps := 4000000) [hd0, hfr, hout, hcl, hcd, delA_none, a1, a1_n, a1_d, a1_m, a2, a2_n, a2_d, a2_m, hR]
      simp only [Bool.not_eq_true] at k5
      rw [k5]
      by_cases k6 : f.at_ = 0
      · simp (maxSteps := 4000000) [hd0, hfr, hout, hcl, hcd, delA_none, a1, a1_n, a1_d, a1_m, a2, a2_n, a2_d, a2_m, eq_true k6]
        refine (hC2 _ (by simp (maxSteps := 4000000) [hd0, hfr, hout, hcl, hcd, delA_none, a1, a1_n, a1_d, a1_m, a2, a2_n, a2_d, a2_m, DVersion.enc]) (by simp (maxSteps := 4000000) [hd0, hfr, hout, hcl, hcd, delA_none, a1, a1_n, a1_d, a1_m, a2, a2_n, a2_d, a2_m]) (by simp (maxSteps := 4000000) [hd0, hfr, hout, hcl, hcd, delA_none, a1, a1_n, a1_d, a1_m, a2, a2_n, a2_d, a2_m])).useCK ?_
        by_cases k7 : (x.txns.any fun t => decide (t.id_ = f.txn) && undoesF t x.rows[i].key) = true
        · have hf := hfin2 k5 (by rw [hro, k7]; simp)
          rw [k7]
          simp (maxSteps := 4000000) [hd0, hfr, hout, hcl, hcd, delA_none, a1, a1_n, a1_d, a1_m, a2, a2_n, a2_d, a2_m, w1]
          refine LK.intro (m - 1) [1, 122, 123, 124] [7, 9] (by omega) (by decide) (by simp (maxSteps := 4000000) [hd0, hfr, hout, hcl, hcd, delA_none, a1, a1_n, a1_d, a1_m, a2, a2_n, a2_d, a2_m]) ⟨i + 1, by omega, by rw [hend]; exact hf, by simp⟩
        · simp only [Bool.not_eq_true] at k7
          have hR := hone2 (by rw [hro, k7]; simp [k6])
          rw [k7]
          simp (maxSteps := 4000000) [hd0, hfr, hout, hcl, hcd, delA_none, a1, a1_n, a1_d, a1_m, a2, a2_n, a2_d, a2_m, hR]
      · have hf := hfin2 k5 (by rw [hro]; simp [k6])
        simp (maxSteps := 4000000) [hd0, hfr, hout, hcl, hcd, delA_none, a1, a1_n, a1_d, a1_m, a2, a2_n, a2_d, a2_m, eq_false k6, w1]
        refine LK.intro (m - 1) [1, 122, 123, 124] [7, 9] (by omega) (by decide) (by simp (maxSteps := 4000000) [hd0, hfr, hout, hcl, hcd, delA_none, a1, a1_n, a1_d, a1_m, a2, a2_n, a2_d, a2_m]) ⟨i + 1, by omega, by rw [hend]; exact hf, by simp⟩
  rw [List.drop_eq_nil_of_le (by omega)] at hinv
  simp only [rowsF] at hinv
  have hRw : rowsF x.clock x.txns none x.rows = 0 := hinv.symm
  have hE3 := hE3 hRw
  clear hinv hE2
  obtain ⟨hks, hso, -⟩ := rowsF_sorted hRw
  have hget := txsF_get hT
  simp (maxSteps := 4000000) [hd0, hfr, hout, hcl, hcd, delA_none, a1, a1_n, a1_d, a1_m, a2, a2_n, a2_d, a2_m, eq_false (show ¬ (i : Int) < x.rows.length by omega)]
  refine LoopK.intro (fun m s => ∃ i : Nat, i + m = x.txns.length ∧ ((x.txns.take i).all fun t => ownsF x.rows t) = true ∧ s = ⟨[(1, .c (.pt (d, 1) [] 4 0 0)), (183, .c (.sl r1 q1 5 0 x.txns.length)), (184, I x.txns.length), (185, I i)],
      ((d, 1), .own 4 [[.v (.int .i64 x.next), .v (.int .i64 x.clock), .sl r1 q1 5 0 x.txns.length, .sl r2 q2 2 0 x.rows.length]]) :: H, []⟩) (x.txns.length + 1)
    (LK.intro x.txns.length [1, 183, 184, 185] [] (by omega) (by decide) (by simp (maxSteps := 4000000) [hd0, hfr, hout, hcl, hcd, delA_none, a1, a1_n, a1_d, a1_m, a2, a2_n, a2_d, a2_m]) ⟨0, by simp⟩) ?_
  clear him hi' i m
  rintro m s ⟨i, him, hinv, rfl⟩
  by_cases hi' : i < x.txns.length
  · have w1 : IntKind.i64.wrap ((i : Int) + 1) = i + 1 := w64 (by omega) (by omega)
    have hbu : x.txns[i].undos.length ≤ 1048576 := b1p _ (List.getElem_mem hi')
    have hsub := arrAt_sub a1 (i := i) (f := 4) (row := x.txns[i].enc) (by simp [hi']) rfl
    obtain ⟨-, hu0, -⟩ := hget _ (List.getElem_mem hi')
    have huk := undosF_key hu0
    have hbad : ownsF x.rows x.txns[i] = false → R = 1 := fun h => by
      rw [hE3, if_pos]
      rw [List.all_eq_false]
      exact ⟨_, List.getElem_mem hi', by simp [h]⟩
    have hnx2 : ownsF x.rows x.txns[i] = true → ((x.txns.take (i + 1)).all fun t => ownsF x.rows t) = true := fun h => by
      rw [List.take_succ_eq_append_getElem hi', List.all_append, hinv]; simp [h]
    simp (maxSteps := 4000000) [hd0, hfr, hout, hcl, hcd, delA_none, a1, a1_n, a1_d, a1_m, a2, a2_n, a2_d, a2_m, eq_true (show (i : Int) < x.txns.length by omega), hi', DTxn.enc]
    refine LoopK.intro (fun m2 s => ∃ j : Nat, j + m2 = x.txns[i].undos.length ∧ ((List.range j).all fun k => ownI x.rows x.txns[i].id_ x.txns[i].undos k) = true ∧ s = ⟨[(1, .c (.pt (d, 1) [] 4 0 0)), (11, .c (.pt (d, 11) [] 5 0 0)), (183, .c (.sl r1 q1 5 0 x.txns.length)), (184, I x.txns.length), (185, I i), (190, .c (.sl r1 (q1 ++ [(i, 4)]) 4 0 x.txns[i].undos.length)), (191, I x.txns[i].undos.length), (192, I j)],
        ((d, 11), .own 5 [[.v (.int .i64 x.txns[i].id_), .v (.int .i64 x.txns[i].at_), .v (.int .i64 x.txns[i].state), .v (.int .i64 x.txns[i].done), .sl r1 (q1 ++ [(i, 4)]) 4 0 x.txns[i].undos.length]]) :: ((d, 1), .own 4 [[.v (.int .i64 x.next), .v (.int .i64 x.clock), .sl r1 q1 5 0 x.txns.length, .sl r2 q2 2 0 x.rows.length]]) :: H, []⟩) (x.txns[i].undos.length + 1)
      (LK.intro x.txns[i].undos.length [1, 11, 183, 184, 185, 190, 191, 192] [] (by omega) (by decide) (by simp (maxSteps := 4000000) [hd0, hfr, hout, hcl, hcd, delA_none, a1, a1_n, a1_d, a1_m, a2, a2_n, a2_d, a2_m]) ⟨0, by simp⟩) ?_
    rintro m2 s ⟨j, hjm, hinv2, rfl⟩
    by_cases hj : j < x.txns[i].undos.length
    · have w3 : IntKind.i64.wrap ((j : Int) + 1) = j + 1 := w64 (by omega) (by omega)
      generalize hus : x.txns[i].undos = us at *
      have hoj : ownI x.rows x.txns[i].id_ us j = (openF (chainR x.rows us[j].key) x.txns[i].id_ && ((us.take j).any (fun y => decide (y.key = us[j].key)) == us[j].had)) := by simp [ownI, hj]
      have hko := huk _ (List.getElem_mem hj)
      have hnx3 : ownI x.rows x.txns[i].id_ us j = true → ((List.range (j + 1)).all fun k => ownI x.rows x.txns[i].id_ us k) = true := fun h => by
        rw [List.range_succ, List.all_append, hinv2]; simp [h]
      have hbad2 : ownI x.rows x.txns[i].id_ us j = false → R = 1 := fun h => hbad (by
        unfold ownsF
        rw [hus, List.all_eq_false]
        exact ⟨j, by simpa using hj, by simp [h]⟩)
      have hC3 : ∀ H', arrAt H' (d, 13) [] = some (4, [us[j].enc]) → arrAt H' r1 (q1 ++ [(i, 4)]) = some (4, us.map DUndo.enc) →
          PFun Try.prog 77 [.c (.sl r1 (q1 ++ [(i, 4)]) 4 0 j), .c (.fn 78 [.pt (d, 13) [] 4 0 0])] H' (B ((us.take j).any fun y => decide (y.key = us[j].key))) := fun H' h1 h2 =>
        slices_ContainsFunc_Undo H' (P := fun y => decide (y.key = us[j].key)) (g := 78) (caps := [.pt (d, 13) [] 4 0 0]) hbu (by omega) h2 (by simp [isRef]) (by simp) (fun k hk => impl_EngineFault_3 H' h1)
      simp (maxSteps := 4000000) [hd0, hfr, hout, hcl, hcd, delA_none, a1, a1_n, a1_d, a1_m, a2, a2_n, a2_d, a2_m, eq_true (show (j : Int) < us.length by omega), hj, hsub, DUndo.enc]
      refine ⟨by omega, ?_⟩
      refine (hC3 _ (by simp (maxSteps := 4000000) [hd0, hfr, hout, hcl, hcd, delA_none, a1, a1_n, a1_d, a1_m, a2, a2_n, a2_d, a2_m, DUndo.enc]) (by simp (maxSteps := 4000000) [hd0, hfr, hout, hcl, hcd, delA_none, a1, a1_n, a1_d, a1_m, a2, a2_n, a2_d, a2_m, hsub])).useCK ?_
      simp (maxSteps := 4000000) [hd0, hfr, hout, hcl, hcd, delA_none, a1, a1_n, a1_d, a1_m, a2, a2_n, a2_d, a2_m]
      refine DrawK.intro 14 [1, 11, 183, 184, 185, 190, 191, 192, 217] rfl (by kernel_rfl) (by decide) ?_
      simp (maxSteps := 4000000) [hd0, hfr, hout, hcl, hcd, delA_none, a1, a1_n, a1_d, a1_m, a2, a2_n, a2_d, a2_m]
      refine ⟨_, impl_Engine_chain _ (rows2 := x.txns.map DTxn.enc) b2 hso hko hks (by simp (maxSteps := 4000000) [hd0, hfr, hout, hcl, hcd, delA_none, a1, a1_n, a1_d, a1_m, a2, a2_n, a2_d, a2_m]) (by simp (maxSteps := 4000000) [hd0, hfr, hout, hcl, hcd, delA_none, a1, a1_n, a1_d, a1_m, a2, a2_n, a2_d, a2_m]), ?_⟩
      by_cases hf : foundR x.rows us[j].key = true
      · have hlt := foundR_lt hf
        have hcr : chainR x.rows us[j].key = x.rows[rowP x.rows us[j].key].chain := by simp [chainR, hf, List.getD_eq_getElem?_getD, hlt]
        have hsubc : arrAt H r2 (q2 ++ [(rowP x.rows us[j].key, 1)]) = some (4, (chainR x.rows us[j].key).map DVersion.enc) := by
          rw [hcr]
          exact arrAt_sub a2 (i := rowP x.rows us[j].key) (f := 1) (row := x.rows[rowP x.rows us[j].key].enc) (by simp [hlt]) rfl
        have hTc : chainT r2 q2 x.rows us[j].key = .c (.sl r2 (q2 ++ [(rowP x.rows us[j].key, 1)]) 4 0 (chainR x.rows us[j].key).length) := by simp [chainT, hf]
        rw [hTc]
        generalize rowP x.rows us[j].key = p at *
        generalize chainR x.rows us[j].key = ch at *
        simp (maxSteps := 4000000) [hd0, hfr, hout, hcl, hcd, delA_none, a1, a1_n, a1_d, a1_m, a2, a2_n, a2_d, a2_m]
        refine ⟨_, impl_isOpenOf _ (l := ch) (by simp (maxSteps := 4000000) [hd0, hfr, hout, hcl, hcd, delA_none, a1, a1_n, a1_d, a1_m, a2, a2_n, a2_d, a2_m, hsubc]), ?_⟩
        by_cases ho : openF ch x.txns[i].id_ = true
        case neg =>
          simp only [Bool.not_eq_true] at ho
          have hR := hbad2 (by rw [hoj, ho]; rfl)
          rw [ho]
          simp (maxSteps := 4000000) [hd0, hfr, hout, hcl, hcd, delA_none, a1, a1_n, a1_d, a1_m, a2, a2_n, a2_d, a2_m, hR]
        rw [ho]
        by_cases hah : ((us.take j).any fun y => decide (y.key = us[j].key)) = us[j].had
        · have hok : ownI x.rows x.txns[i].id_ us j = true := by rw [hoj, ho, hah]; simp
          rw [hah]
          cases hhad : us[j].had <;> simp (maxSteps := 4000000) [hd0, hfr, hout, hcl, hcd, delA_none, a1, a1_n, a1_d, a1_m, a2, a2_n, a2_d, a2_m, hhad, w3]
          all_goals refine LK.intro (m2 - 1) [1, 11, 183, 184, 185, 190, 191, 192] [13] (by omega) (by decide) (by simp (maxSteps := 4000000) [hd0, hfr, hout, hcl, hcd, delA_none, a1, a1_n, a1_d, a1_m, a2, a2_n, a2_d, a2_m]) ⟨j + 1, by omega, by simpa using hnx3 hok, by simp⟩
        · have hbd : ownI x.rows x.txns[i].id_ us j = false := by rw [hoj, ho]; simpa using hah
          have hR := hbad2 hbd
          have hna : ((us.take j).any fun y => decide (y.key = us[j].key)) = !us[j].had := by
            revert hah
            cases ((us.take j).any fun y => decide (y.key = us[j].key)) <;> cases us[j].had <;> simp
          rw [hna]
          cases hhad : us[j].had <;> simp (maxSteps := 4000000) [hd0, hfr, hout, hcl, hcd, delA_none, a1, a1_n, a1_d, a1_m, a2, a2_n, a2_d, a2_m, hhad, hR]
      · simp only [Bool.not_eq_true] at hf
        have hTc : chainT r2 q2 x.rows us[j].key = .c (.own 4 []) := by simp [chainT, hf]
        have hcr : chainR x.rows us[j].key = [] := by simp [chainR, hf]
        have hR := hbad2 (by rw [hoj, hcr]; rfl)
        rw [hTc]
        simp (maxSteps := 4000000) [hd0, hfr, hout, hcl, hcd, delA_none, a1, a1_n, a1_d, a1_m, a2, a2_n, a2_d, a2_m]
        repeat (first | (refine And.intro (by kernel_rfl) ?_) | (refine And.intro (by omega) ?_))
        refine ⟨_, impl_isOpenOf_own _, ?_⟩
        simp (maxSteps := 4000000) [hd0, hfr, hout, hcl, hcd, delA_none, a1, a1_n, a1_d, a1_m, a2, a2_n, a2_d, a2_m, hR]
    · have : j = x.txns[i].undos.length := by omega
      subst this
      have hown : ownsF x.rows x.txns[i] = true := hinv2
      simp (maxSteps := 4000000) [hd0, hfr, hout, hcl, hcd, delA_none, a1, a1_n, a1_d, a1_m, a2, a2_n, a2_d, a2_m, w1]
      refine LK.intro (m - 1) [1, 183, 184, 185] [11] (by omega) (by decide) (by simp (maxSteps := 4000000) [hd0, hfr, hout, hcl, hcd, delA_none, a1, a1_n, a1_d, a1_m, a2, a2_n, a2_d, a2_m]) ⟨i + 1, by omega, by simpa using hnx2 hown, by simp⟩
  · rw [List.take_of_length_le (by omega)] at hinv
    rw [hE3, hinv]
    simp (maxSteps := 4000000) [hd0, hfr, hout, hcl, hcd, delA_none, a1, a1_n, a1_d, a1_m, a2, a2_n, a2_d, a2_m, eq_false (show ¬ (i : Int) < x.txns.length by omega)]
end Go.Proofs.Ytnlbjfdmjlnlgaa

namespace Go.Px
open Go.RowKit
set_option linter.unusedVariables false
set_option linter.unusedSimpArgs false
set_option linter.constructorNameAsVariable false

/-- A call that hands back x, leaves H', and overwrote arrays only below the root of the object r. -/
def PUpdR (P : Program) (f : FuncId) (args : List T) (H : HH) (x : T) (H' : HH) (r : Nm) : Prop := PCalls P f args H (fun T H1 lg => T = x ∧ H1 = H' ∧ ∀ e ∈ lg, e.1 = r ∧ ¬ e.2 = [])
theorem PUpd.updR {P f args H x H' r} (h : PUpd P f args H x H') : PUpdR P f args H x H' r := h.mono (by rintro T1 H1 lg ⟨rfl, rfl, rfl⟩; exact ⟨rfl, rfl, by simp⟩)
theorem PUpdR.useCK {P f args H x H' d r} {KP : St → Prop} {t' o lg0} (h : PUpdR P f args H x H' r) (hr : r.1 = d) (ho : ∀ a q, OcleanT (hit [(r, a :: q)]) t') (hk : ∀ a q, ∀ en ∈ t', en.2.keep r (a :: q) = true) (hq : KP ⟨putD t' o x, H', lg0⟩) : PCalls P f args H (CK d KP t' o lg0) :=
  h.mono (by
    rintro T1 H1 lg ⟨rfl, rfl, hlg⟩
    have hform : ∀ e ∈ lg, ∃ a q, e = (r, a :: q) := fun e he => by
      obtain ⟨h1, h2⟩ := hlg e he
      obtain ⟨e1, e2⟩ := e
      cases e2 with
      | nil => exact absurd rfl h2
      | cons a q => exact ⟨a, q, by simp at h1; rw [h1]⟩
    refine ⟨fun e he => ?_, ?_⟩
    · obtain ⟨a, q, rfl⟩ := hform e he
      exact ho a q
    · have e1 : (t'.filter fun en => keepL lg en.2) = t' := by
        rw [List.filter_eq_self]
        intro en hen
        unfold keepL
        rw [List.all_eq_true]
        intro e he
        obtain ⟨a, q, rfl⟩ := hform e he
        exact hk a q en hen
      have e2 : lg.filter (fun e => decide (e.1.1 ≠ d)) = [] := by
        rw [List.filter_eq_nil_iff]
        intro e he
        simp [(hlg e he).1, hr]
      rw [e1, e2]
      exact hq)
/-- entry, for code that is looked at by PCode -/
theorem PUpdR.of {P : Program} {f : FuncId} {fn : Func} {c : Code} {args : List T} {H H' : HH} {x : T} {r : Nm} (kv : List Nat) (hf : P.funcs[f]? = some fn) (hb : fn.body = some c) (hN : args.length ≤ fn.ntmps)
    (h : ∀ d, d ≠ 0 → (∀ n, look H (d, n) = none) → CleanH (atD d) H → outH d H = H → PCode ⟨P, d, fn.ntmps⟩ kv c { t := enumT 0 args, H := H, lg := [] } (retK P d fn.results.toList (fun T H1 lg => T = x ∧ H1 = H' ∧ ∀ e ∈ lg, e.1 = r ∧ ¬ e.2 = []))) : PUpdR P f args H x H' r := by
  refine PCalls.of_code hf hb hN (fun d hd hfr hcl => PCode.sound (h d hd (fun n => ?_) hcl ?_))
  · cases hl : look H (d, n) with
    | none => rfl
    | some c => exact absurd rfl (hfr _ (look_mem hl))
  · unfold outH
    rw [List.filter_eq_self]
    intro e he
    simpa using hfr e he
end Go.Px

namespace Go.Proofs.Ytnlbjfdmjlnlgaa
open Go Go.Px Go.RowKit Go.Proofs
set_option linter.unnecessarySimpa false
set_option linter.unusedVariables false
set_option linter.unusedSimpArgs false
set_option maxRecDepth 100000
attribute [-simp] Int.not_le Int.not_lt
def badE (c : Int) : DEngineResult := ⟨c, 0, ⟨0, 0, [], []⟩⟩
theorem spec_l6Bad (H : HH) {c : Int} : PFun Try.prog 23 [I c] H (.a (badE c).enc) := by
  refine PFun.of [0, 2] Try.func23 rfl (by simp [Try.f23]) ?_
  intro d hd0 hfr hcl hout
  have hcd : ∀ n q, CleanH (hit [((d, n), q)]) H := fun n q => hcl.at
  simp (maxSteps := 4000000) [hd0, hfr, hout, hcl, hcd, delA_none, Try.f23, badE, DEngineResult.enc]
def resF (x y : DEngine) (v c : Int) : DEngineResult := if engF x ≠ 0 then badE (engF x) else if c ≠ 0 then badE c else ⟨0, v, y⟩
set_option maxHeartbeats 2000000 in
theorem impl_changed0 (H : HH) {r1 q1 r2 q2 g v c} {x y : DEngine} (hl : x.le 1048576) (hg : tfunc Try.prog g = true)
    (hdo : engF x = 0 → ∀ (r : Nm) (H0 : HH), r.1 ≠ 0 → (∀ q, CleanH (hit [(r, q)]) H0) → PUpdR Try.prog g (T.c (.pt r [] 4 0 0) :: [].map T.c) ((r, .own 4 [x.enc]) :: H0) (.t [I v, I c]) ((r, .own 4 [y.enc]) :: H0) r)
    (a1 : arrAt H r1 q1 = some (5, x.txns.map DTxn.enc)) (a2 : arrAt H r2 q2 = some (2, x.rows.map DRow.enc)) :
    PFun Try.prog 27 [.a (eRow x r1 q1 r2 q2), .c (.fn g [])] H (.a (resF x y v c).enc) := by
  refine PFun.of [1, 2, 4, 5, 6, 7, 8, 12, 23] Try.func27 rfl (by simp [Try.f27]) ?_
  intro d hd0 hfr hcl hout
  have hcd : ∀ n q, CleanH (hit [((d, n), q)]) H := fun n q => hcl.at
  have a1_n : ∀ n, ¬ (d, n) = r1 := fun n => nm_ne (ne_of_arr hfr a1)
  have a1_d : ¬ r1.1 = d := ne_of_arr hfr a1
  have a1_m : ∀ n, ¬ r1 = (d, n) := fun n => nm_ne' (ne_of_arr hfr a1)
  have a2_n : ∀ n, ¬ (d, n) = r2 := fun n => nm_ne (ne_of_arr hfr a2)
  have a2_d : ¬ r2.1 = d := ne_of_arr hfr a2
  have a2_m : ∀ n, ¬ r2 = (d, n) := fun n => nm_ne' (ne_of_arr hfr a2)
  simp (maxSteps := 4000000) [hd0, hfr, hout, hcl, hcd, delA_none, a1, a1_n, a1_d, a1_m, a2, a2_n, a2_d, a2_m, Try.f27, eRow]
  refine (impl_EngineFault _ hl (by simp (maxSteps := 4000000) [hd0, hfr, hout, hcl, hcd, delA_none, a1, a1_n, a1_d, a1_m, a2, a2_n, a2_d, a2_m]) (by simp (maxSteps := 4000000) [hd0, hfr, hout, hcl, hcd, delA_none, a1, a1_n, a1_d, a1_m, a2, a2_n, a2_d, a2_m])).useCK ?_
  by_cases e0 : engF x = 0
  case neg => simp (maxSteps := 4000000) [hd0, hfr, hout, hcl, hcd, delA_none, a1, a1_n, a1_d, a1_m, a2, a2_n, a2_d, a2_m, eq_false e0, resF, badE, DEngineResult.enc]
  rw [e0]
  simp (maxSteps := 4000000) [hd0, hfr, hout, hcl, hcd, delA_none, a1, a1_n, a1_d, a1_m, a2, a2_n, a2_d, a2_m]
  refine (impl_Engine_copied _ (r1 := r1) (q1 := q1) (r2 := r2) (q2 := q2) hl (by simp (maxSteps := 4000000) [hd0, hfr, hout, hcl, hcd, delA_none, a1, a1_n, a1_d, a1_m, a2, a2_n, a2_d, a2_m]) (by simp (maxSteps := 4000000) [hd0, hfr, hout, hcl, hcd, delA_none, a1, a1_n, a1_d, a1_m, a2, a2_n, a2_d, a2_m])).useCK ?_
  have hF : resF x y v c = if c ≠ 0 then badE c else ⟨0, v, y⟩ := by unfold resF; rw [if_neg (by simp [e0])]
  generalize resF x y v c = R at *
  have hdo' := hdo e0 (d, 6)
  simp only [DEngine.enc, List.map_cons, List.map_nil] at hdo'
  clear hdo
  simp (maxSteps := 4000000) [hd0, hfr, hout, hcl, hcd, delA_none, a1, a1_n, a1_d, a1_m, a2, a2_n, a2_d, a2_m, DEngine.enc, hg]
  refine (hdo' _ hd0 (fun q => by simp (maxSteps := 4000000) [hd0, hfr, hout, hcl, hcd, delA_none, a1, a1_n, a1_d, a1_m, a2, a2_n, a2_d, a2_m])).useCK rfl (by intro a q; simp (maxSteps := 4000000) [hd0, hfr, hout, hcl, hcd, delA_none, a1, a1_n, a1_d, a1_m, a2, a2_n, a2_d, a2_m]) (by intro a q; simp (maxSteps := 4000000) [hd0, hfr, hout, hcl, hcd, delA_none, a1, a1_n, a1_d, a1_m, a2, a2_n, a2_d, a2_m, T.keep, keepC2, keepC]) ?_
  by_cases hc : c = 0
  · rw [if_neg (by simp [hc])] at hF
    simp (maxSteps := 4000000) [hd0, hfr, hout, hcl, hcd, delA_none, a1, a1_n, a1_d, a1_m, a2, a2_n, a2_d, a2_m, hc, hF, DEngineResult.enc]
  · rw [if_pos hc] at hF
    simp (maxSteps := 4000000) [hd0, hfr, hout, hcl, hcd, delA_none, a1, a1_n, a1_d, a1_m, a2, a2_n, a2_d, a2_m, eq_false hc, hF, badE, DEngineResult.enc]
set_option maxHeartbeats 2000000 in
theorem impl_changed1 (H : HH) {r1 q1 r2 q2 g v c rc id} {x y : DEngine} (hl : x.le 1048576) (hg : tfunc Try.prog g = true)
    (hdo : engF x = 0 → ∀ (r : Nm) (H0 : HH), r.1 ≠ 0 → (∀ q, CleanH (hit [(r, q)]) H0) → arrAt H0 rc [] = some (1, [[.v (.int .i64 id)]]) → ¬ rc = r → PUpdR Try.prog g (T.c (.pt r [] 4 0 0) :: [.pt rc [] 1 0 0].map T.c) ((r, .own 4 [x.enc]) :: H0) (.t [I v, I c]) ((r, .own 4 [y.enc]) :: H0) r)
    (a1 : arrAt H r1 q1 = some (5, x.txns.map DTxn.enc)) (a2 : arrAt H r2 q2 = some (2, x.rows.map DRow.enc)) (ac : arrAt H rc [] = some (1, [[.v (.int .i64 id)]])) :
    PFun Try.prog 27 [.a (eRow x r1 q1 r2 q2), .c (.fn g [.pt rc [] 1 0 0])] H (.a (resF x y v c).enc) := by
  refine PFun.of [1, 2, 4, 5, 6, 7, 8, 12, 23] Try.func27 rfl (by simp [Try.f27]) ?_
  intro d hd0 hfr hcl hout
  have hcd : ∀ n q, CleanH (hit [((d, n), q)]) H := fun n q => hcl.at
  have a1_n : ∀ n, ¬ (d, n) = r1 := fun n => nm_ne (ne_of_arr hfr a1)
  have a1_d : ¬ r1.1 = d := ne_of_arr hfr a1
  have a1_m : ∀ n, ¬ r1 = (d, n) := fun n => nm_ne' (ne_of_arr hfr a1)
  have a2_n : ∀ n, ¬ (d, n) = r2 := fun n => nm_ne (ne_of_arr hfr a2)
  have a2_d : ¬ r2.1 = d := ne_of_arr hfr a2
  have a2_m : ∀ n, ¬ r2 = (d, n) := fun n => nm_ne' (ne_of_arr hfr a2)
  have ac_n : ∀ n, ¬ (d, n) = rc := fun n => nm_ne (ne_of_arr hfr ac)
  have ac_d : ¬ rc.1 = d := ne_of_arr hfr ac
  have ac_m : ∀ n, ¬ rc = (d, n) := fun n => nm_ne' (ne_of_arr hfr ac)
  simp (maxSteps := 4000000) [hd0, hfr, hout, hcl, hcd, delA_none, a1, a1_n, a1_d, a1_m, a2, a2_n, a2_d, a2_m, ac, ac_n, ac_d, ac_m, Try.f27, eRow]
  refine (impl_EngineFault _ hl (by simp (maxSteps := 4000000) [hd0, hfr, hout, hcl, hcd, delA_none, a1, a1_n, a1_d, a1_m, a2, a2_n, a2_d, a2_m, ac, ac_n, ac_d, ac_m]) (by simp (maxSteps := 4000000) [hd0, hfr, hout, hcl, hcd, delA_none, a1, a1_n, a1_d, a1_m, a2, a2_n, a2_d, a2_m, ac, ac_n, ac_d, ac_m])).useCK ?_
  by_cases e0 : engF x = 0
  case neg => simp (maxSteps := 4000000) [hd0, hfr, hout, hcl, hcd, delA_none, a1, a1_n, a1_d, a1_m, a2, a2_n, a2_d, a2_m, ac, ac_n, ac_d, ac_m, eq_false e0, resF, badE, DEngineResult.enc]
  rw [e0]
  simp (maxSteps := 4000000) [hd0, hfr, hout, hcl, hcd, delA_none, a1, a1_n, a1_d, a1_m, a2, a2_n, a2_d, a2_m, ac, ac_n, ac_d, ac_m]
  refine (impl_Engine_copied _ (r1 := r1) (q1 := q1) (r2 := r2) (q2 := q2) hl (by simp (maxSteps := 4000000) [hd0, hfr, hout, hcl, hcd, delA_none, a1, a1_n, a1_d, a1_m, a2, a2_n, a2_d, a2_m, ac, ac_n, ac_d, ac_m]) (by simp (maxSteps := 4000000) [hd0, hfr, hout, hcl, hcd, delA_none, a1, a1_n, a1_d, a1_m, a2, a2_n, a2_d, a2_m, ac, ac_n, ac_d, ac_m])).useCK ?_
  have hF : resF x y v c = if c ≠ 0 then badE c else ⟨0, v, y⟩ := by unfold resF; rw [if_neg (by simp [e0])]
  generalize resF x y v c = R at *
  have hdo' := hdo e0 (d, 6)
  simp only [DEngine.enc, List.map_cons, List.map_nil] at hdo'
  clear hdo
  simp (maxSteps := 4000000) [hd0, hfr, hout, hcl, hcd, delA_none, a1, a1_n, a1_d, a1_m, a2, a2_n, a2_d, a2_m, ac, ac_n, ac_d, ac_m, DEngine.enc, hg]
  refine ⟨rfl, ?_⟩
  refine (hdo' _ hd0 (fun q => by simp (maxSteps := 4000000) [hd0, hfr, hout, hcl, hcd, delA_none, a1, a1_n, a1_d, a1_m, a2, a2_n, a2_d, a2_m, ac, ac_n, ac_d, ac_m]) (by simp (maxSteps := 4000000) [hd0, hfr, hout, hcl, hcd, delA_none, a1, a1_n, a1_d, a1_m, a2, a2_n, a2_d, a2_m, ac, ac_n, ac_d, ac_m]) (by simp (maxSteps := 4000000) [hd0, hfr, hout, hcl, hcd, delA_none, a1, a1_n, a1_d, a1_m, a2, a2_n, a2_d, a2_m, ac, ac_n, ac_d, ac_m])).useCK rfl (by intro a q; simp (maxSteps := 4000000) [hd0, hfr, hout, hcl, hcd, delA_none, a1, a1_n, a1_d, a1_m, a2, a2_n, a2_d, a2_m, ac, ac_n, ac_d, ac_m]) (by intro a q; simp (maxSteps := 4000000) [hd0, hfr, hout, hcl, hcd, delA_none, a1, a1_n, a1_d, a1_m, a2, a2_n, a2_d, a2_m, ac, ac_n, ac_d, ac_m, T.keep, keepC2, keepC]) ?_
  by_cases hc : c = 0
  · rw [if_neg (by simp [hc])] at hF
    simp (maxSteps := 4000000) [hd0, hfr, hout, hcl, hcd, delA_none, a1, a1_n, a1_d, a1_m, a2, a2_n, a2_d, a2_m, ac, ac_n, ac_d, ac_m, hc, hF, DEngineResult.enc]
  · rw [if_pos hc] at hF
    simp (maxSteps := 4000000) [hd0, hfr, hout, hcl, hcd, delA_none, a1, a1_n, a1_d, a1_m, a2, a2_n, a2_d, a2_m, ac, ac_n, ac_d, ac_m, eq_false hc, hF, badE, DEngineResult.enc]
end Go.Proofs.Ytnlbjfdmjlnlgaa

namespace Go.Proofs.Ytnlbjfdmjlnlgaa
open Go Go.Px Go.RowKit Go.Proofs
set_option linter.unnecessarySimpa false
set_option linter.unusedVariables false
set_option linter.unusedSimpArgs false
set_option maxRecDepth 100000
attribute [-simp] Int.not_le Int.not_lt
theorem ixF_idxF {α : Type} {p : α → Bool} : ∀ {l : List α} {n : Nat}, ixF p n l = if idxF p l < 0 then -1 else idxF p l + n
  | [], n => by simp [ixF, idxF]
  | a :: l, n => by
    have := ixF_idxF (p := p) (l := l) (n := n + 1)
    have hg := idxF_ge (P := p) (l := l)
    simp only [ixF, idxF]
    by_cases h : p a = true
    · simp [h]
    · simp only [h, if_false]
      rw [this]
      by_cases h2 : idxF p l < 0
      · simp [h2]
      · simp only [h2, if_false, if_neg (show ¬ idxF p l + 1 < 0 by omega)]
        simp; omega
theorem ix0 {α : Type} {p : α → Bool} {l : List α} : idxF p l = ixF p 0 l := by
  have := ixF_idxF (p := p) (l := l) (n := 0)
  have hg := idxF_ge (P := p) (l := l)
  rw [this]; split <;> omega
theorem impl_Engine_txn_1 (H : HH) {r q r1 q1 n} {t : DTxn} {k : Int} (ha : arrAt H r q = some (1, [[.v (.int .i64 k)]])) : PFun Try.prog 63 [.a [.v (.int .i64 t.id_), .v (.int .i64 t.at_), .v (.int .i64 t.state), .v (.int .i64 t.done), .sl r1 q1 4 0 n], .c (.pt r q 1 0 0)] H (B (decide (t.id_ = k))) := by
  refine PFun.of [1, 2, 3] Try.func63 rfl (by simp [Try.f63]) ?_
  intro d hd0 hfr hcl hout
  have hcd : ∀ n q, CleanH (hit [((d, n), q)]) H := fun n q => hcl.at
  have ha_n : ∀ n, ¬ (d, n) = r := fun n => nm_ne (ne_of_arr hfr ha)
  have ha_d : ¬ r.1 = d := ne_of_arr hfr ha
  have ha_m : ∀ n, ¬ r = (d, n) := fun n => nm_ne' (ne_of_arr hfr ha)
  simp (maxSteps := 4000000) [hd0, hfr, hout, hcl, hcd, delA_none, ha, ha_n, ha_d, ha_m, Try.f63]
theorem txns_at {H : HH} {r : Nm} {x : DEngine} : arrAt ((r, .own 4 [x.enc]) :: H) r [(0, 2)] = some (5, x.txns.map DTxn.enc) := by simp [DEngine.enc]
theorem rows_at {H : HH} {r : Nm} {x : DEngine} : arrAt ((r, .own 4 [x.enc]) :: H) r [(0, 3)] = some (2, x.rows.map DRow.enc) := by simp [DEngine.enc]
theorem impl_Engine_txn (H : HH) {r R} {x : DEngine} {id : Int} (hl : x.le 1048576) (hr0 : r.1 ≠ 0) (hrc : ∀ q, CleanH (hit [(r, q)]) H)
    (hn : (∀ t ∈ x.txns, t.id_ ≠ id) → R = .t [.c (.v (.pointer none)), I 4])
    (hs : ∀ i (hi : i < x.txns.length), ixF (fun t : DTxn => decide (t.id_ = id)) 0 x.txns = i → x.txns[i].id_ = id → R = if x.txns[i].state = 1 then .t [.c (.pt r [(0, 2)] 5 i 0), I 0] else .t [.c (.v (.pointer none)), I 10]) :
    PFun Try.prog 37 [.c (.pt r [] 4 0 0), I id] ((r, .own 4 [x.enc]) :: H) R := by
  have hC : ∀ d, ¬ r = (d, 3) → PFun Try.prog 62 [.c (.sl r [(0, 2)] 5 0 x.txns.length), .c (.fn 63 [.pt (d, 3) [] 1 0 0])] (((d, 3), .own 1 [[.v (.int .i64 id)]]) :: (r, .own 4 [x.enc]) :: H) (I (ixF (fun t : DTxn => decide (t.id_ = id)) 0 x.txns)) := fun d hd => by
    have h2 : arrAt (((d, 3), .own 1 [[.v (.int .i64 id)]]) :: (r, .own 4 [x.enc]) :: H) r [(0, 2)] = some (5, x.txns.map DTxn.enc) := by simp [DEngine.enc, show ¬ (d, 3) = r from fun e => hd e.symm]
    have h1 : arrAt (((d, 3), .own 1 [[.v (.int .i64 id)]]) :: (r, .own 4 [x.enc]) :: H) (d, 3) [] = some (1, [[.v (.int .i64 id)]]) := by simp
    have := slices_IndexFunc_Txn _ (P := fun t => decide (t.id_ = id)) (g := 63) (caps := [.pt (d, 3) [] 1 0 0]) hl.1.1 (Nat.le_refl _) h2 (by simp [isRef]) (by simp) (fun i hi => impl_Engine_txn_1 _ h1)
    rw [ix0] at this
    simpa using this
  refine PFun.of [0, 3, 4, 5, 6, 13, 16] Try.func37 rfl (by simp [Try.f37]) ?_
  intro d hd0 hfr0 hcl0 hout0
  have hrn : ∀ n, ¬ r = (d, n) := fun n h => by have := hfr0 n; rw [look_cons, if_pos h] at this; cases this
  have hrm : ∀ n, ¬ (d, n) = r := fun n h => hrn n h.symm
  have hrd : ¬ r.1 = d := fun h => hrn r.2 (by rw [← h])
  have hfr : ∀ n, Px.look H (d, n) = none := fun n => by have := hfr0 n; rwa [look_cons, if_neg (hrn n)] at this
  have hcl : CleanH (atD d) H := ((CleanH_cons _ _ _ _).1 hcl0).2
  have hout : outH d H = H := by have := hout0; rw [outH_cons, if_neg hrd] at this; exact (List.cons.inj this).2
  have hcd : ∀ n q, CleanH (hit [((d, n), q)]) H := fun n q => hcl.at
  clear hfr0 hcl0 hout0
  simp (maxSteps := 4000000) [hd0, hfr, hout, hcl, hcd, delA_none, hrn, hrm, hrd, hr0, hrc, Try.f37, DEngine.enc]
  have hC := hC d
  simp only [DEngine.enc] at hC
  refine (hC (hrn 3)).useCK ?_
  rcases ixF_some (p := fun t : DTxn => decide (t.id_ = id)) (l := x.txns) (n := 0) with ⟨h2, h3⟩ | ⟨i, hi, h2, h3⟩
  · have hR := hn (fun t ht => by simpa using h3 t ht)
    rw [h2]
    simp (maxSteps := 4000000) [hd0, hfr, hout, hcl, hcd, delA_none, hrn, hrm, hrd, hr0, hrc, hR]
  · have h2' : ixF (fun t : DTxn => decide (t.id_ = id)) 0 x.txns = i := by rw [h2]; omega
    have hR := hs i hi h2' (by simpa using h3)
    rw [h2']
    by_cases h5 : x.txns[i].state = 1
    · rw [if_pos h5] at hR
      simp (maxSteps := 4000000) [hd0, hfr, hout, hcl, hcd, delA_none, hrn, hrm, hrd, hr0, hrc, eq_false (show ¬ (i : Int) < 0 by omega), hi, DTxn.enc, h5, hR]
    · rw [if_neg h5] at hR
      simp (maxSteps := 4000000) [hd0, hfr, hout, hcl, hcd, delA_none, hrn, hrm, hrd, hr0, hrc, eq_false (show ¬ (i : Int) < 0 by omega), hi, DTxn.enc, h5, hR]
def setAt0 (l : List DVersion) (c : Int) : List DVersion := match l with | [] => [] | v :: l => { v with at_ := c } :: l
def comRow (id c : Int) (r : DRow) : DRow := if openF r.chain id = true then { r with chain := setAt0 r.chain c } else r
def comF (x : DEngine) (ix : Nat) (t : DTxn) : DEngine :=
  if t.undos.length = 0 then { x with txns := x.txns.set ix { t with state := 2, undos := [] } }
  else { x with clock := x.clock + 1, txns := x.txns.set ix { t with state := 2, done := x.clock + 1, undos := [] }, rows := x.rows.map (comRow t.id_ (x.clock + 1)) }
def comC (x : DEngine) (id : Int) : Int := match x.txns.find? (fun t => decide (t.id_ = id)) with
  | none => 4
  | some t => if t.state ≠ 1 then 10 else if t.undos.length ≠ 0 ∧ x.clock = 1000000 then 3 else 0
end Go.Proofs.Ytnlbjfdmjlnlgaa

namespace Go.Proofs.Ytnlbjfdmjlnlgaa
open Go Go.Px Go.RowKit Go.Proofs
set_option linter.unnecessarySimpa false
set_option linter.unusedVariables false
set_option linter.unusedSimpArgs false
set_option maxRecDepth 100000
attribute [-simp] Int.not_le Int.not_lt
def stepL {α : Type} (f : α → α) (l : List α) (i : Nat) : List α := (l.take i).map f ++ l.drop i
theorem stepL_len {α : Type} {f : α → α} {l : List α} {i : Nat} : (stepL f l i).length = l.length := by simp [stepL]; omega
theorem stepL_get {α : Type} {f : α → α} {l : List α} {i : Nat} (h : i < l.length) : (stepL f l i)[i]? = some l[i] := by
  unfold stepL
  rw [List.getElem?_append_right (by simp; omega)]
  simp [Nat.min_eq_left (Nat.le_of_lt h), h]
theorem stepL_succ {α : Type} {f : α → α} {l : List α} {i : Nat} (h : i < l.length) : stepL f l (i + 1) = (stepL f l i).set i (f l[i]) := by
  unfold stepL
  rw [List.take_succ_eq_append_getElem h, List.set_append_right _ _ (by simp; omega), List.drop_eq_getElem_cons h]
  simp only [List.length_map, List.length_take, Nat.min_eq_left (Nat.le_of_lt h), Nat.sub_self, List.set_cons_zero, List.map_append, List.map_cons, List.map_nil, List.append_assoc, List.cons_append, List.nil_append]
theorem stepL_zero {α : Type} {f : α → α} {l : List α} : stepL f l 0 = l := by simp [stepL]
theorem stepL_full {α : Type} {f : α → α} {l : List α} {i : Nat} (h : l.length ≤ i) : stepL f l i = l.map f := by simp [stepL, List.take_of_length_le h, List.drop_eq_nil_of_le h]
def comR (x : DEngine) (id : Int) : Int × Int × DEngine :=
  let i := ixF (fun t : DTxn => decide (t.id_ = id)) 0 x.txns
  if i < 0 then (0, 4, x) else
    let t := x.txns.getD i.toNat ⟨0, 0, 0, 0, []⟩
    if t.state ≠ 1 then (0, 10, x) else if t.undos.length ≠ 0 ∧ x.clock = 1000000 then (0, 3, x) else (if t.undos.length = 0 then t.done else x.clock + 1, 0, comF x i.toNat t)
theorem comR_none {x : DEngine} {id : Int} (h : ∀ t ∈ x.txns, t.id_ ≠ id) : comR x id = (0, 4, x) := by
  unfold comR
  rw [ixF_none (fun t ht => by simpa using h t ht)]
  simp
theorem comR_some {x : DEngine} {id : Int} {i : Nat} (hi : i < x.txns.length) (h : ixF (fun t : DTxn => decide (t.id_ = id)) 0 x.txns = i) : comR x id = if x.txns[i].state ≠ 1 then (0, 10, x) else if x.txns[i].undos.length ≠ 0 ∧ x.clock = 1000000 then (0, 3, x) else (if x.txns[i].undos.length = 0 then x.txns[i].done else x.clock + 1, 0, comF x i x.txns[i]) := by
  unfold comR
  simp only [h]
  rw [if_neg (by omega)]
  simp only [Int.toNat_natCast, List.getD_eq_getElem?_getD, List.getElem?_eq_getElem hi, Option.getD_some]
theorem tri {a b v c : Int} {x y : DEngine} (h : (a, b, x) = (v, c, y)) : v = a ∧ c = b ∧ x = y := by cases h; exact ⟨rfl, rfl, rfl⟩
set_option maxHeartbeats 4000000 in
theorem impl_CommitTxn_1 (H : HH) {r rc v c y} {x : DEngine} {id : Int} (hl : x.le 1048576) (hx : 0 ≤ x.clock ∧ x.clock ≤ 1000000) (hR : comR x id = (v, c, y)) (hr0 : r.1 ≠ 0) (hrc : ∀ q, CleanH (hit [(r, q)]) H) (ac : arrAt H rc [] = some (1, [[.v (.int .i64 id)]])) (hne : ¬ rc = r) :
    PUpdR Try.prog 36 [.c (.pt r [] 4 0 0), .c (.pt rc [] 1 0 0)] ((r, .own 4 [x.enc]) :: H) (.t [I v, I c]) ((r, .own 4 [y.enc]) :: H) r := by
  have hl2 := hl
  obtain ⟨⟨b1, b1p⟩, b2, b2p⟩ := hl2
  have hT := fun R => impl_Engine_txn H (R := R) (x := x) (r := r) (id := id) hl hr0 hrc
  have hne' : ¬ r = rc := fun e => hne e.symm
  refine PUpdR.of [0, 1, 3, 4, 5, 6, 7, 14, 18, 37, 56, 57, 58, 69] Try.func36 rfl (by simp [Try.f36]) ?_
  intro d hd0 hfr0 hcl0 hout0
  have hrn : ∀ n, ¬ r = (d, n) := fun n h => by have := hfr0 n; rw [look_cons, if_pos h] at this; cases this
  have hrm : ∀ n, ¬ (d, n) = r := fun n h => hrn n h.symm
  have hrd : ¬ r.1 = d := fun h => hrn r.2 (by rw [← h])
  have hfr : ∀ n, Px.look H (d, n) = none := fun n => by have := hfr0 n; rwa [look_cons, if_neg (hrn n)] at this
  have hcl : CleanH (atD d) H := ((CleanH_cons _ _ _ _).1 hcl0).2
  have hout : outH d H = H := by have := hout0; rw [outH_cons, if_neg hrd] at this; exact (List.cons.inj this).2
  have hcd : ∀ n q, CleanH (hit [((d, n), q)]) H := fun n q => hcl.at
  clear hfr0 hcl0 hout0
  have ac_n : ∀ n, ¬ (d, n) = rc := fun n => nm_ne (ne_of_arr hfr ac)
  have ac_d : ¬ rc.1 = d := ne_of_arr hfr ac
  have ac_m : ∀ n, ¬ rc = (d, n) := fun n => nm_ne' (ne_of_arr hfr ac)
  simp (maxSteps := 4000000) [hd0, hfr, hout, hcl, hcd, delA_none, ac, ac_n, ac_d, ac_m, hrn, hrm, hrd, hr0, hrc, Try.f36, DEngine.enc, hne']
  simp only [DEngine.enc] at hT
  rcases ixF_some (p := fun t : DTxn => decide (t.id_ = id)) (l := x.txns) (n := 0) with ⟨h2, h3⟩ | ⟨i, hi, h2, h3⟩
  · have h3' : ∀ t ∈ x.txns, t.id_ ≠ id := fun t ht => by simpa using h3 t ht
    rw [comR_none h3'] at hR
    obtain ⟨rfl, rfl, rfl⟩ := tri hR
    refine (hT (.t [.c (.v (.pointer none)), I 4]) (fun _ => rfl) (fun i hi h _ => by rw [h2] at h; omega)).useCK ?_
    simp (maxSteps := 4000000) [hd0, hfr, hout, hcl, hcd, delA_none, ac, ac_n, ac_d, ac_m, hrn, hrm, hrd, hr0, hrc, DEngine.enc]
  have h2' : ixF (fun t : DTxn => decide (t.id_ = id)) 0 x.txns = i := by rw [h2]; omega
  rw [comR_some hi h2'] at hR
  have hid : x.txns[i].id_ = id := by simpa using h3
  by_cases h5 : x.txns[i].state = 1
  case neg =>
    rw [if_pos h5] at hR
    obtain ⟨rfl, rfl, rfl⟩ := tri hR
    refine (hT (.t [.c (.v (.pointer none)), I 10]) (fun h => absurd hid (h _ (List.getElem_mem hi))) (fun j hj h _ => by rw [h2'] at h; have : i = j := (by omega); subst this; rw [if_neg h5])).useCK ?_
    simp (maxSteps := 4000000) [hd0, hfr, hout, hcl, hcd, delA_none, ac, ac_n, ac_d, ac_m, hrn, hrm, hrd, hr0, hrc, DEngine.enc]
  rw [if_neg (by simp [h5])] at hR
  refine (hT (.t [.c (.pt r [(0, 2)] 5 i 0), I 0]) (fun h => absurd hid (h _ (List.getElem_mem hi))) (fun j hj h _ => by rw [h2'] at h; have : i = j := (by omega); subst this; rw [if_pos h5])).useCK ?_
  by_cases e1 : x.txns[i].undos.length = 0
  · rw [if_neg (by simp [e1]), if_pos e1] at hR
    obtain ⟨rfl, rfl, rfl⟩ := tri hR
    have e1' : x.txns[i].undos = [] := List.eq_nil_of_length_eq_zero e1
    simp (maxSteps := 4000000) [hd0, hfr, hout, hcl, hcd, delA_none, ac, ac_n, ac_d, ac_m, hrn, hrm, hrd, hr0, hrc, hi, DTxn.enc, e1']
    simp only [comF, if_pos e1]
    exact ⟨trivial, trivial, by rw [List.map_set]; simp [DTxn.enc], trivial⟩
  by_cases e2 : x.clock = 1000000
  · rw [if_pos ⟨e1, e2⟩] at hR
    obtain ⟨rfl, rfl, rfl⟩ := tri hR
    simp (maxSteps := 4000000) [hd0, hfr, hout, hcl, hcd, delA_none, ac, ac_n, ac_d, ac_m, hrn, hrm, hrd, hr0, hrc, hi, DTxn.enc, e2, eq_true (show (0 : Int) < (x.txns[i].undos.length : Int) by omega), eq_true (show 0 < x.txns[i].undos.length by omega), DEngine.enc]
  rw [if_neg (by simp [e2]), if_neg e1] at hR
  obtain ⟨rfl, rfl, rfl⟩ := tri hR
  clear hR hT
  have w1 : IntKind.i64.wrap (x.clock + 1) = x.clock + 1 := w64 (by omega) (by omega)
  have hcm : comF x i x.txns[i] = { x with clock := x.clock + 1, txns := x.txns.set i { x.txns[i] with state := 2, done := x.clock + 1, undos := [] }, rows := x.rows.map (comRow x.txns[i].id_ (x.clock + 1)) } := by unfold comF; rw [if_neg e1]
  rw [hcm, hid]
  clear hcm
  have hte : (x.txns.map DTxn.enc).set i [.v (.int .i64 x.txns[i].id_), .v (.int .i64 x.txns[i].at_), .v (.int .i64 x.txns[i].state), .v (.int .i64 (x.clock + 1)), .own 4 (x.txns[i].undos.map DUndo.enc)] = (x.txns.set i { x.txns[i] with done := x.clock + 1 }).map DTxn.enc := by rw [List.map_set]; simp [DTxn.enc]
  simp (maxSteps := 4000000) [hd0, hfr, hout, hcl, hcd, delA_none, ac, ac_n, ac_d, ac_m, hrn, hrm, hrd, hr0, hrc, hi, DTxn.enc, eq_false e2, w1, eq_true (show (0 : Int) < (x.txns[i].undos.length : Int) by omega), eq_true (show 0 < x.txns[i].undos.length by omega), DEngine.enc]
  refine LoopK.intro (fun m s => ∃ j : Nat, j + m = x.rows.length ∧ s = ⟨[(0, .c (.pt r [] 4 0 0)), (1, .c (.pt rc [] 1 0 0)), (5, .c (.pt r [(0, 2)] 5 i 0)), (56, I x.rows.length), (57, I j)],
      (r, .own 4 [[.v (.int .i64 x.next), .v (.int .i64 (x.clock + 1)), .own 5 ((x.txns.map DTxn.enc).set i [.v (.int .i64 x.txns[i].id_), .v (.int .i64 x.txns[i].at_), .v (.int .i64 x.txns[i].state), .v (.int .i64 (x.clock + 1)), .own 4 (x.txns[i].undos.map DUndo.enc)]),
        .own 2 ((stepL (comRow id (x.clock + 1)) x.rows j).map DRow.enc)]]) :: H, []⟩) (x.rows.length + 1)
    (LK.intro x.rows.length [0, 1, 5, 56, 57] [] (by omega) (by decide) (by simp (maxSteps := 4000000) [hd0, hfr, hout, hcl, hcd, delA_none, ac, ac_n, ac_d, ac_m, hrn, hrm, hrd, hr0, hrc]) ⟨0, by simp [stepL_zero]⟩) ?_
  rintro m s ⟨j, hjm, rfl⟩
  by_cases hj' : j < x.rows.length
  case neg =>
    rw [stepL_full (by omega)]
    simp (maxSteps := 4000000) [hd0, hfr, hout, hcl, hcd, delA_none, ac, ac_n, ac_d, ac_m, hrn, hrm, hrd, hr0, hrc, eq_false (show ¬ (j : Int) < (x.rows.length : Int) by omega), hi, DTxn.enc]
  have w2 : IntKind.i64.wrap ((j : Int) + 1) = j + 1 := w64 (by omega) (by omega)
  have hLs := stepL_succ (f := comRow id (x.clock + 1)) hj'
  have hLl : (stepL (comRow id (x.clock + 1)) x.rows j).length = x.rows.length := stepL_len
  have hLg := stepL_get (f := comRow id (x.clock + 1)) hj'
  generalize stepL (comRow id (x.clock + 1)) x.rows j = L at *
  have hjL : j < L.length := by omega
  have hLj : L[j] = x.rows[j] := by rw [List.getElem?_eq_getElem hjL] at hLg; exact Option.some.inj hLg
  have hbc : x.rows[j].chain.length ≤ 1048576 := b2p _ (List.getElem_mem hj')
  simp (maxSteps := 4000000) [hd0, hfr, hout, hcl, hcd, delA_none, ac, ac_n, ac_d, ac_m, hrn, hrm, hrd, hr0, hrc, eq_true (show (j : Int) < (x.rows.length : Int) by omega)]
  refine DrawK.intro 10 [0, 1, 5, 7, 56, 57, 69] rfl (by kernel_rfl) (by decide) ?_
  simp (maxSteps := 4000000) [hd0, hfr, hout, hcl, hcd, delA_none, ac, ac_n, ac_d, ac_m, hrn, hrm, hrd, hr0, hrc, hjL, hLj, DRow.enc, hne']
  refine ⟨_, impl_isOpenOf _ (l := x.rows[j].chain) (by simp (maxSteps := 4000000) [hd0, hfr, hout, hcl, hcd, delA_none, ac, ac_n, ac_d, ac_m, hrn, hrm, hrd, hr0, hrc, hjL, hLj, DRow.enc]), ?_⟩
  cases ho : openF x.rows[j].chain id
  · have hc : comRow id (x.clock + 1) x.rows[j] = L[j] := by unfold comRow; rw [if_neg (by simp [ho]), hLj]
    rw [hc, List.set_getElem_self] at hLs
    simp (maxSteps := 4000000) [hd0, hfr, hout, hcl, hcd, delA_none, ac, ac_n, ac_d, ac_m, hrn, hrm, hrd, hr0, hrc, w2]
    refine LK.intro (m - 1) [0, 1, 5, 56, 57] [] (by omega) (by decide) (by simp (maxSteps := 4000000) [hd0, hfr, hout, hcl, hcd, delA_none, ac, ac_n, ac_d, ac_m, hrn, hrm, hrd, hr0, hrc]) ⟨j + 1, by omega, by simp [hLs]⟩
  obtain ⟨v0, rest, hcf⟩ : ∃ v0 rest, x.rows[j].chain = v0 :: rest := by
    cases hc : x.rows[j].chain with
    | nil => rw [hc] at ho; simp [openF] at ho
    | cons a l => exact ⟨a, l, rfl⟩
  have hc : comRow id (x.clock + 1) x.rows[j] = ⟨x.rows[j].key, { v0 with at_ := x.clock + 1 } :: rest⟩ := by unfold comRow; rw [if_pos ho, hcf]; rfl
  rw [hc] at hLs
  simp (maxSteps := 4000000) [hd0, hfr, hout, hcl, hcd, delA_none, ac, ac_n, ac_d, ac_m, hrn, hrm, hrd, hr0, hrc]
  refine DrawK.intro 14 [0, 1, 5, 56, 57, 81, 83] rfl (by kernel_rfl) (by decide) ?_
  simp (maxSteps := 4000000) [hd0, hfr, hout, hcl, hcd, delA_none, ac, ac_n, ac_d, ac_m, hrn, hrm, hrd, hr0, hrc, hjL, hLj, DRow.enc, hcf, DVersion.enc, w2]
  refine LK.intro (m - 1) [0, 1, 5, 56, 57] [] (by omega) (by decide) (by simp (maxSteps := 4000000) [hd0, hfr, hout, hcl, hcd, delA_none, ac, ac_n, ac_d, ac_m, hrn, hrm, hrd, hr0, hrc]) ⟨j + 1, by omega, by simp [hLs, List.map_set, DRow.enc, DVersion.enc]⟩
end Go.Proofs.Ytnlbjfdmjlnlgaa

namespace Go.Proofs.Ytnlbjfdmjlnlgaa
open Go Go.Px Go.RowKit Go.Proofs
set_option linter.unnecessarySimpa false
set_option linter.unusedVariables false
set_option linter.unusedSimpArgs false
set_option maxRecDepth 100000
attribute [-simp] Int.not_le Int.not_lt
def commitR (x : DEngine) (id : Int) : DEngineResult := resF x (comR x id).2.2 (comR x id).1 (comR x id).2.1
theorem engF_clock {x : DEngine} (h : engF x = 0) : (1 ≤ x.next ∧ x.next ≤ 999) ∧ 0 ≤ x.clock ∧ x.clock ≤ 1000000 := by
  unfold engF at h
  split at h
  · omega
  · rename_i h1
    simp only [Bool.or_eq_true, Bool.not_eq_true', not_or, Bool.not_eq_false, inR, Bool.and_eq_true, decide_eq_true_eq] at h1
    omega
theorem engF_txns {x : DEngine} (h : engF x = 0) : txsF x.next x.clock none x.txns = 0 := by
  unfold engF at h
  split at h
  · omega
  · split at h
    · omega
    · split at h
      · rename_i h1; exact absurd h h1
      · rename_i h1; simpa using h1
set_option maxHeartbeats 2000000 in
theorem impl_CommitTxn (H : HH) {r1 q1 r2 q2} {x : DEngine} {id : Int} (hl : x.le 1048576) (a1 : arrAt H r1 q1 = some (5, x.txns.map DTxn.enc)) (a2 : arrAt H r2 q2 = some (2, x.rows.map DRow.enc)) :
    PFun Try.prog 16 [.a (eRow x r1 q1 r2 q2), I id] H (.a (commitR x id).enc) := by
  have hC : ∀ H' rc, arrAt H' r1 q1 = some (5, x.txns.map DTxn.enc) → arrAt H' r2 q2 = some (2, x.rows.map DRow.enc) → arrAt H' rc [] = some (1, [[.v (.int .i64 id)]]) →
      PFun Try.prog 27 [.a (eRow x r1 q1 r2 q2), .c (.fn 36 [.pt rc [] 1 0 0])] H' (.a (commitR x id).enc) := fun H' rc h1 h2 h3 =>
    impl_changed1 H' (g := 36) (v := (comR x id).1) (c := (comR x id).2.1) (y := (comR x id).2.2) (x := x) hl (by simp) (fun e0 r H0 hr0 hrc ac hne => impl_CommitTxn_1 H0 hl (engF_clock e0).2 rfl hr0 hrc ac hne) h1 h2 h3
  generalize commitR x id = R at *
  simp only [eRow] at hC
  refine PFun.of [2, 3, 4] Try.func16 rfl (by simp [Try.f16]) ?_
  intro d hd0 hfr hcl hout
  have hcd : ∀ n q, CleanH (hit [((d, n), q)]) H := fun n q => hcl.at
  have a1_n : ∀ n, ¬ (d, n) = r1 := fun n => nm_ne (ne_of_arr hfr a1)
  have a1_d : ¬ r1.1 = d := ne_of_arr hfr a1
  have a1_m : ∀ n, ¬ r1 = (d, n) := fun n => nm_ne' (ne_of_arr hfr a1)
  have a2_n : ∀ n, ¬ (d, n) = r2 := fun n => nm_ne (ne_of_arr hfr a2)
  have a2_d : ¬ r2.1 = d := ne_of_arr hfr a2
  have a2_m : ∀ n, ¬ r2 = (d, n) := fun n => nm_ne' (ne_of_arr hfr a2)
  simp (maxSteps := 4000000) [hd0, hfr, hout, hcl, hcd, delA_none, a1, a1_n, a1_d, a1_m, a2, a2_n, a2_d, a2_m, Try.f16, eRow, capR]
  refine (hC _ _ (by simp (maxSteps := 4000000) [hd0, hfr, hout, hcl, hcd, delA_none, a1, a1_n, a1_d, a1_m, a2, a2_n, a2_d, a2_m]) (by simp (maxSteps := 4000000) [hd0, hfr, hout, hcl, hcd, delA_none, a1, a1_n, a1_d, a1_m, a2, a2_n, a2_d, a2_m]) (by simp (maxSteps := 4000000) [hd0, hfr, hout, hcl, hcd, delA_none, a1, a1_n, a1_d, a1_m, a2, a2_n, a2_d, a2_m])).useCK ?_
  simp (maxSteps := 4000000) [hd0, hfr, hout, hcl, hcd, delA_none, a1, a1_n, a1_d, a1_m, a2, a2_n, a2_d, a2_m, DEngineResult.enc]
def askF (x : DEngine) (id : Int) : Int × Int :=
  if engF x ≠ 0 then (0, engF x) else
    let i := ixF (fun t : DTxn => decide (t.id_ = id)) 0 x.txns
    if i < 0 then (0, 4) else if (x.txns.getD i.toNat ⟨0, 0, 0, 0, []⟩).state ≠ 1 then (0, 10) else (i, 0)
theorem spec_l6Asked (H : HH) {r0 q0 r1 q1 r2 q2} {x : DEngine} {id : Int} (hl : x.le 1048576)
    (a0 : arrAt H r0 q0 = some (4, [eRow x r1 q1 r2 q2])) (a1 : arrAt H r1 q1 = some (5, x.txns.map DTxn.enc)) (a2 : arrAt H r2 q2 = some (2, x.rows.map DRow.enc)) :
    PFun Try.prog 34 [.c (.pt r0 q0 4 0 0), I id] H (.t [I (askF x id).1, I (askF x id).2]) := by
  refine PFun.of [0, 1, 4, 5, 6, 7, 11, 17, 26] Try.func34 rfl (by simp [Try.f34]) ?_
  intro d hd0 hfr hcl hout
  have hcd : ∀ n q, CleanH (hit [((d, n), q)]) H := fun n q => hcl.at
  have a0_n : ∀ n, ¬ (d, n) = r0 := fun n => nm_ne (ne_of_arr hfr a0)
  have a0_d : ¬ r0.1 = d := ne_of_arr hfr a0
  have a0_m : ∀ n, ¬ r0 = (d, n) := fun n => nm_ne' (ne_of_arr hfr a0)
  have a1_n : ∀ n, ¬ (d, n) = r1 := fun n => nm_ne (ne_of_arr hfr a1)
  have a1_d : ¬ r1.1 = d := ne_of_arr hfr a1
  have a1_m : ∀ n, ¬ r1 = (d, n) := fun n => nm_ne' (ne_of_arr hfr a1)
  have a2_n : ∀ n, ¬ (d, n) = r2 := fun n => nm_ne (ne_of_arr hfr a2)
  have a2_d : ¬ r2.1 = d := ne_of_arr hfr a2
  have a2_m : ∀ n, ¬ r2 = (d, n) := fun n => nm_ne' (ne_of_arr hfr a2)
  simp (maxSteps := 4000000) [hd0, hfr, hout, hcl, hcd, delA_none, a0, a0_n, a0_d, a0_m, a1, a1_n, a1_d, a1_m, a2, a2_n, a2_d, a2_m, Try.f34]
  refine (spec_l6Fault _ (x := x) (r1 := r1) (q1 := q1) (r2 := r2) (q2 := q2) hl (by simp (maxSteps := 4000000) [hd0, hfr, hout, hcl, hcd, delA_none, a0, a0_n, a0_d, a0_m, a1, a1_n, a1_d, a1_m, a2, a2_n, a2_d, a2_m]) (by simp (maxSteps := 4000000) [hd0, hfr, hout, hcl, hcd, delA_none, a0, a0_n, a0_d, a0_m, a1, a1_n, a1_d, a1_m, a2, a2_n, a2_d, a2_m]) (by simp (maxSteps := 4000000) [hd0, hfr, hout, hcl, hcd, delA_none, a0, a0_n, a0_d, a0_m, a1, a1_n, a1_d, a1_m, a2, a2_n, a2_d, a2_m])).useCK ?_
  by_cases e0 : engF x = 0
  case neg => simp (maxSteps := 4000000) [hd0, hfr, hout, hcl, hcd, delA_none, a0, a0_n, a0_d, a0_m, a1, a1_n, a1_d, a1_m, a2, a2_n, a2_d, a2_m, eq_false e0, askF]
  have hF : askF x id = (let i := ixF (fun t : DTxn => decide (t.id_ = id)) 0 x.txns
    if i < 0 then (0, 4) else if (x.txns.getD i.toNat ⟨0, 0, 0, 0, []⟩).state ≠ 1 then (0, 10) else (i, 0)) := by unfold askF; rw [if_neg (by simp [e0])]
  generalize askF x id = R at *
  rw [e0]
  simp (maxSteps := 4000000) [hd0, hfr, hout, hcl, hcd, delA_none, a0, a0_n, a0_d, a0_m, a1, a1_n, a1_d, a1_m, a2, a2_n, a2_d, a2_m]
  refine (spec_l6Txn _ (x := x) (r1 := r1) (q1 := q1) (r2 := r2) (q2 := q2) hl (by simp (maxSteps := 4000000) [hd0, hfr, hout, hcl, hcd, delA_none, a0, a0_n, a0_d, a0_m, a1, a1_n, a1_d, a1_m, a2, a2_n, a2_d, a2_m]) (by simp (maxSteps := 4000000) [hd0, hfr, hout, hcl, hcd, delA_none, a0, a0_n, a0_d, a0_m, a1, a1_n, a1_d, a1_m, a2, a2_n, a2_d, a2_m])).useCK ?_
  rcases ixF_some (p := fun t : DTxn => decide (t.id_ = id)) (l := x.txns) (n := 0) with ⟨h2, h3⟩ | ⟨i, hi, h2, h3⟩
  · rw [h2] at hF ⊢
    simp at hF
    simp (maxSteps := 4000000) [hd0, hfr, hout, hcl, hcd, delA_none, a0, a0_n, a0_d, a0_m, a1, a1_n, a1_d, a1_m, a2, a2_n, a2_d, a2_m, hF]
  · have h2' : ixF (fun t : DTxn => decide (t.id_ = id)) 0 x.txns = i := by rw [h2]; omega
    rw [h2'] at hF ⊢
    simp only [if_neg (show ¬ (i : Int) < 0 by omega), Int.toNat_natCast, List.getD_eq_getElem?_getD, List.getElem?_eq_getElem hi, Option.getD_some] at hF
    by_cases h5 : x.txns[i].state = 1
    · rw [if_neg (by simp [h5])] at hF
      simp (maxSteps := 4000000) [hd0, hfr, hout, hcl, hcd, delA_none, a0, a0_n, a0_d, a0_m, a1, a1_n, a1_d, a1_m, a2, a2_n, a2_d, a2_m, eRow, eq_false (show ¬ (i : Int) < 0 by omega), hi, DTxn.enc, h5, hF]
    · rw [if_pos h5] at hF
      simp (maxSteps := 4000000) [hd0, hfr, hout, hcl, hcd, delA_none, a0, a0_n, a0_d, a0_m, a1, a1_n, a1_d, a1_m, a2, a2_n, a2_d, a2_m, eRow, eq_false (show ¬ (i : Int) < 0 by omega), hi, DTxn.enc, h5, hF]
end Go.Proofs.Ytnlbjfdmjlnlgaa

namespace Go.Proofs.Ytnlbjfdmjlnlgaa
open Go Go.Px Go.RowKit Go.Proofs
set_option linter.unnecessarySimpa false
set_option linter.unusedVariables false
set_option linter.unusedSimpArgs false
set_option maxRecDepth 100000
attribute [-simp] Int.not_le Int.not_lt
theorem askF_bad {x : DEngine} {id : Int} (h : engF x ≠ 0) : askF x id = (0, engF x) := by unfold askF; rw [if_pos h]
theorem askF_none {x : DEngine} {id : Int} (h : engF x = 0) (h2 : ∀ t ∈ x.txns, t.id_ ≠ id) : askF x id = (0, 4) := by
  unfold askF; rw [if_neg (by simp [h]), ixF_none (fun t ht => by simpa using h2 t ht)]; simp
theorem askF_some {x : DEngine} {id : Int} {i : Nat} (h : engF x = 0) (hi : i < x.txns.length) (h2 : ixF (fun t : DTxn => decide (t.id_ = id)) 0 x.txns = i) : askF x id = if x.txns[i].state ≠ 1 then (0, 10) else ((i : Int), 0) := by
  unfold askF
  rw [if_neg (by simp [h])]
  simp only [h2, if_neg (show ¬ (i : Int) < 0 by omega), Int.toNat_natCast, List.getD_eq_getElem?_getD, List.getElem?_eq_getElem hi, Option.getD_some]
theorem commitR_bad {x : DEngine} {id : Int} (h : engF x ≠ 0) : commitR x id = badE (engF x) := by unfold commitR resF; rw [if_pos h]
theorem commitR_code {x y : DEngine} {id v c : Int} (h : engF x = 0) (h2 : comR x id = (v, c, y)) (hc : c ≠ 0) : commitR x id = badE c := by unfold commitR resF; rw [if_neg (by simp [h]), h2, if_pos hc]
theorem commitR_ok {x y : DEngine} {id v : Int} (h : engF x = 0) (h2 : comR x id = (v, 0, y)) : commitR x id = ⟨0, v, y⟩ := by unfold commitR resF; rw [if_neg (by simp [h]), h2]; simp
set_option maxHeartbeats 8000000 in
theorem spec_CommitTxn (H : HH) {r1 q1 r2 q2} {x : DEngine} {id : Int} (hl : x.le 1048576) (a1 : arrAt H r1 q1 = some (5, x.txns.map DTxn.enc)) (a2 : arrAt H r2 q2 = some (2, x.rows.map DRow.enc)) :
    PFun Try.prog 15 [.a (eRow x r1 q1 r2 q2), I id] H (.a (commitR x id).enc) := by
  have hl2 := hl
  obtain ⟨⟨b1, b1p⟩, b2, b2p⟩ := hl2
  refine PFun.of [1, 2, 4, 5, 6, 7, 8, 9, 16, 30, 33, 48, 59] Try.func15 rfl (by simp [Try.f15]) ?_
  intro d hd0 hfr hcl hout
  have hcd : ∀ n q, CleanH (hit [((d, n), q)]) H := fun n q => hcl.at
  have a1_n : ∀ n, ¬ (d, n) = r1 := fun n => nm_ne (ne_of_arr hfr a1)
  have a1_d : ¬ r1.1 = d := ne_of_arr hfr a1
  have a1_m : ∀ n, ¬ r1 = (d, n) := fun n => nm_ne' (ne_of_arr hfr a1)
  have a2_n : ∀ n, ¬ (d, n) = r2 := fun n => nm_ne (ne_of_arr hfr a2)
  have a2_d : ¬ r2.1 = d := ne_of_arr hfr a2
  have a2_m : ∀ n, ¬ r2 = (d, n) := fun n => nm_ne' (ne_of_arr hfr a2)
  simp (maxSteps := 4000000) [hd0, hfr, hout, hcl, hcd, delA_none, a1, a1_n, a1_d, a1_m, a2, a2_n, a2_d, a2_m, Try.f15, eRow]
  refine (spec_l6Asked _ (x := x) (r1 := r1) (q1 := q1) (r2 := r2) (q2 := q2) hl (by simp (maxSteps := 4000000) [hd0, hfr, hout, hcl, hcd, delA_none, a1, a1_n, a1_d, a1_m, a2, a2_n, a2_d, a2_m, eRow]) (by simp (maxSteps := 4000000) [hd0, hfr, hout, hcl, hcd, delA_none, a1, a1_n, a1_d, a1_m, a2, a2_n, a2_d, a2_m]) (by simp (maxSteps := 4000000) [hd0, hfr, hout, hcl, hcd, delA_none, a1, a1_n, a1_d, a1_m, a2, a2_n, a2_d, a2_m])).useCK ?_
  by_cases e0 : engF x = 0
  case neg =>
    rw [askF_bad e0, commitR_bad e0]
    simp (maxSteps := 4000000) [hd0, hfr, hout, hcl, hcd, delA_none, a1, a1_n, a1_d, a1_m, a2, a2_n, a2_d, a2_m, eq_false e0]
    refine (spec_l6Bad _).useCK ?_
    simp (maxSteps := 4000000) [hd0, hfr, hout, hcl, hcd, delA_none, a1, a1_n, a1_d, a1_m, a2, a2_n, a2_d, a2_m, badE, DEngineResult.enc]
  rcases ixF_some (p := fun t : DTxn => decide (t.id_ = id)) (l := x.txns) (n := 0) with ⟨h2, h3⟩ | ⟨i, hi, h2, h3⟩
  · have h3' : ∀ t ∈ x.txns, t.id_ ≠ id := fun t ht => by simpa using h3 t ht
    rw [askF_none e0 h3', commitR_code e0 (comR_none h3') (by decide)]
    simp (maxSteps := 4000000) [hd0, hfr, hout, hcl, hcd, delA_none, a1, a1_n, a1_d, a1_m, a2, a2_n, a2_d, a2_m]
    refine (spec_l6Bad _).useCK ?_
    simp (maxSteps := 4000000) [hd0, hfr, hout, hcl, hcd, delA_none, a1, a1_n, a1_d, a1_m, a2, a2_n, a2_d, a2_m, badE, DEngineResult.enc]
  have h2' : ixF (fun t : DTxn => decide (t.id_ = id)) 0 x.txns = i := by rw [h2]; omega
  have hid : x.txns[i].id_ = id := by simpa using h3
  have hR := comR_some hi h2'
  rw [askF_some e0 hi h2']
  by_cases h5 : x.txns[i].state = 1
  case neg =>
    rw [if_pos h5] at hR ⊢
    rw [commitR_code e0 hR (by decide)]
    simp (maxSteps := 4000000) [hd0, hfr, hout, hcl, hcd, delA_none, a1, a1_n, a1_d, a1_m, a2, a2_n, a2_d, a2_m]
    refine (spec_l6Bad _).useCK ?_
    simp (maxSteps := 4000000) [hd0, hfr, hout, hcl, hcd, delA_none, a1, a1_n, a1_d, a1_m, a2, a2_n, a2_d, a2_m, badE, DEngineResult.enc]
  rw [if_neg (by simp [h5])] at hR ⊢
  have hid0 : id ≠ 0 := by have := (txsF_rise (engF_txns e0)).2.1 _ (List.getElem_mem hi); omega
  have hx := (engF_clock e0).2
  simp (maxSteps := 4000000) [hd0, hfr, hout, hcl, hcd, delA_none, a1, a1_n, a1_d, a1_m, a2, a2_n, a2_d, a2_m]
  refine (spec_l6Copy _ (x := x) (r1 := r1) (q1 := q1) (r2 := r2) (q2 := q2) hl (by simp (maxSteps := 4000000) [hd0, hfr, hout, hcl, hcd, delA_none, a1, a1_n, a1_d, a1_m, a2, a2_n, a2_d, a2_m]) (by simp (maxSteps := 4000000) [hd0, hfr, hout, hcl, hcd, delA_none, a1, a1_n, a1_d, a1_m, a2, a2_n, a2_d, a2_m])).useCK ?_
  by_cases e1 : x.txns[i].undos.length = 0
  · rw [if_neg (by simp [e1]), if_pos e1] at hR
    rw [commitR_ok e0 hR]
    have e1' : x.txns[i].undos = [] := List.eq_nil_of_length_eq_zero e1
    simp (maxSteps := 4000000) [hd0, hfr, hout, hcl, hcd, delA_none, a1, a1_n, a1_d, a1_m, a2, a2_n, a2_d, a2_m, hi, DTxn.enc, e1', DEngine.enc]
    refine DrawK.intro 5 [4, 79, 80] rfl (by kernel_rfl) (by decide) ?_
    simp (maxSteps := 4000000) [hd0, hfr, hout, hcl, hcd, delA_none, a1, a1_n, a1_d, a1_m, a2, a2_n, a2_d, a2_m, hi, DTxn.enc, e1', DEngine.enc, DEngineResult.enc]
    simp only [comF, if_pos e1]
    exact ⟨trivial, trivial, by rw [List.map_set]; simp [DTxn.enc], trivial⟩
  have e1n : ¬ x.txns[i].undos = [] := fun h => e1 (by rw [h]; rfl)
  by_cases e2 : x.clock = 1000000
  · rw [if_pos ⟨e1, e2⟩] at hR
    rw [commitR_code e0 hR (by decide)]
    simp (maxSteps := 4000000) [hd0, hfr, hout, hcl, hcd, delA_none, a1, a1_n, a1_d, a1_m, a2, a2_n, a2_d, a2_m, hi, DTxn.enc, e2, eq_true (show (0 : Int) < (x.txns[i].undos.length : Int) by omega), eq_true (show 0 < x.txns[i].undos.length by omega), eq_false e1n, DEngine.enc]
    refine (spec_l6Bad _).useCK ?_
    simp (maxSteps := 4000000) [hd0, hfr, hout, hcl, hcd, delA_none, a1, a1_n, a1_d, a1_m, a2, a2_n, a2_d, a2_m, badE, DEngineResult.enc]
  rw [if_neg (by simp [e2]), if_neg e1] at hR
  rw [commitR_ok e0 hR]
  clear hR
  have w1 : IntKind.i64.wrap (x.clock + 1) = x.clock + 1 := w64 (by omega) (by omega)
  have hcm : comF x i x.txns[i] = { x with clock := x.clock + 1, txns := x.txns.set i { x.txns[i] with state := 2, done := x.clock + 1, undos := [] }, rows := x.rows.map (comRow x.txns[i].id_ (x.clock + 1)) } := by unfold comF; rw [if_neg e1]
  rw [hcm, hid]
  clear hcm
  simp (maxSteps := 4000000) [hd0, hfr, hout, hcl, hcd, delA_none, a1, a1_n, a1_d, a1_m, a2, a2_n, a2_d, a2_m, hi, DTxn.enc, eq_false e2, w1, eq_true (show (0 : Int) < (x.txns[i].undos.length : Int) by omega), eq_true (show 0 < x.txns[i].undos.length by omega), eq_false e1n, DEngine.enc]
  refine LoopK.intro (fun m s => ∃ j : Nat, j + m = x.rows.length ∧ s = ⟨[(1, I id), (4, .c (.pt (d, 4) [] 6 0 0)), (7, .c (.pt (d, 7) [] 4 0 0)), (8, .c (.pt (d, 7) [(0, 2)] 5 i 0)), (9, I j)],
      ((d, 7), .own 4 [[.v (.int .i64 x.next), .v (.int .i64 (x.clock + 1)), .own 5 ((x.txns.map DTxn.enc).set i [.v (.int .i64 x.txns[i].id_), .v (.int .i64 x.txns[i].at_), .v (.int .i64 x.txns[i].state), .v (.int .i64 (x.clock + 1)), .own 4 (x.txns[i].undos.map DUndo.enc)]),
        .own 2 ((stepL (comRow id (x.clock + 1)) x.rows j).map DRow.enc)]]) :: ((d, 4), .own 6 [[.v (.int .i64 0), .v (.int .i64 0), .v (.int .i64 0), .v (.int .i64 0), .own 5 [], .own 2 []]]) :: H, []⟩) (x.rows.length + 1)
    (LK.intro x.rows.length [1, 4, 7, 8, 9] [2] (by omega) (by decide) (by simp (maxSteps := 4000000) [hd0, hfr, hout, hcl, hcd, delA_none, a1, a1_n, a1_d, a1_m, a2, a2_n, a2_d, a2_m]) ⟨0, by simp [stepL_zero]⟩) ?_
  rintro m s ⟨j, hjm, rfl⟩
  by_cases hj' : j < x.rows.length
  case neg =>
    rw [stepL_full (by omega)]
    simp (maxSteps := 4000000) [hd0, hfr, hout, hcl, hcd, delA_none, a1, a1_n, a1_d, a1_m, a2, a2_n, a2_d, a2_m, eq_false (show ¬ (j : Int) < (x.rows.length : Int) by omega), hi, DTxn.enc]
    refine DrawK.intro 5 [4, 79, 80] rfl (by kernel_rfl) (by decide) ?_
    simp (maxSteps := 4000000) [hd0, hfr, hout, hcl, hcd, delA_none, a1, a1_n, a1_d, a1_m, a2, a2_n, a2_d, a2_m, hi, DTxn.enc, DEngineResult.enc, List.map_set]
  have w2 : IntKind.i64.wrap ((j : Int) + 1) = j + 1 := w64 (by omega) (by omega)
  have hLs := stepL_succ (f := comRow id (x.clock + 1)) hj'
  have hLl : (stepL (comRow id (x.clock + 1)) x.rows j).length = x.rows.length := stepL_len
  have hLg := stepL_get (f := comRow id (x.clock + 1)) hj'
  generalize stepL (comRow id (x.clock + 1)) x.rows j = L at *
  have hjL : j < L.length := by omega
  have hLj : L[j] = x.rows[j] := by rw [List.getElem?_eq_getElem hjL] at hLg; exact Option.some.inj hLg
  have hbc : x.rows[j].chain.length ≤ 1048576 := b2p _ (List.getElem_mem hj')
  simp (maxSteps := 4000000) [hd0, hfr, hout, hcl, hcd, delA_none, a1, a1_n, a1_d, a1_m, a2, a2_n, a2_d, a2_m, eq_true (show (j : Int) < (x.rows.length : Int) by omega), hjL, hLj, DRow.enc]
  refine (spec_l5Writer _ (l := x.rows[j].chain) (by simp (maxSteps := 4000000) [hd0, hfr, hout, hcl, hcd, delA_none, a1, a1_n, a1_d, a1_m, a2, a2_n, a2_d, a2_m, hjL, hLj, DRow.enc])).useCK ?_
  have how := openF_writ (l := x.rows[j].chain) hid0
  by_cases ho : writF x.rows[j].chain = id
  case neg =>
    have ho2 : openF x.rows[j].chain id = false := by rw [how]; simp [ho]
    have hc : comRow id (x.clock + 1) x.rows[j] = L[j] := by unfold comRow; rw [if_neg (by simp [ho2]), hLj]
    rw [hc, List.set_getElem_self] at hLs
    simp (maxSteps := 4000000) [hd0, hfr, hout, hcl, hcd, delA_none, a1, a1_n, a1_d, a1_m, a2, a2_n, a2_d, a2_m, eq_false ho, w2]
    refine LK.intro (m - 1) [1, 4, 7, 8, 9] [] (by omega) (by decide) (by simp (maxSteps := 4000000) [hd0, hfr, hout, hcl, hcd, delA_none, a1, a1_n, a1_d, a1_m, a2, a2_n, a2_d, a2_m]) ⟨j + 1, by omega, by simp [hLs]⟩
  have ho2 : openF x.rows[j].chain id = true := by rw [how]; simp [ho]
  obtain ⟨v0, rest, hcf⟩ : ∃ v0 rest, x.rows[j].chain = v0 :: rest := by
    cases hc : x.rows[j].chain with
    | nil => rw [hc] at ho2; simp [openF] at ho2
    | cons a l => exact ⟨a, l, rfl⟩
  have hc : comRow id (x.clock + 1) x.rows[j] = ⟨x.rows[j].key, { v0 with at_ := x.clock + 1 } :: rest⟩ := by unfold comRow; rw [if_pos ho2, hcf]; rfl
  rw [hc] at hLs
  simp (maxSteps := 4000000) [hd0, hfr, hout, hcl, hcd, delA_none, a1, a1_n, a1_d, a1_m, a2, a2_n, a2_d, a2_m, eq_true ho]
  refine DrawK.intro 10 [1, 4, 7, 8, 9, 67, 69] rfl (by kernel_rfl) (by decide) ?_
  simp (maxSteps := 4000000) [hd0, hfr, hout, hcl, hcd, delA_none, a1, a1_n, a1_d, a1_m, a2, a2_n, a2_d, a2_m, hjL, hLj, DRow.enc, hcf, DVersion.enc, w2]
  refine LK.intro (m - 1) [1, 4, 7, 8, 9] [] (by omega) (by decide) (by simp (maxSteps := 4000000) [hd0, hfr, hout, hcl, hcd, delA_none, a1, a1_n, a1_d, a1_m, a2, a2_n, a2_d, a2_m]) ⟨j + 1, by omega, by simp [hLs, List.map_set, DRow.enc, DVersion.enc]⟩
end Go.Proofs.Ytnlbjfdmjlnlgaa

namespace Go.Proofs.Ytnlbjfdmjlnlgaa
open Go Go.Px Go.RowKit Go.Proofs
set_option linter.unnecessarySimpa false
set_option linter.unusedVariables false
set_option linter.unusedSimpArgs false
set_option maxRecDepth 100000
attribute [-simp] Int.not_le Int.not_lt
theorem comF_le {B : Nat} {x : DEngine} {i : Nat} {t : DTxn} (h : x.le B) : (comF x i t).le B := by
  obtain ⟨⟨b1, b1p⟩, b2, b2p⟩ := h
  have hs : ∀ (u : DTxn), u.undos = [] → ∀ y ∈ x.txns.set i u, DTxn.le B y := fun u hu y hy => by
    rcases List.mem_or_eq_of_mem_set hy with h | rfl
    · exact b1p y h
    · simp [DTxn.le, hu]
  unfold comF
  split
  · exact ⟨⟨by simpa using b1, hs _ rfl⟩, b2, b2p⟩
  · refine ⟨⟨by simpa using b1, hs _ rfl⟩, by simpa using b2, ?_⟩
    intro y hy
    obtain ⟨r, hr, rfl⟩ := List.mem_map.1 hy
    have := b2p r hr
    unfold comRow
    split
    · unfold DRow.le at this ⊢
      have e : (setAt0 r.chain (x.clock + 1)).length = r.chain.length := by unfold setAt0; split <;> simp_all
      simpa [e] using this
    · exact this
theorem badE_le {B : Nat} {c : Int} : (badE c).le B := by simp [badE, DEngineResult.le, DEngine.le]
theorem commitR_le {x : DEngine} {id : Int} (h : x.le 1048576) : (commitR x id).le 1048576 := by
  unfold commitR resF
  split
  · exact badE_le
  · split
    · exact badE_le
    · show DEngine.le 1048576 _
      unfold comR
      simp only
      split
      · exact h
      · split
        · exact h
        · split
          · exact h
          · exact comF_le h
end Go.Proofs.Ytnlbjfdmjlnlgaa

namespace Go.Px
open Go.RowKit
set_option linter.unusedVariables false
set_option linter.unusedSimpArgs false
set_option linter.constructorNameAsVariable false

def drawChkF (ops : Array Oper) (m : Nat) : Bool :=
  let an := ancs ops ops.size
  m ≤ ops.size &&
  ((List.range ops.size).all fun i => (deps ops i).all fun d => d < i) &&
  ((List.range m).all fun i => (usAt ops i).all fun j => (List.range m).all fun k => k == i || dstAt ops k != some j || (k < i && (an.getD i []).contains k)) &&
  ((List.range m).all fun i => (List.range m).all fun k => k == i || dstAt ops k != dstAt ops i) &&
  ((List.range ops.size).all fun i => i < m || (List.range i).all fun k => k == 0 || (an.getD i []).contains k)
structure DrawOkF (ops : Array Oper) (m : Nat) : Prop where
  le : m ≤ ops.size
  dep : ∀ i, i < ops.size → ∀ d ∈ deps ops i, d < i
  use : ∀ i, i < m → ∀ j ∈ usAt ops i, ∀ k, k < m → k ≠ i → dstAt ops k = some j → k < i ∧ k ∈ (ancs ops ops.size).getD i []
  dst : ∀ i, i < m → ∀ k, k < m → k ≠ i → dstAt ops k ≠ dstAt ops i
  tail : ∀ i, i < ops.size → m ≤ i → ∀ k, k < i → k = 0 ∨ k ∈ (ancs ops ops.size).getD i []
theorem drawChkF_ok {ops m} (h : drawChkF ops m = true) : DrawOkF ops m := by
  simp only [drawChkF, Bool.and_eq_true, decide_eq_true_eq, List.all_eq_true, List.mem_range, Bool.or_eq_true, beq_iff_eq, bne_iff_ne, List.contains_iff_mem] at h
  obtain ⟨⟨⟨⟨h1, h2⟩, h3⟩, h4⟩, h5⟩ := h
  refine ⟨h1, fun i hi d hd => h2 i hi d hd, fun i hi j hj k hk hne hd => ?_, fun i hi k hk hne hd => ?_, fun i hi hm k hk => ?_⟩
  · rcases h3 i hi j hj k hk with (h | h) | h
    · exact absurd h hne
    · exact absurd hd h
    · exact h
  · rcases h4 i hi k hk with h | h
    · exact absurd h hne
    · exact h hd
  · rcases h5 i hi with h | h
    · omega
    · exact h k hk
/-- all that does not wait for operation 0 is apart from it -/
def freeAt0 (ops : Array Oper) (o0 : Oper) : Bool := (List.range ops.size).all fun j => j == 0 || (deps ops j).contains 0 || (match ops[j]? with | some o => o0.apart ops o | none => true)
theorem freeAt0_ok {ops o0} (h : freeAt0 ops o0 = true) (j : Nat) (oj : Oper) (hoj : ops[j]? = some oj) (hne : j ≠ 0) (hno : ∀ e ∈ oj.after, Region.binds .any e = true → e.on ≠ 0) : o0.apart ops oj = true := by
  simp only [freeAt0, List.all_eq_true, List.mem_range, Bool.or_eq_true, beq_iff_eq, List.contains_iff_mem] at h
  have hj : j < ops.size := (Array.getElem?_eq_some_iff.1 hoj).1
  rcases h j hj with (h | h) | h
  · exact absurd h hne
  · exfalso
    unfold deps at h
    rw [hoj] at h
    obtain ⟨e, he, h0⟩ := List.mem_map.1 h
    obtain ⟨he1, he2⟩ := List.mem_filter.1 he
    exact hno e (by simpa using he1) he2 h0
  · rw [hoj] at h; exact h
/-- The tail: one behind the other. -/
theorem tail_anyF {P : Program} {ops : Array Oper} {m : Nat} {Q : Exit → Act → World → Prop} (hdep : ∀ i, i < ops.size → ∀ d ∈ deps ops i, d < i) (htail : ∀ i, i < ops.size → m ≤ i → ∀ k, k < i → k = 0 ∨ k ∈ (ancs ops ops.size).getD i []) (hm0 : 0 < m) :
    ∀ (r k : Nat) (listed : Array Bool) (fuel : Nat) (a : Act) (w : World), k + r = ops.size → m ≤ k → listed.size = ops.size → Closed ops listed → (∀ i, i < ops.size → (listed.getD i true = true ↔ i < k)) → r ≤ fuel → wpOps P ops Q (List.range' k r) a w → wpAny P .any ops Q fuel listed a w := by
  intro r
  induction r with
  | zero =>
    intro k listed fuel a w hk hm hs hc hl hf h
    have hq : Q .normal a w := by simpa [wpOps] using h
    have hr : Region.ready .any ops listed = [] := by
      apply List.eq_nil_iff_forall_not_mem.2
      intro i hi
      obtain ⟨h1, h2, -⟩ := ready_iff.1 hi
      have := (hl i h1).2 (by omega)
      rw [h2] at this; cases this
    cases fuel with
    | zero => exact ⟨hr, hq⟩
    | succ fuel => exact ⟨fun _ => hq, fun i hi => by rw [hr] at hi; simp at hi⟩
  | succ r ih =>
    intro k listed fuel a w hk hm hs hc hl hf h
    cases fuel with
    | zero => omega
    | succ fuel =>
      have hkn : k < ops.size := by omega
      have hkl : listed.getD k true = false := by
        cases hh : listed.getD k true with
        | false => rfl
        | true => have := (hl k hkn).1 hh; omega
      have hkr : k ∈ Region.ready .any ops listed := ready_iff.2 ⟨hkn, hkl, fun d hd => by
        have hdk := hdep k hkn d hd
        rw [getD_both hs (by omega) false true]
        exact (hl d (by omega)).2 hdk⟩
      have honly : ∀ i ∈ Region.ready .any ops listed, i = k := by
        intro i hi
        obtain ⟨h1, h2, h3⟩ := ready_iff.1 hi
        apply Classical.byContradiction
        intro hne
        have hge : ¬ i < k := fun hlt => by have := (hl i h1).2 hlt; rw [h2] at this; cases this
        have hki : k < i := by omega
        have := closed_anc hs hc ops.size i h1 h1 h3 k ((htail i h1 (by omega) k hki).resolve_left (by omega))
        rw [getD_both hs (by omega) false true, hkl] at this
        cases this
      refine ⟨fun h0 => by rw [h0] at hkr; simp at hkr, fun i hi => ?_⟩
      rw [honly i hi]
      have h' : wpOp P ops Q k (wpOps P ops Q (List.range' (k + 1) r)) a w := by
        rw [← wpOps_cons]
        simpa [List.range'_succ] using h
      refine wpOp_mono (fun a' w' h2 => ih (k + 1) _ fuel a' w' (by omega) (by omega) (by simp [hs]) ?_ ?_ (by omega) h2) h'
      · intro i hi' hio d hd
        rw [getD_set hs hkn] at hi' ⊢
        by_cases hik : i = k
        · subst hik
          obtain ⟨-, -, h3⟩ := ready_iff.1 hkr
          split
          · rfl
          · exact h3 d hd
        · rw [if_neg hik] at hi'
          split
          · rfl
          · exact hc i hi' hio d hd
      · intro i hio
        rw [getD_set hs hkn]
        by_cases hik : i = k
        · subst hik; simp
        · rw [if_neg hik, hl i hio]; omega
theorem SCode.drawF {cx id ops s K} (m : Nat) (keep : List Nat) (hmx : cx.P.follows .mixedOrders = true) (hm0 : 0 < m) {o0 : Oper} {x0 : Operand} {d0 : Nat} (ho0 : ops[0]? = some o0) (hop0 : o0.op = .move x0) (hg0 : o0.guard = none) (hd0 : o0.dst = some d0) (hfr0 : freeAt0 ops o0 = true) (hns : Region.noSelect ops = true) (hchk : drawChkF ops m = true) (hkeep : keep.Nodup)
    (h : FRun cx ops m s.H m 0 s.t [] (fun val cs => (∀ j ∈ keep, j ∉ cs) ∧ SOps cx ops (List.range' m (ops.size - m)) ⟨live keep val, s.H, s.lg⟩ (K .normal))) : SCode cx (.region id ops true) s K := by
  intro e a w hd hN hr
  have ok := drawChkF_ok hchk
  obtain ⟨xs, csA, csL, hlen, ⟨hkc, htail⟩, -, hrows0⟩ := h.table
  obtain ⟨t0, H, lg⟩ := s
  have hrows : ∀ k, k < m → ∃ dst x, xs[k]? = some (dst, x) ∧ dstAt ops k = some dst ∧ dst < cx.N ∧ FOp cx ops k ((xs.take k).reverse ++ t0) H (usAt ops k) (csL.getD k []) dst x ∧ consChk ops m k (csL.getD k []) = true ∧ ∀ j ∈ csL.getD k [], j ∈ csA := by
    intro k hk
    obtain ⟨dst, x, r⟩ := hrows0 k hk
    have e : 0 + k = k := by omega
    exact ⟨dst, x, r.at_, by rw [← r.dst_, e], r.lt, by have := r.fop; rwa [e] at this, by have := r.chk; rwa [e] at this, r.sub⟩
  -- what stands in the table for a place
  have huniq : ∀ k dst x, k < m → xs[k]? = some (dst, x) → ∀ (k' : Nat) (e' : Nat × T), xs[k']? = some e' → e'.1 = dst → k' = k := by
    intro k dst x hk hx k' e' he' hj'
    apply Classical.byContradiction; intro hne
    have hk' : k' < m := by rw [← hlen]; exact (List.getElem?_eq_some_iff.1 he').1
    obtain ⟨d1, x1, r1, r2, -⟩ := hrows k hk
    obtain ⟨d2, x2, q1, q2, -⟩ := hrows k' hk'
    rw [hx] at r1; cases r1
    rw [he'] at q1; cases q1
    exact ok.dst k hk k' hk' hne (by rw [r2, q2]; simp at hj'; rw [hj'])
  have hnone : ∀ (n j : Nat), n ≤ m → (∀ k, k < n → dstAt ops k ≠ some j) → getT (xs.take n).reverse j = none := by
    intro n j hn hno
    refine getT_none (fun e' he' ej => ?_)
    obtain ⟨k, hk⟩ := List.getElem?_of_mem (List.mem_reverse.1 he')
    rw [List.getElem?_take] at hk
    split at hk
    · rename_i hkn
      obtain ⟨d', x', r1, r2, -⟩ := hrows k (by omega)
      rw [hk] at r1; cases r1
      exact hno k hkn (by rw [r2]; simp at ej; rw [ej])
    · cases hk
  have hsome : ∀ (n k dst : Nat) (x : T), n ≤ m → k < n → xs[k]? = some (dst, x) → getT (xs.take n).reverse dst = some x := by
    intro n k dst x hn hk hx
    refine getT_rev (k := k) (by rw [List.getElem?_take, if_pos hk]; exact hx) (fun k' e' he' hj' => ?_)
    rw [List.getElem?_take] at he'
    split at he'
    · exact huniq k dst x (by omega) hx k' e' he' hj'
    · cases he'
  have hfull : xs.take m = xs := by rw [← hlen, List.take_length]
  let Q : Exit → Act → World → Prop := fun ex a' w' => (∀ c, ex ≠ .panic c) ∧ ∃ s', K ex s' ∧ Rel e s' a' w'
  let I1 : Array Bool → List (Nat × T) → Prop := fun listed t => ∀ k, k < m → listed.getD k true = true → ∀ dst x, xs[k]? = some (dst, x) → (∀ c, c < m → listed.getD c true = true → dst ∉ csL.getD c []) → getT t dst = some x
  let I2 : Array Bool → List (Nat × T) → Prop := fun listed t => ∀ j, (∀ k, k < m → listed.getD k true = true → dstAt ops k ≠ some j) → (∀ c, c < m → listed.getD c true = true → j ∉ csL.getD c []) → getT t j = getT t0 j
  have hend : ∀ (listed : Array Bool) (t : List (Nat × T)) (a : Act) (w : World) (fuel : Nat), listed.size = ops.size → Closed ops listed → (∀ i, m ≤ i → i < ops.size → listed.getD i true = false) → ops.size - m ≤ fuel → (∀ i, i < m → listed.getD i true = true) → Rel e ⟨t, H, lg⟩ a w → I1 listed t → I2 listed t → wpAny cx.P .any ops Q fuel listed a w := by
    intro listed t a w fuel hs hc hl hf hall hr i1 i2
    have hpick : Rel e ⟨live keep (xs.reverse ++ t0), H, lg⟩ a w := hr.pick hkeep (fun j hj => by
      have hcs : ∀ c, c < m → listed.getD c true = true → j ∉ csL.getD c [] := fun c hc' _ hm => by
        obtain ⟨d', x', -, -, -, -, -, hsub⟩ := hrows c hc'
        exact hkc _ hj (hsub _ hm)
      by_cases hex : ∃ k, k < m ∧ dstAt ops k = some j
      · obtain ⟨k, hk, hdk⟩ := hex
        obtain ⟨dst, x, r1, r2, -⟩ := hrows k hk
        rw [hdk] at r2; cases r2
        have := hsome m k j x (Nat.le_refl _) hk r1
        rw [hfull] at this
        rw [i1 k hk (hall k hk) j x r1 hcs, getT_append, this]
        rfl
      · have hno : ∀ k, k < m → dstAt ops k ≠ some j := fun k hk hd => hex ⟨k, hk, hd⟩
        have := hnone m j (Nat.le_refl _) hno
        rw [hfull] at this
        rw [i2 j (fun k hk _ => hno k hk) hcs, getT_append, this]
        rfl)
    refine tail_anyF ok.dep ok.tail hm0 (ops.size - m) m listed fuel a w (by have := ok.le; omega) (Nat.le_refl _) hs hc (fun i hi => ⟨fun h => ?_, fun h => hall i h⟩) hf ?_
    · apply Classical.byContradiction; intro hge
      rw [hl i (by omega) hi] at h; cases h
    · exact htail e a w Q hd hN hpick (fun s' a' w' h1 h2 => ⟨(fun c h => by cases h), s', h1, h2⟩)
  have key : ∀ (fuel : Nat) (listed : Array Bool) (t : List (Nat × T)) (a : Act) (w : World), listed.size = ops.size → Closed ops listed → (∀ i, m ≤ i → i < ops.size → listed.getD i true = false) → unl listed ops.size ≤ fuel → listed.getD 0 true = true → Rel e ⟨t, H, lg⟩ a w →
      I1 listed t → I2 listed t → wpAny cx.P .any ops Q fuel listed a w := by
    intro fuel
    induction fuel with
    | zero =>
      intro listed t a w hs hc hl hu hz hr i1 i2
      have hall := unl_zero (Nat.le_zero.1 hu)
      refine hend listed t a w 0 hs hc hl ?_ (fun i hi => hall i (by have := ok.le; omega)) hr i1 i2
      apply Classical.byContradiction
      intro hne
      have hlt : m < ops.size := by omega
      have := hl m (Nat.le_refl _) hlt
      rw [hall m hlt] at this; cases this
    | succ fuel ih =>
      intro listed t a w hs hc hl hu hz hr i1 i2
      by_cases hall : ∀ i, i < m → listed.getD i true = true
      · refine hend listed t a w (fuel + 1) hs hc hl ?_ hall hr i1 i2
        have := countP_ge (m := m) (n := ops.size) (p := fun i => !listed.getD i true) (fun i h1 h2 => by simp [hl i h1 h2])
        unfold unl at hu
        omega
      · have hready : ∀ i ∈ Region.ready .any ops listed, i < m := by
          intro i hi
          obtain ⟨h1, h2, h3⟩ := ready_iff.1 hi
          apply Classical.byContradiction
          intro hge
          apply hall
          intro k hk
          have hmle := ok.le
          rcases ok.tail i h1 (by omega) k (by omega) with hk0 | hka
          · rw [hk0]; exact hz
          · have := closed_anc hs hc ops.size i h1 h1 h3 k hka
            rw [getD_both hs (by omega) true false]; exact this
        refine ⟨fun h0 => ?_, fun i hi => ?_⟩
        · exfalso
          -- the first that is not listed is ready
          have hmin : ∀ n, n ≤ m → (∀ i, i < n → listed.getD i true = true) ∨ ∃ i, i < n ∧ listed.getD i true = false ∧ ∀ k, k < i → listed.getD k true = true := by
            intro n
            induction n with
            | zero => intro _; left; intro i hi; omega
            | succ n ihn =>
              intro hn
              rcases ihn (by omega) with h | ⟨i, h1, h2, h3⟩
              · cases hln : listed.getD n true with
                | true =>
                  left; intro i hi
                  by_cases hin : i = n
                  · rw [hin, hln]
                  · exact h i (by omega)
                | false => right; exact ⟨n, by omega, hln, h⟩
              · right; exact ⟨i, by omega, h2, h3⟩
          rcases hmin m (Nat.le_refl _) with h | ⟨i, h1, h2, h3⟩
          · exact hall h
          · have hmle := ok.le
            have : i ∈ Region.ready .any ops listed := ready_iff.2 ⟨by omega, h2, fun d hdd => by
              have hdi := ok.dep i (by omega) d hdd
              rw [getD_both hs (by omega) false true]; exact h3 d hdi⟩
            rw [h0] at this; simp at this
        · have him := hready i hi
          obtain ⟨h1, h2, h3⟩ := ready_iff.1 hi
          have hanc := closed_anc hs hc ops.size i h1 h1 h3
          obtain ⟨dst, x, r1, r2, r3, r4, r5, r6⟩ := hrows i him
          have hmle := ok.le
          have hag : Agree t ((xs.take i).reverse ++ t0) (usAt ops i) := by
            intro j hj
            have hcs : ∀ c, c < m → listed.getD c true = true → j ∉ csL.getD c [] := fun c hc' hlc hm => by
              obtain ⟨d', x', -, -, -, -, hchk', -⟩ := hrows c hc'
              have hci : i ≠ c := fun e => by rw [← e, h2] at hlc; cases hlc
              exact consChk_iff hchk' j hm i him hci hj
            by_cases hex : ∃ k, k < m ∧ k ≠ i ∧ dstAt ops k = some j
            · obtain ⟨k, hk, hki, hdk⟩ := hex
              obtain ⟨hlt, hka⟩ := ok.use i him j hj k hk hki hdk
              have hkl := hanc k hka
              rw [getD_both hs (by omega) false true] at hkl
              obtain ⟨d', x', q1, q2, -⟩ := hrows k hk
              rw [hdk] at q2; cases q2
              rw [i1 k hk hkl j x' q1 hcs, getT_append, hsome i k j x' (by omega) hlt q1]
              rfl
            · have hno : ∀ k, k < m → k ≠ i → dstAt ops k ≠ some j := fun k hk hki hd => hex ⟨k, hk, hki, hd⟩
              rw [i2 j (fun k hk hkl => hno k hk (fun e => by rw [e, h2] at hkl; cases hkl)) hcs, getT_append, hnone i j (by omega) (fun k hk => hno k (by omega) (by omega))]
              rfl
          refine r4 e a w t lg _ Q hd hN hag hr (fun a' w' hr' => ?_)
          have hset : ∀ k, (listed.setIfInBounds i true).getD k true = true → k = i ∨ listed.getD k true = true := by
            intro k hk
            rw [getD_set hs h1] at hk
            split at hk
            · left; assumption
            · right; exact hk
          have hset2 : ∀ k, listed.getD k true = true → (listed.setIfInBounds i true).getD k true = true := by
            intro k hk
            rw [getD_set hs h1]
            split
            · rfl
            · exact hk
          have hseti : (listed.setIfInBounds i true).getD i true = true := by rw [getD_set hs h1, if_pos rfl]
          refine ih _ _ a' w' (by simp [hs]) ?_ ?_ ?_ (hset2 0 hz) hr' ?_ ?_
          · intro k hk hko d hdd
            rw [getD_set hs h1] at hk ⊢
            split
            · rfl
            · split at hk
              · rename_i hki; subst hki; exact h3 d hdd
              · exact hc k hk hko d hdd
          · intro k hk hko
            rw [getD_set hs h1, if_neg (by omega)]
            exact hl k hk hko
          · have := unl_set hs h1 h2; omega
          · intro k hk hkl dst' x' hx' hcs
            rcases hset k hkl with rfl | hkl'
            · rw [r1] at hx'; cases hx'
              exact getT_setT_self
            · by_cases hki : k = i
              · subst hki; rw [r1] at hx'; cases hx'; exact getT_setT_self
              · have hne : dst' ≠ dst := fun e' => by
                  obtain ⟨d2, x2, q1, q2, -⟩ := hrows k hk
                  rw [hx'] at q1; cases q1
                  exact ok.dst i him k hk hki (by rw [q2, r2, e'])
                rw [getT_setT_ne hne, getT_delL_ne (hcs i him hseti)]
                exact i1 k hk hkl' dst' x' hx' (fun c hc' hcl => hcs c hc' (hset2 c hcl))
          · intro j hj hcs
            have hne : j ≠ dst := fun e' => hj i him hseti (by rw [r2, e'])
            rw [getT_setT_ne hne, getT_delL_ne (hcs i him hseti)]
            exact i2 j (fun k hk hkl => hj k hk (hset2 k hkl)) (fun c hc' hcl => hcs c hc' (hset2 c hcl))
  obtain ⟨hdf, β, F, G, hx⟩ := hr
  have hfalse : ∀ i, i < ops.size → (Array.replicate ops.size false).getD i true = false := fun i hi => by simp [Array.getD_eq_getD_getElem?, hi]
  have hsz : 0 < ops.size := by have := ok.le; omega
  refine wp_mono (Q := Q) (wp_region_any hmx ?_) (fun ex a w h => h.2)
  have hr0 : Rel e ⟨t0, H, lg⟩ a { w with drawn := w.drawn + 1 } := ⟨hdf, β, F, G, hx.draw⟩
  have hdep0 : deps ops 0 = [] := by
    cases hdp : deps ops 0 with
    | nil => rfl
    | cons a l => have := ok.dep 0 hsz a (by rw [hdp]; simp); omega
  obtain ⟨n, hn⟩ : ∃ n, ops.size = n + 1 := ⟨ops.size - 1, by omega⟩
  have hy : Yields cx.P ops o0 (a.eval x0) a := .inl ⟨by simp [Region.wanted, hg0], fun w => by simp [execOp, hop0, Sem.run, pure]⟩
  have hready0 : 0 ∈ Region.ready .any ops (Array.replicate ops.size false) := ready_iff.2 ⟨hsz, hfalse 0 hsz, fun d hd => by rw [hdep0] at hd; simp at hd⟩
  have hgoal := wpAny_first (P := cx.P) (md := .any) (Q := Q) ho0 (Region.noSelect_spec hns) (fun c a w h => absurd rfl (h.1 c)) n (Array.replicate ops.size false) a { w with drawn := w.drawn + 1 }
    (fun j oj hoj hne _ hno => freeAt0_ok hfr0 j oj hoj hne hno) hready0 hy
  have hgoal2 : wpAny cx.P .any ops Q (n + 1) (Array.replicate ops.size false) a { w with drawn := w.drawn + 1 } := by
    refine hgoal ?_
    obtain ⟨dst, x, r1, r2, r3, r4, r5, r6⟩ := hrows 0 hm0
    have hag : Agree t0 ((xs.take 0).reverse ++ t0) (usAt ops 0) := by simp [Agree]
    have hw := r4 e a _ t0 lg (wpAny cx.P .any ops Q n ((Array.replicate ops.size false).setIfInBounds 0 true)) Q hd hN hag hr0 (fun a' w' hr' => ?_)
    · simp only [wpOp, ho0] at hw
      rw [if_pos (by simp [Region.wanted, hg0])] at hw
      rcases hw with hw | hw
      · simpa [Oper.wp, execOp, hop0, Sem.run, pure, Oper.upon] using hw
      · exfalso
        have := hw.1.1
        have hp : (Sem.pure (Next.value (a.eval x0)) : Sem Next).runT cx.P { w with drawn := w.drawn + 1 } #[] = (.ok (.value (a.eval x0)) { w with drawn := w.drawn + 1 }, #[]) := rfl
        have he : execOp a.eval o0 = Sem.pure (Next.value (a.eval x0)) := by simp [execOp, hop0, pure]
        rw [he, hp] at this
        simp at this
    · have hset : ∀ k, ((Array.replicate ops.size false).setIfInBounds 0 true).getD k true = true → k < ops.size → k = 0 := by
        intro k hk hko
        rw [getD_set (n := ops.size) (by simp) hsz] at hk
        split at hk
        · assumption
        · rw [hfalse k hko] at hk; cases hk
      have hset0 : ((Array.replicate ops.size false).setIfInBounds 0 true).getD 0 true = true := by rw [getD_set (n := ops.size) (by simp) hsz, if_pos rfl]
      refine key n _ _ a' w' (by simp) ?_ ?_ ?_ hset0 hr' ?_ ?_
      · intro k hk hko d hdd
        rw [hset k hk hko, hdep0] at hdd
        simp at hdd
      · intro k hk hko
        rw [getD_set (n := ops.size) (by simp) hsz, if_neg (by omega)]
        exact hfalse k hko
      · have h1 := unl_set (n := ops.size) (i := 0) (listed := Array.replicate ops.size false) (by simp) hsz (hfalse 0 hsz)
        have h2 : unl (Array.replicate ops.size false) ops.size ≤ ops.size := by unfold unl; exact Nat.le_trans List.countP_le_length (by simp)
        omega
      · intro k hk hkl dst' x' hx' hcs
        have hk0 := hset k hkl (by have := ok.le; omega)
        subst hk0
        rw [r1] at hx'; cases hx'
        exact getT_setT_self
      · intro j hj hcs
        have hne : j ≠ dst := fun e' => hj 0 hm0 hset0 (by rw [r2, e'])
        rw [getT_setT_ne hne, getT_delL_ne (hcs 0 hm0 hset0)]
  rw [← hn] at hgoal2
  exact hgoal2
def moveAt0 (ops : Array Oper) : Bool := match ops[0]? with
  | some o => (match o.op with | .move _ => true | _ => false) && o.guard.isNone && o.dst.isSome && freeAt0 ops o && Region.noSelect ops
  | none => false
/-- a drawn region that begins with a `move` that not all of the tail waits for: the move is taken first -/
theorem DrawK.introF {cx kv id ops t H lg K} (m : Nat) (keep : List Nat) (hmx : cx.P.follows .mixedOrders = true) (hm0 : 0 < m) (h0 : moveAt0 ops = true) (hchk : drawChkF ops m = true) (hkeep : keep.Nodup)
    (h : FRun' cx ops m H (FTail cx ops m keep H lg (kvK kv K)) m 0 t []) : DrawK cx kv id ops ⟨t, H, lg⟩ K := by
  unfold moveAt0 at h0
  split at h0
  · rename_i o ho
    simp only [Bool.and_eq_true, Option.isNone_iff_eq_none] at h0
    obtain ⟨⟨⟨⟨h1, h2⟩, h3⟩, h4⟩, h5⟩ := h0
    obtain ⟨d0, h3⟩ := Option.isSome_iff_exists.1 h3
    split at h1
    · rename_i x0 hx0
      refine SCode.drawF m keep hmx hm0 ho hx0 h2 h3 h4 h5 hchk hkeep ?_
      refine FRun'.to (FRun'.mono (fun val cs hv => ?_) h)
      exact ⟨hv.1, SOps.mono (POps.sound hv.2) fun s' hs => by
        refine SOps.ghost (Ghost.keep (fun e => kv.contains e.1)) (SOps.nil ?_)
        rw [← keepV_filter]; exact hs⟩
    · cases h1
  · cases h0
end Go.Px

namespace Go.Proofs.Ytnlbjfdmjlnlgaa
open Go Go.Px Go.RowKit Go.Proofs
set_option linter.unnecessarySimpa false
set_option linter.unusedVariables false
set_option linter.unusedSimpArgs false
set_option maxRecDepth 100000
attribute [-simp] Int.not_le Int.not_lt
def beginF (x : DEngine) : DEngine := { x with next := x.next + 1, txns := x.txns ++ [⟨x.next, x.clock, 1, 0, []⟩] }
def beginC (x : DEngine) : Int := if x.txns.length = 20 ∨ x.next = 999 then 2 else 0
def beginY (x : DEngine) : Int × DEngine := if x.txns.length = 20 ∨ x.next = 999 then (0, x) else (x.next, beginF x)
theorem impl_BeginTxn_1 (H : HH) {r v c y} {x : DEngine} (hl : x.le 1048576) (hx : 1 ≤ x.next ∧ x.next ≤ 999) (hR : (beginY x).1 = v ∧ beginC x = c ∧ (beginY x).2 = y) (hr0 : r.1 ≠ 0) (hrc : ∀ q, CleanH (hit [(r, q)]) H) :
    PUpdR Try.prog 28 [.c (.pt r [] 4 0 0)] ((r, .own 4 [x.enc]) :: H) (.t [I v, I c]) ((r, .own 4 [y.enc]) :: H) r := by
  obtain ⟨⟨b1, b1p⟩, b2, b2p⟩ := hl
  obtain ⟨rfl, rfl, rfl⟩ := hR
  refine PUpdR.of [0, 2, 3, 16] Try.func28 rfl (by simp [Try.f28]) ?_
  intro d hd0 hfr0 hcl0 hout0
  have hrn : ∀ n, ¬ r = (d, n) := fun n h => by have := hfr0 n; rw [look_cons, if_pos h] at this; cases this
  have hrm : ∀ n, ¬ (d, n) = r := fun n h => hrn n h.symm
  have hrd : ¬ r.1 = d := fun h => hrn r.2 (by rw [← h])
  have hfr : ∀ n, Px.look H (d, n) = none := fun n => by have := hfr0 n; rwa [look_cons, if_neg (hrn n)] at this
  have hcl : CleanH (atD d) H := ((CleanH_cons _ _ _ _).1 hcl0).2
  have hout : outH d H = H := by have := hout0; rw [outH_cons, if_neg hrd] at this; exact (List.cons.inj this).2
  have hcd : ∀ n q, CleanH (hit [((d, n), q)]) H := fun n q => hcl.at
  clear hfr0 hcl0 hout0
  simp (maxSteps := 4000000) [hd0, hfr, hout, hcl, hcd, delA_none, hrn, hrm, hrd, hr0, hrc, Try.f28]
  have w1 : IntKind.i64.wrap (x.next + 1) = x.next + 1 := w64 (by omega) (by omega)
  have w2 : IntKind.i64.wrap (x.next + 1 - 1) = x.next := by rw [w64 (by omega) (by omega)]; omega
  by_cases e1 : x.txns.length = 20
  · simp (maxSteps := 4000000) [hd0, hfr, hout, hcl, hcd, delA_none, hrn, hrm, hrd, hr0, hrc, DEngine.enc, e1, beginC, beginY]
  by_cases e2 : x.next = 999
  · simp (maxSteps := 4000000) [hd0, hfr, hout, hcl, hcd, delA_none, hrn, hrm, hrd, hr0, hrc, DEngine.enc, eq_false (show ¬ (x.txns.length : Int) = 20 by omega), e1, e2, beginC, beginY]
  have hC : beginC x = 0 := by unfold beginC; rw [if_neg (by omega)]
  have hY : beginY x = (x.next, beginF x) := by unfold beginY; rw [if_neg (by omega)]
  rw [hC, hY]
  simp (maxSteps := 4000000) [hd0, hfr, hout, hcl, hcd, delA_none, hrn, hrm, hrd, hr0, hrc, DEngine.enc, eq_false (show ¬ (x.txns.length : Int) = 20 by omega), eq_false e1, eq_false e2]
  refine DrawK.introF 15 [0, 17, 21, 31] rfl (by decide) (by kernel_rfl) (by kernel_rfl) (by decide) ?_
  simp (maxSteps := 4000000) [hd0, hfr, hout, hcl, hcd, delA_none, hrn, hrm, hrd, hr0, hrc, DEngine.enc, w1, w2, beginF]
  exact ⟨by kernel_rfl, by omega, w64 (by omega) (by omega), rfl⟩
theorem engF_len {x : DEngine} (h : engF x = 0) : x.txns.length ≤ 20 := by
  unfold engF at h
  split at h
  · omega
  · split at h
    · omega
    · omega
def beginR (x : DEngine) : DEngineResult := resF x (beginY x).2 (beginY x).1 (beginC x)
theorem impl_BeginTxn (H : HH) {r1 q1 r2 q2} {x : DEngine} (hl : x.le 1048576) (a1 : arrAt H r1 q1 = some (5, x.txns.map DTxn.enc)) (a2 : arrAt H r2 q2 = some (2, x.rows.map DRow.enc)) :
    PFun Try.prog 9 [.a (eRow x r1 q1 r2 q2)] H (.a (beginR x).enc) := by
  have hC : ∀ H', arrAt H' r1 q1 = some (5, x.txns.map DTxn.enc) → arrAt H' r2 q2 = some (2, x.rows.map DRow.enc) →
      PFun Try.prog 27 [.a (eRow x r1 q1 r2 q2), .c (.fn 28 [])] H' (.a (beginR x).enc) := fun H' h1 h2 =>
    impl_changed0 H' (g := 28) (v := (beginY x).1) (c := beginC x) (y := (beginY x).2) (x := x) hl (by simp) (fun e0 r H0 hr0 hrc => impl_BeginTxn_1 H0 hl (engF_clock e0).1 ⟨rfl, rfl, rfl⟩ hr0 hrc) h1 h2
  generalize beginR x = R at *
  simp only [eRow] at hC
  refine PFun.of [1, 2] Try.func9 rfl (by simp [Try.f9]) ?_
  intro d hd0 hfr hcl hout
  have hcd : ∀ n q, CleanH (hit [((d, n), q)]) H := fun n q => hcl.at
  have a1_n : ∀ n, ¬ (d, n) = r1 := fun n => nm_ne (ne_of_arr hfr a1)
  have a1_d : ¬ r1.1 = d := ne_of_arr hfr a1
  have a1_m : ∀ n, ¬ r1 = (d, n) := fun n => nm_ne' (ne_of_arr hfr a1)
  have a2_n : ∀ n, ¬ (d, n) = r2 := fun n => nm_ne (ne_of_arr hfr a2)
  have a2_d : ¬ r2.1 = d := ne_of_arr hfr a2
  have a2_m : ∀ n, ¬ r2 = (d, n) := fun n => nm_ne' (ne_of_arr hfr a2)
  simp (maxSteps := 4000000) [hd0, hfr, hout, hcl, hcd, delA_none, a1, a1_n, a1_d, a1_m, a2, a2_n, a2_d, a2_m, Try.f9, eRow]
  refine (hC _ (by simp (maxSteps := 4000000) [hd0, hfr, hout, hcl, hcd, delA_none, a1, a1_n, a1_d, a1_m, a2, a2_n, a2_d, a2_m]) (by simp (maxSteps := 4000000) [hd0, hfr, hout, hcl, hcd, delA_none, a1, a1_n, a1_d, a1_m, a2, a2_n, a2_d, a2_m])).useCK ?_
  simp (maxSteps := 4000000) [hd0, hfr, hout, hcl, hcd, delA_none, a1, a1_n, a1_d, a1_m, a2, a2_n, a2_d, a2_m, DEngineResult.enc]
set_option maxHeartbeats 4000000 in
theorem spec_BeginTxn (H : HH) {r1 q1 r2 q2} {x : DEngine} (hl : x.le 1048576) (a1 : arrAt H r1 q1 = some (5, x.txns.map DTxn.enc)) (a2 : arrAt H r2 q2 = some (2, x.rows.map DRow.enc)) :
    PFun Try.prog 7 [.a (eRow x r1 q1 r2 q2)] H (.a (beginR x).enc) := by
  refine PFun.of [1, 2, 3, 4, 7, 18] Try.func7 rfl (by simp [Try.f7]) ?_
  intro d hd0 hfr hcl hout
  have hcd : ∀ n q, CleanH (hit [((d, n), q)]) H := fun n q => hcl.at
  have a1_n : ∀ n, ¬ (d, n) = r1 := fun n => nm_ne (ne_of_arr hfr a1)
  have a1_d : ¬ r1.1 = d := ne_of_arr hfr a1
  have a1_m : ∀ n, ¬ r1 = (d, n) := fun n => nm_ne' (ne_of_arr hfr a1)
  have a2_n : ∀ n, ¬ (d, n) = r2 := fun n => nm_ne (ne_of_arr hfr a2)
  have a2_d : ¬ r2.1 = d := ne_of_arr hfr a2
  have a2_m : ∀ n, ¬ r2 = (d, n) := fun n => nm_ne' (ne_of_arr hfr a2)
  simp (maxSteps := 4000000) [hd0, hfr, hout, hcl, hcd, delA_none, a1, a1_n, a1_d, a1_m, a2, a2_n, a2_d, a2_m, Try.f7, eRow]
  refine (spec_l6Fault _ (x := x) (r1 := r1) (q1 := q1) (r2 := r2) (q2 := q2) hl (by simp (maxSteps := 4000000) [hd0, hfr, hout, hcl, hcd, delA_none, a1, a1_n, a1_d, a1_m, a2, a2_n, a2_d, a2_m, eRow]) (by simp (maxSteps := 4000000) [hd0, hfr, hout, hcl, hcd, delA_none, a1, a1_n, a1_d, a1_m, a2, a2_n, a2_d, a2_m]) (by simp (maxSteps := 4000000) [hd0, hfr, hout, hcl, hcd, delA_none, a1, a1_n, a1_d, a1_m, a2, a2_n, a2_d, a2_m])).useCK ?_
  by_cases e0 : engF x = 0
  case neg =>
    have hR : beginR x = badE (engF x) := by unfold beginR resF; rw [if_pos e0]
    rw [hR]
    simp (maxSteps := 4000000) [hd0, hfr, hout, hcl, hcd, delA_none, a1, a1_n, a1_d, a1_m, a2, a2_n, a2_d, a2_m, eq_false e0]
    refine (spec_l6Bad _).useCK ?_
    simp (maxSteps := 4000000) [hd0, hfr, hout, hcl, hcd, delA_none, a1, a1_n, a1_d, a1_m, a2, a2_n, a2_d, a2_m, badE, DEngineResult.enc]
  have hlen := engF_len e0
  have hx := engF_clock e0
  rw [e0]
  by_cases e1 : x.txns.length = 20
  · have hR : beginR x = badE 2 := by unfold beginR resF beginC; rw [if_neg (by simp [e0]), if_pos (Or.inl e1)]; rfl
    rw [hR]
    simp (maxSteps := 4000000) [hd0, hfr, hout, hcl, hcd, delA_none, a1, a1_n, a1_d, a1_m, a2, a2_n, a2_d, a2_m, eq_true (show (20 : Int) ≤ (x.txns.length : Int) by omega)]
    refine (spec_l6Bad _).useCK ?_
    simp (maxSteps := 4000000) [hd0, hfr, hout, hcl, hcd, delA_none, a1, a1_n, a1_d, a1_m, a2, a2_n, a2_d, a2_m, badE, DEngineResult.enc]
  by_cases e2 : x.next = 999
  · have hR : beginR x = badE 2 := by unfold beginR resF beginC; rw [if_neg (by simp [e0]), if_pos (Or.inr e2)]; rfl
    rw [hR]
    simp (maxSteps := 4000000) [hd0, hfr, hout, hcl, hcd, delA_none, a1, a1_n, a1_d, a1_m, a2, a2_n, a2_d, a2_m, eq_false (show ¬ (20 : Int) ≤ (x.txns.length : Int) by omega), e2]
    refine (spec_l6Bad _).useCK ?_
    simp (maxSteps := 4000000) [hd0, hfr, hout, hcl, hcd, delA_none, a1, a1_n, a1_d, a1_m, a2, a2_n, a2_d, a2_m, badE, DEngineResult.enc]
  have hR : beginR x = ⟨0, x.next, beginF x⟩ := by unfold beginR resF beginC beginY; rw [if_neg (by simp [e0]), if_neg (by omega), if_neg (by omega)]
  rw [hR]
  have w1 : IntKind.i64.wrap (x.next + 1) = x.next + 1 := w64 (by omega) (by omega)
  simp (maxSteps := 4000000) [hd0, hfr, hout, hcl, hcd, delA_none, a1, a1_n, a1_d, a1_m, a2, a2_n, a2_d, a2_m, eq_false (show ¬ (20 : Int) ≤ (x.txns.length : Int) by omega), eq_false e2]
  refine (spec_l6Copy _ (x := x) (r1 := r1) (q1 := q1) (r2 := r2) (q2 := q2) hl (by simp (maxSteps := 4000000) [hd0, hfr, hout, hcl, hcd, delA_none, a1, a1_n, a1_d, a1_m, a2, a2_n, a2_d, a2_m]) (by simp (maxSteps := 4000000) [hd0, hfr, hout, hcl, hcd, delA_none, a1, a1_n, a1_d, a1_m, a2, a2_n, a2_d, a2_m])).useCK ?_
  simp (maxSteps := 4000000) [hd0, hfr, hout, hcl, hcd, delA_none, a1, a1_n, a1_d, a1_m, a2, a2_n, a2_d, a2_m, DEngine.enc, beginF, w1, DEngineResult.enc]
  exact ⟨by omega, rfl⟩
theorem beginR_le {x : DEngine} (h : x.le 1048576) : (beginR x).le 1048576 := by
  unfold beginR resF
  split
  · exact badE_le
  · rename_i he
    split
    · exact badE_le
    · show DEngine.le 1048576 _
      unfold beginY
      split
      · exact h
      · obtain ⟨⟨b1, b1p⟩, b2, b2p⟩ := h
        have := engF_len (x := x) (by simpa using he)
        refine ⟨⟨by simp [beginF]; omega, fun y hy => ?_⟩, b2, b2p⟩
        simp only [beginF, List.mem_append, List.mem_singleton] at hy
        rcases hy with hy | rfl
        · exact b1p y hy
        · simp [DTxn.le]
end Go.Proofs.Ytnlbjfdmjlnlgaa

namespace Go.Proofs.Ytnlbjfdmjlnlgaa
open Go Go.Px Go.RowKit Go.Proofs
set_option linter.unnecessarySimpa false
set_option linter.unusedVariables false
set_option linter.unusedSimpArgs false
set_option maxRecDepth 100000
attribute [-simp] Int.not_le Int.not_lt
theorem laws_FnExactBeginTxn (H : HH) {r0_2 q0_2} {r0_3 q0_3} {x0 : DEngine} (w0 : x0.wf) (hm0 : x0.le 9223372036854775807)
    (a0_2 : arrAt H r0_2 q0_2 = some (5, x0.txns.map DTxn.enc)) (a0_3 : arrAt H r0_3 q0_3 = some (2, x0.rows.map DRow.enc)) :
    PFun Try.prog 3 [.a [.v (.int .i64 x0.next), .v (.int .i64 x0.clock), .sl r0_2 q0_2 5 0 x0.txns.length, .sl r0_3 q0_3 2 0 x0.rows.length]] H (B true) := by
  refine PFun.of [1, 2, 3, 4, 5, 6, 7, 8, 9, 10, 15, 26, 31, 42, 50, 53, 60, 65, 68] Try.func3 rfl (by simp [Try.f3]) ?_
  intro d hd0 hfr hcl hout
  have hcd : ∀ n q, CleanH (hit [((d, n), q)]) H := fun n q => hcl.at
  have a0_2_n : ∀ n, ¬ (d, n) = r0_2 := fun n => nm_ne (ne_of_arr hfr a0_2)
  have a0_2_d : ¬ r0_2.1 = d := ne_of_arr hfr a0_2
  have a0_2_m : ∀ n, ¬ r0_2 = (d, n) := fun n => nm_ne' (ne_of_arr hfr a0_2)
  have a0_3_n : ∀ n, ¬ (d, n) = r0_3 := fun n => nm_ne (ne_of_arr hfr a0_3)
  have a0_3_d : ¬ r0_3.1 = d := ne_of_arr hfr a0_3
  have a0_3_m : ∀ n, ¬ r0_3 = (d, n) := fun n => nm_ne' (ne_of_arr hfr a0_3)
  simp (maxSteps := 4000000) [hd0, hfr, hout, hcl, hcd, delA_none, a0_2, a0_2_n, a0_2_d, a0_2_m, a0_3, a0_3_n, a0_3_d, a0_3_m, Try.f3]
  have hok0 := DEngine.ok.2 hm0
  refine (laws_szEngine _ (row := x0.enc) hok0 (by simp only [DEngine.enc, Refs_v, Refs_own, Refs_nil, List.length_map]; exact ⟨_, rfl, ⟨_, rfl, ⟨_, _, _, rfl, by simp (maxSteps := 4000000) [hd0, hfr, hout, hcl, hcd, delA_none, a0_2, a0_2_n, a0_2_d, a0_2_m, a0_3, a0_3_n, a0_3_d, a0_3_m], ⟨_, _, _, rfl, by simp (maxSteps := 4000000) [hd0, hfr, hout, hcl, hcd, delA_none, a0_2, a0_2_n, a0_2_d, a0_2_m, a0_3, a0_3_n, a0_3_d, a0_3_m], rfl⟩⟩⟩⟩) (by omega) (by omega)).useCK ?_
  by_cases s0 : (cntR x0.enc : Int) ≤ 1048576
  case neg => rw [szV_neg s0]; simp (maxSteps := 4000000) [hd0, hfr, hout, hcl, hcd, delA_none, a0_2, a0_2_n, a0_2_d, a0_2_m, a0_3, a0_3_n, a0_3_d, a0_3_m]
  rw [szV_pos s0]
  obtain ⟨L1, hL1⟩ : ∃ L : Int, L = 1048576 - (cntR x0.enc : Int) := ⟨_, rfl⟩
  rw [← hL1]
  simp (maxSteps := 4000000) [hd0, hfr, hout, hcl, hcd, delA_none, a0_2, a0_2_n, a0_2_d, a0_2_m, a0_3, a0_3_n, a0_3_d, a0_3_m, show ¬ (L1 < 0) by omega]
  have hok02 : okEngine 1048576 x0.enc := okEngine_le hok0 (by omega)
  have hl0 : x0.le 1048576 := DEngine.ok.1 hok02
  have hT0 : ∀ H {r0_2 q0_2} {r0_3 q0_3}, arrAt H r0_2 q0_2 = some (5, x0.txns.map DTxn.enc) → arrAt H r0_3 q0_3 = some (2, x0.rows.map DRow.enc) → PFun Try.prog 8 [.a [.v (.int .i64 x0.next), .v (.int .i64 x0.clock), .sl r0_2 q0_2 5 0 x0.txns.length, .sl r0_3 q0_3 2 0 x0.rows.length]] H (.a [.v (.int .i64 x0.next), .v (.int .i64 x0.clock), .own 5 (x0.txns.map DTxn.enc), .own 2 (x0.rows.map DRow.enc)]) := fun H r0_2 q0_2 r0_3 q0_3 h0 h1 =>
    laws_toEngine H (row := x0.enc) hok02 (by simp only [DEngine.enc, Refs_v, Refs_own, Refs_nil, List.length_map]; exact ⟨_, rfl, ⟨_, rfl, ⟨_, _, _, rfl, h0, ⟨_, _, _, rfl, h1, rfl⟩⟩⟩⟩)
  obtain ⟨y, hy⟩ : ∃ y, y = beginR x0 := ⟨_, rfl⟩
  have hyl : y.le 1048576 := by rw [hy]; exact beginR_le hl0
  have hSr : ∀ H {r0_2 q0_2} {r0_3 q0_3}, arrAt H r0_2 q0_2 = some (5, x0.txns.map DTxn.enc) → arrAt H r0_3 q0_3 = some (2, x0.rows.map DRow.enc) → PFun Try.prog 7 [.a [.v (.int .i64 x0.next), .v (.int .i64 x0.clock), .sl r0_2 q0_2 5 0 x0.txns.length, .sl r0_3 q0_3 2 0 x0.rows.length]] H (.a y.enc) := fun H r0_2 q0_2 r0_3 q0_3 h0 h1 => by rw [hy]; exact spec_BeginTxn _ hl0 h0 h1
  have hIr : ∀ H {r0_2 q0_2} {r0_3 q0_3}, arrAt H r0_2 q0_2 = some (5, x0.txns.map DTxn.enc) → arrAt H r0_3 q0_3 = some (2, x0.rows.map DRow.enc) → PFun Try.prog 9 [.a [.v (.int .i64 x0.next), .v (.int .i64 x0.clock), .sl r0_2 q0_2 5 0 x0.txns.length, .sl r0_3 q0_3 2 0 x0.rows.length]] H (.a y.enc) := fun H r0_2 q0_2 r0_3 q0_3 h0 h1 => by rw [hy]; exact impl_BeginTxn _ hl0 h0 h1
  have hS : ∀ H, PFun Try.prog 7 [.a [.v (.int .i64 x0.next), .v (.int .i64 x0.clock), .own 5 (x0.txns.map DTxn.enc), .own 2 (x0.rows.map DRow.enc)]] H (.a y.enc) := fun H => PFun.root rfl (fun d => y.pure _) (fun d hd hf => by simpa using hSr _ (r0_2 := (d, 2)) (q0_2 := []) (r0_3 := (d, 3)) (q0_3 := []) (by simp) (by simp))
  have hI : ∀ H, PFun Try.prog 9 [.a [.v (.int .i64 x0.next), .v (.int .i64 x0.clock), .own 5 (x0.txns.map DTxn.enc), .own 2 (x0.rows.map DRow.enc)]] H (.a y.enc) := fun H => PFun.root rfl (fun d => y.pure _) (fun d hd hf => by simpa using hIr _ (r0_2 := (d, 2)) (q0_2 := []) (r0_3 := (d, 3)) (q0_3 := []) (by simp) (by simp))
  clear hy
  have hyok : okEngineResult 1048576 y.enc := DEngineResult.ok.2 hyl
  have hylv := okEngineResult_lvsb hyok
  have hE : ∀ H {n m : Nat}, arrAt H (d, n) [] = some (6, [y.enc]) → arrAt H (d, m) [] = some (6, [y.enc]) → PFun Try.prog 10 [.a [.v (.int .i64 y.code), .v (.int .i64 y.value), .v (.int .i64 y.engine.next), .v (.int .i64 y.engine.clock), .sl (d, n) [(0, 4)] 5 0 y.engine.txns.length, .sl (d, n) [(0, 5)] 2 0 y.engine.rows.length], .a [.v (.int .i64 y.code), .v (.int .i64 y.value), .v (.int .i64 y.engine.next), .v (.int .i64 y.engine.clock), .sl (d, m) [(0, 4)] 5 0 y.engine.txns.length, .sl (d, m) [(0, 5)] 2 0 y.engine.rows.length]] H (B true) := fun H n m h1 h2 =>
    laws_eqEngineResult H (row := y.enc) hyok (by simp only [DEngineResult.enc, Refs_v, Refs_own, Refs_nil, List.length_map]; exact ⟨_, rfl, ⟨_, rfl, ⟨_, rfl, ⟨_, rfl, ⟨_, _, _, rfl, arrAt_sub h1 (i := 0) (f := 4) rfl rfl, ⟨_, _, _, rfl, arrAt_sub h1 (i := 0) (f := 5) rfl rfl, rfl⟩⟩⟩⟩⟩⟩) (by simp only [DEngineResult.enc, Refs_v, Refs_own, Refs_nil, List.length_map]; exact ⟨_, rfl, ⟨_, rfl, ⟨_, rfl, ⟨_, rfl, ⟨_, _, _, rfl, arrAt_sub h2 (i := 0) (f := 4) rfl rfl, ⟨_, _, _, rfl, arrAt_sub h2 (i := 0) (f := 5) rfl rfl, rfl⟩⟩⟩⟩⟩⟩)
  refine (hT0 _ (by simp (maxSteps := 4000000) [hd0, hfr, hout, hcl, hcd, delA_none, a0_2, a0_2_n, a0_2_d, a0_2_m, a0_3, a0_3_n, a0_3_d, a0_3_m]) (by simp (maxSteps := 4000000) [hd0, hfr, hout, hcl, hcd, delA_none, a0_2, a0_2_n, a0_2_d, a0_2_m, a0_3, a0_3_n, a0_3_d, a0_3_m])).useCK ?_
  simp (maxSteps := 4000000) [hd0, hfr, hout, hcl, hcd, delA_none, a0_2, a0_2_n, a0_2_d, a0_2_m, a0_3, a0_3_n, a0_3_d, a0_3_m]
  refine (hS _).useCK ?_
  simp (maxSteps := 4000000) [hd0, hfr, hout, hcl, hcd, delA_none, a0_2, a0_2_n, a0_2_d, a0_2_m, a0_3, a0_3_n, a0_3_d, a0_3_m, DEngineResult.enc]
  refine (hT0 _ (by simp (maxSteps := 4000000) [hd0, hfr, hout, hcl, hcd, delA_none, a0_2, a0_2_n, a0_2_d, a0_2_m, a0_3, a0_3_n, a0_3_d, a0_3_m]) (by simp (maxSteps := 4000000) [hd0, hfr, hout, hcl, hcd, delA_none, a0_2, a0_2_n, a0_2_d, a0_2_m, a0_3, a0_3_n, a0_3_d, a0_3_m])).useCK ?_
  simp (maxSteps := 4000000) [hd0, hfr, hout, hcl, hcd, delA_none, a0_2, a0_2_n, a0_2_d, a0_2_m, a0_3, a0_3_n, a0_3_d, a0_3_m]
  refine (hIr _ (by simp (maxSteps := 4000000) [hd0, hfr, hout, hcl, hcd, delA_none, a0_2, a0_2_n, a0_2_d, a0_2_m, a0_3, a0_3_n, a0_3_d, a0_3_m]) (by simp (maxSteps := 4000000) [hd0, hfr, hout, hcl, hcd, delA_none, a0_2, a0_2_n, a0_2_d, a0_2_m, a0_3, a0_3_n, a0_3_d, a0_3_m])).useCK ?_
  simp (maxSteps := 4000000) [hd0, hfr, hout, hcl, hcd, delA_none, a0_2, a0_2_n, a0_2_d, a0_2_m, a0_3, a0_3_n, a0_3_d, a0_3_m, DEngineResult.enc]
  refine (hE _ (by simp (maxSteps := 4000000) [hd0, hfr, hout, hcl, hcd, delA_none, a0_2, a0_2_n, a0_2_d, a0_2_m, a0_3, a0_3_n, a0_3_d, a0_3_m, DEngineResult.enc]) (by simp (maxSteps := 4000000) [hd0, hfr, hout, hcl, hcd, delA_none, a0_2, a0_2_n, a0_2_d, a0_2_m, a0_3, a0_3_n, a0_3_d, a0_3_m, DEngineResult.enc])).useCK ?_
  simp (maxSteps := 4000000) [hd0, hfr, hout, hcl, hcd, delA_none, a0_2, a0_2_n, a0_2_d, a0_2_m, a0_3, a0_3_n, a0_3_d, a0_3_m]
  refine DrawK.intro 5 [1, 4, 5, 6, 31] rfl (by kernel_rfl) (by decide) ?_
  simp (maxSteps := 4000000) [hd0, hfr, hout, hcl, hcd, delA_none, a0_2, a0_2_n, a0_2_d, a0_2_m, a0_3, a0_3_n, a0_3_d, a0_3_m]
  refine ⟨_, hT0 _ (by simp (maxSteps := 4000000) [hd0, hfr, hout, hcl, hcd, delA_none, a0_2, a0_2_n, a0_2_d, a0_2_m, a0_3, a0_3_n, a0_3_d, a0_3_m]) (by simp (maxSteps := 4000000) [hd0, hfr, hout, hcl, hcd, delA_none, a0_2, a0_2_n, a0_2_d, a0_2_m, a0_3, a0_3_n, a0_3_d, a0_3_m]), ?_⟩
  simp (maxSteps := 4000000) [hd0, hfr, hout, hcl, hcd, delA_none, a0_2, a0_2_n, a0_2_d, a0_2_m, a0_3, a0_3_n, a0_3_d, a0_3_m]
  repeat (first | (refine And.intro (by kernel_rfl) ?_) | (refine And.intro (by omega) ?_))
  have hEx0 : ∀ H, arrAt H (d, 5) [] = some (4, [x0.enc]) → PFun Try.prog 11 [.a [.v (.int .i64 x0.next), .v (.int .i64 x0.clock), .sl (d, 5) [(0, 2)] 5 0 x0.txns.length, .sl (d, 5) [(0, 3)] 2 0 x0.rows.length], .a [.v (.int .i64 x0.next), .v (.int .i64 x0.clock), .own 5 (x0.txns.map DTxn.enc), .own 2 (x0.rows.map DRow.enc)]] H (B true) := fun H h => by
    refine PFun.root rfl (fun d => by simp) (fun d2 hd hf => ?_)
    have n1 : ∀ n, ¬ (d2, n) = (d, 5) := fun n => nm_ne (ne_of_arr hf h)
    have := laws_eqEngine (((d2, 6), .own 5 (x0.txns.map DTxn.enc)) :: ((d2, 7), .own 2 (x0.rows.map DRow.enc)) :: H) (row := x0.enc) (cs := [.v (.int .i64 x0.next), .v (.int .i64 x0.clock), .sl (d, 5) [(0, 2)] 5 0 x0.txns.length, .sl (d, 5) [(0, 3)] 2 0 x0.rows.length]) (cs' := [.v (.int .i64 x0.next), .v (.int .i64 x0.clock), .sl (d2, 6) [] 5 0 x0.txns.length, .sl (d2, 7) [] 2 0 x0.rows.length]) hok02 (by simp only [DEngine.enc, Refs_v, Refs_own, Refs_nil, List.length_map]; exact ⟨_, rfl, ⟨_, rfl, ⟨_, _, _, rfl, (by simp only [arrAt_cons, n1, if_false]; exact arrAt_sub h (i := 0) (f := 2) rfl rfl), ⟨_, _, _, rfl, (by simp only [arrAt_cons, n1, if_false]; exact arrAt_sub h (i := 0) (f := 3) rfl rfl), rfl⟩⟩⟩⟩) (by simp only [DEngine.enc, Refs_v, Refs_own, Refs_nil, List.length_map]; exact ⟨_, rfl, ⟨_, rfl, ⟨_, _, _, rfl, by simp, ⟨_, _, _, rfl, by simp, rfl⟩⟩⟩⟩)
    simpa using this
  refine ⟨_, hEx0 _ (by simp (maxSteps := 4000000) [hd0, hfr, hout, hcl, hcd, delA_none, a0_2, a0_2_n, a0_2_d, a0_2_m, a0_3, a0_3_n, a0_3_d, a0_3_m, DEngine.enc]), ?_⟩
  simp (maxSteps := 4000000) [hd0, hfr, hout, hcl, hcd, delA_none, a0_2, a0_2_n, a0_2_d, a0_2_m, a0_3, a0_3_n, a0_3_d, a0_3_m]
  have hlv0 := okEngine_lvsb hok02
  have hM0 : ∀ H, arrAt H (d, 5) [] = some (4, [x0.enc]) → PUpd Try.prog 12 [.a [.v (.int .i64 x0.next), .v (.int .i64 x0.clock), .sl (d, 5) [(0, 2)] 5 0 x0.txns.length, .sl (d, 5) [(0, 3)] 2 0 x0.rows.length], I (1)] H (I (1 + lvS x0.enc)) (setA H (d, 5) [] (.own 4 [mkS (1) x0.enc])) := fun H h => by
    have := laws_markEngine H (r := (d, 5)) (q := []) (z := 4) (i := 0) (f := 0) (rows := [x0.enc]) (pre := []) (seg := x0.enc) (post := []) (k := 1) hok02 (by omega) (by omega) h hd0 (by simp) rfl
    simpa [ldcs, ldc, DEngine.enc] using this
  have hmx0 : mkS (1) x0.enc = [.v (.int .i64 x0.next), .v (.int .i64 x0.clock), .own 5 (mkRs (1) (x0.txns.map DTxn.enc)), .own 2 (mkRs (1 + lvRs (x0.txns.map DTxn.enc)) (x0.rows.map DRow.enc))] := by simp [DEngine.enc, mkS]
  refine (hM0 _ (by simp (maxSteps := 4000000) [hd0, hfr, hout, hcl, hcd, delA_none, a0_2, a0_2_n, a0_2_d, a0_2_m, a0_3, a0_3_n, a0_3_d, a0_3_m, DEngine.enc])).useCK ?_
  simp (maxSteps := 4000000) [hd0, hfr, hout, hcl, hcd, delA_none, a0_2, a0_2_n, a0_2_d, a0_2_m, a0_3, a0_3_n, a0_3_d, a0_3_m, hmx0, show ¬ (1 + (lvS x0.enc : Int) < 0) by omega]
  refine (hE _ (by simp (maxSteps := 4000000) [hd0, hfr, hout, hcl, hcd, delA_none, a0_2, a0_2_n, a0_2_d, a0_2_m, a0_3, a0_3_n, a0_3_d, a0_3_m, DEngineResult.enc]) (by simp (maxSteps := 4000000) [hd0, hfr, hout, hcl, hcd, delA_none, a0_2, a0_2_n, a0_2_d, a0_2_m, a0_3, a0_3_n, a0_3_d, a0_3_m, DEngineResult.enc])).useCK ?_
  simp (maxSteps := 4000000) [hd0, hfr, hout, hcl, hcd, delA_none, a0_2, a0_2_n, a0_2_d, a0_2_m, a0_3, a0_3_n, a0_3_d, a0_3_m]
  have hMR : ∀ H, arrAt H (d, 6) [] = some (6, [y.enc]) → PUpd Try.prog 13 [.a [.v (.int .i64 y.code), .v (.int .i64 y.value), .v (.int .i64 y.engine.next), .v (.int .i64 y.engine.clock), .sl (d, 6) [(0, 4)] 5 0 y.engine.txns.length, .sl (d, 6) [(0, 5)] 2 0 y.engine.rows.length], I 1] H (I (1 + lvS y.enc)) (setA H (d, 6) [] (.own 6 [mkS 1 y.enc])) := fun H h => by
    have := laws_markEngineResult H (r := (d, 6)) (q := []) (z := 6) (i := 0) (f := 0) (rows := [y.enc]) (pre := []) (seg := y.enc) (post := []) (k := 1) hyok (by omega) (by omega) h hd0 (by simp) rfl
    simpa [ldcs, ldc, DEngineResult.enc] using this
  have hmy : mkS 1 y.enc = [.v (.int .i64 y.code), .v (.int .i64 y.value), .v (.int .i64 y.engine.next), .v (.int .i64 y.engine.clock), .own 5 (mkRs (1) (y.engine.txns.map DTxn.enc)), .own 2 (mkRs (1 + lvRs (y.engine.txns.map DTxn.enc)) (y.engine.rows.map DRow.enc))] := by simp [DEngineResult.enc, mkS]
  refine (hMR _ (by simp (maxSteps := 4000000) [hd0, hfr, hout, hcl, hcd, delA_none, a0_2, a0_2_n, a0_2_d, a0_2_m, a0_3, a0_3_n, a0_3_d, a0_3_m, DEngineResult.enc])).useCK ?_
  simp (maxSteps := 4000000) [hd0, hfr, hout, hcl, hcd, delA_none, a0_2, a0_2_n, a0_2_d, a0_2_m, a0_3, a0_3_n, a0_3_d, a0_3_m, hmy, mkRs_length]
  have hH : ∀ H, arrAt H (d, 6) [] = some (6, [mkS 1 y.enc]) → PFun Try.prog 14 [.a [.v (.int .i64 y.code), .v (.int .i64 y.value), .v (.int .i64 y.engine.next), .v (.int .i64 y.engine.clock), .sl (d, 6) [(0, 4)] 5 0 y.engine.txns.length, .sl (d, 6) [(0, 5)] 2 0 y.engine.rows.length], I 1] H (I (1 + lvS y.enc)) := fun H h =>
    laws_heldEngineResult H (row := y.enc) hyok (by omega) (by omega) (by rw [hmy] at h ⊢; simp only [Refs_v, Refs_own, Refs_nil, List.length_map, mkRs_length]; exact ⟨_, rfl, ⟨_, rfl, ⟨_, rfl, ⟨_, rfl, ⟨_, _, _, rfl, arrAt_sub h (i := 0) (f := 4) rfl rfl, ⟨_, _, _, rfl, arrAt_sub h (i := 0) (f := 5) rfl rfl, rfl⟩⟩⟩⟩⟩⟩)
  refine (hH _ (by simp (maxSteps := 4000000) [hd0, hfr, hout, hcl, hcd, delA_none, a0_2, a0_2_n, a0_2_d, a0_2_m, a0_3, a0_3_n, a0_3_d, a0_3_m, hmy])).useCK ?_
  simp (maxSteps := 4000000) [hd0, hfr, hout, hcl, hcd, delA_none, a0_2, a0_2_n, a0_2_d, a0_2_m, a0_3, a0_3_n, a0_3_d, a0_3_m, hmy, mkRs_length, show ¬ (1 + (lvS y.enc : Int) < 0) by omega]
  refine (hT0 _ (by simp (maxSteps := 4000000) [hd0, hfr, hout, hcl, hcd, delA_none, a0_2, a0_2_n, a0_2_d, a0_2_m, a0_3, a0_3_n, a0_3_d, a0_3_m]) (by simp (maxSteps := 4000000) [hd0, hfr, hout, hcl, hcd, delA_none, a0_2, a0_2_n, a0_2_d, a0_2_m, a0_3, a0_3_n, a0_3_d, a0_3_m])).useCK ?_
  simp (maxSteps := 4000000) [hd0, hfr, hout, hcl, hcd, delA_none, a0_2, a0_2_n, a0_2_d, a0_2_m, a0_3, a0_3_n, a0_3_d, a0_3_m, hmy, mkRs_length]
  refine (hI _).useCK ?_
  simp (maxSteps := 4000000) [hd0, hfr, hout, hcl, hcd, delA_none, a0_2, a0_2_n, a0_2_d, a0_2_m, a0_3, a0_3_n, a0_3_d, a0_3_m, hmy, mkRs_length, DEngineResult.enc]
  refine (hE _ (by simp (maxSteps := 4000000) [hd0, hfr, hout, hcl, hcd, delA_none, a0_2, a0_2_n, a0_2_d, a0_2_m, a0_3, a0_3_n, a0_3_d, a0_3_m, DEngineResult.enc]) (by simp (maxSteps := 4000000) [hd0, hfr, hout, hcl, hcd, delA_none, a0_2, a0_2_n, a0_2_d, a0_2_m, a0_3, a0_3_n, a0_3_d, a0_3_m, DEngineResult.enc])).useCK ?_
  simp (maxSteps := 4000000) [hd0, hfr, hout, hcl, hcd, delA_none, a0_2, a0_2_n, a0_2_d, a0_2_m, a0_3, a0_3_n, a0_3_d, a0_3_m, hmy, mkRs_length, mkRs_length]
  refine (hH _ (by simp (maxSteps := 4000000) [hd0, hfr, hout, hcl, hcd, delA_none, a0_2, a0_2_n, a0_2_d, a0_2_m, a0_3, a0_3_n, a0_3_d, a0_3_m, hmy])).useCK ?_
  simp (maxSteps := 4000000) [hd0, hfr, hout, hcl, hcd, delA_none, a0_2, a0_2_n, a0_2_d, a0_2_m, a0_3, a0_3_n, a0_3_d, a0_3_m, hmy, mkRs_length, show ¬ (1 + (lvS y.enc : Int) < 0) by omega]
  try simp [DEngineResult.enc]
end Go.Proofs.Ytnlbjfdmjlnlgaa

namespace Go.Px
set_option linter.unusedSimpArgs false
open Go.RowKit Go.Deep
set_option linter.unusedVariables false
/-- Values that are read as cells, whatever references mean. -/
def In (w : World) (L : List Cell) (V : List Value) : Prop := ∃ F, (∀ R, VRep R w L V F) ∧ ∀ b ∈ F, b < w.heap.size
theorem In.nil {w} : In w [] [] := ⟨[], fun _ => .nil, by simp⟩
theorem In.append {w L V L' V'} (h : In w L V) (h' : In w L' V') : In w (L ++ L') (V ++ V') := by
  obtain ⟨F, h1, h2⟩ := h
  obtain ⟨F', h3, h4⟩ := h'
  exact ⟨F ++ F', fun R => (h1 R).append (h3 R), fun b hb => (List.mem_append.1 hb).elim (h2 b) (h4 b)⟩
theorem In.length {w L V} (h : In w L V) : V.length = L.length := by
  obtain ⟨F, h1, _⟩ := h
  exact (h1 fun _ _ => True).length
theorem look_roots {l : List Cell} : ∀ {k j : Nat} {z els}, l[j]? = some (.own z els) → look (roots k l) (0, k + j) = some (.own z els) := by
  induction l with
  | nil => intro k j z els h; simp at h
  | cons c t ih =>
    intro k j z els h
    cases j with
    | zero => simp at h; subst h; simp [roots, look]
    | succ j =>
      have := ih (k := k + 1) (j := j) (by simpa using h)
      rw [show k + 1 + j = k + (j + 1) by omega] at this
      cases c with
      | own z' els' =>
        simp only [roots, look]
        rw [if_neg (fun e => by have := congrArg Prod.snd e; simp at this)]
        exact this
      | _ => simpa [roots] using this
/-- What came in, as named objects; and the references of each argument. -/
theorem In.open {w : World} {L : List Cell} {V : List Value} (h : In w L V) : ∃ β : Nm → Value, Holds w.heap.size (VP w β (roots 0 L)) w β (roots 0 L) [] ∧
    ∀ L0 L1 L2 V0 V1 V2, L = L0 ++ L1 ++ L2 → V = V0 ++ V1 ++ V2 → In w L0 V0 → In w L1 V1 → noRef L1 = true → VRep (VP w β (roots 0 L)) w (refs L0.length L1) V1 [] := by
  have hlen := h.length
  obtain ⟨F, h1, h2⟩ := h
  refine ⟨fun r => V.getD r.2 undef, roots_holds (h1 _) h2 (fun j v hj => ?_), fun L0 L1 L2 V0 V1 V2 hL hV i0 i1 hn => ?_⟩
  · show V.getD (0 + j) undef = v
    rw [Nat.zero_add, List.getD_eq_getElem?_getD, hj]; rfl
  · have l0 := i0.length
    have l1 := i1.length
    obtain ⟨F1, k1, k2⟩ := i1
    refine refs_rep (R := fun _ _ => True) (R' := fun _ _ => True) hn (k1 _) (fun j v hj => ?_) (fun j z els hj => ?_)
    · show V.getD (L0.length + j) undef = v
      have hlt := (List.getElem?_eq_some_iff.1 hj).1
      rw [List.getD_eq_getElem?_getD, hV, List.append_assoc, List.getElem?_append_right (by omega), List.getElem?_append_left (by omega), ← l0, Nat.add_sub_cancel_left, hj]; rfl
    · have hlt := (List.getElem?_eq_some_iff.1 hj).1
      have : L[L0.length + j]? = some (.own z els) := by
        rw [hL, List.append_assoc, List.getElem?_append_right (by omega), List.getElem?_append_left (by omega), Nat.add_sub_cancel_left, hj]
      have := look_roots (k := 0) this
      rwa [Nat.zero_add] at this
theorem Px.Op.in_ {α : Type} {P : Program} {t : TypeId} {n : Nat} {enc : α → List Cell} {q : α → Prop} (h : Px.Op P t n enc q) {H : Type} {e : TypeId × Value → H} {w : World} {base : Nat} {held : Bool} {fuel : Nat} {cs : List Value} {x : DataW H × List MemPlace}
    (hx : DataW.trod e P w base (fun _ => true) held fuel t cs = some x) (hz : w.noneFrozen x.2) : ∃ v : α, In w (enc v) cs ∧ q v := by
  obtain ⟨v, F, h1, h2, h3, h4⟩ := h H e w base held fuel cs x hx hz
  exact ⟨v, ⟨F, h1, h3⟩, h4⟩
theorem VRep.single {R w c v F} (h : VRep R w [c] [v] F) : Rep R w c v F := by
  cases h with | cons a b => cases b; simpa using a
end Go.Px
