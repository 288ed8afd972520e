/- Part 3 of the proof that the law FnExactCrashDisk answers true at every input: memory as trees, the program walked over them, and what it computes; no condition. -/
import Derived.Test.YthejobdlfomcjaaU2
namespace Go.Proofs.Ythejobdlfomcjaa
open Go Go.Px Go.RowKit Go.Proofs
set_option linter.unnecessarySimpa false
set_option linter.unusedVariables false
set_option linter.unusedSimpArgs false
set_option maxRecDepth 100000
attribute [-simp] Int.not_le Int.not_lt

def okByteS (B : Nat) (r : List Cell) : Prop := ∃ c0, r = [.own 1 c0] ∧ c0.length ≤ B ∧ (∀ x ∈ c0, okU8 x)
theorem okByteS_pure {B : Nat} {r : List Cell} (h : okByteS B r) : ∀ K, cells1 K r := by
  obtain ⟨c0, rfl, lc0, oc0⟩ := h
  intro K
  simp only [cells1_cons, cells1_nil, Clean_ownR, and_true]
  exact (fun x hx => okU8_pure (oc0 x hx) K)
theorem okByteS_le {B B2 : Nat} {r : List Cell} (h : okByteS B r) (hc : cntR r ≤ B2) : okByteS B2 r := by
  obtain ⟨c0, rfl, lc0, oc0⟩ := h
  simp only [cntR_cons, cntC_own, cntC_v, cntR_nil] at hc
  exact ⟨c0, rfl, (by omega), (fun x hx => oc0 x hx)⟩
theorem laws_eqByteS (H : HH) {r q r2 q2} {rows : List (List Cell)} (hb : rows.length ≤ 1048576) (ok : ∀ x ∈ rows, okU8 x) (ha : arrAt H r q = some (1, rows)) (hb2 : arrAt H r2 q2 = some (1, rows)) : PFun Try.prog 48 [.c (.sl r q 1 0 rows.length), .c (.sl r2 q2 1 0 rows.length)] H (B true) := by
  refine PFun.of [0, 1, 4, 5, 10, 14, 25] Try.func48 rfl (by simp [Try.f48]) ?_
  intro d hd0 hfr hcl hout
  have hcd : ∀ n q, CleanH (hit [((d, n), q)]) H := fun n q => hcl.at
  have ha_n : ∀ n, ¬ (d, n) = r := fun n => nm_ne (ne_of_arr hfr ha)
  have ha_d : ¬ r.1 = d := ne_of_arr hfr ha
  have ha_m : ∀ n, ¬ r = (d, n) := fun n => nm_ne' (ne_of_arr hfr ha)
  have hb2_n : ∀ n, ¬ (d, n) = r2 := fun n => nm_ne (ne_of_arr hfr hb2)
  have hb2_d : ¬ r2.1 = d := ne_of_arr hfr hb2
  have hb2_m : ∀ n, ¬ r2 = (d, n) := fun n => nm_ne' (ne_of_arr hfr hb2)
  simp (maxSteps := 4000000) [hd0, hfr, hout, hcl, hcd, delA_none, ha, ha_n, ha_d, ha_m, hb2, hb2_n, hb2_d, hb2_m, Try.f48]
  refine LoopK.intro (fun m s => ∃ i : Nat, i + m = rows.length ∧ s = ⟨[(0, .c (.sl r q 1 0 rows.length)), (1, .c (.sl r2 q2 1 0 rows.length)), (5, I i)], H, []⟩) (rows.length + 1)
    (LK.intro rows.length [0, 1, 5] [] (by omega) (by decide) (by simp (maxSteps := 4000000) [hd0, hfr, hout, hcl, hcd, delA_none, ha, ha_n, ha_d, ha_m, hb2, hb2_n, hb2_d, hb2_m]) ⟨0, by simp⟩) ?_
  rintro m s ⟨i, him, rfl⟩
  simp (maxSteps := 4000000) [hd0, hfr, hout, hcl, hcd, delA_none, ha, ha_n, ha_d, ha_m, hb2, hb2_n, hb2_d, hb2_m]
  intro hi
  have hi' : i < rows.length := by omega
  have w1 : IntKind.i64.wrap ((i : Int) + 1) = i + 1 := w64 (by omega) (by omega)
  have hok := ok _ (List.getElem_mem hi')
  obtain ⟨x0, hx⟩ := hok
  refine DrawK.intro 9 [0, 1, 5, 25] rfl (by kernel_rfl) (by decide) ?_
  simp (maxSteps := 4000000) [hd0, hfr, hout, hcl, hcd, delA_none, ha, ha_n, ha_d, ha_m, hb2, hb2_n, hb2_d, hb2_m, hi', hx, w1]
  exact LK.intro (m - 1) [0, 1, 5] [] (by omega) (by decide) (by simp (maxSteps := 4000000) [hd0, hfr, hout, hcl, hcd, delA_none, ha, ha_n, ha_d, ha_m, hb2, hb2_n, hb2_d, hb2_m]) ⟨i + 1, by omega, by simp⟩

theorem laws_eqByteSS (H : HH) {r q r2 q2} {rows : List (List Cell)} (hb : rows.length ≤ 1048576) (ok : ∀ x ∈ rows, okByteS 1048576 x) (ha : arrAt H r q = some (1, rows)) (hb2 : arrAt H r2 q2 = some (1, rows)) : PFun Try.prog 102 [.c (.sl r q 1 0 rows.length), .c (.sl r2 q2 1 0 rows.length)] H (B true) := by
  refine PFun.of [0, 1, 4, 5, 10, 14, 26] Try.func102 rfl (by simp [Try.f102]) ?_
  intro d hd0 hfr hcl hout
  have hcd : ∀ n q, CleanH (hit [((d, n), q)]) H := fun n q => hcl.at
  have ha_n : ∀ n, ¬ (d, n) = r := fun n => nm_ne (ne_of_arr hfr ha)
  have ha_d : ¬ r.1 = d := ne_of_arr hfr ha
  have ha_m : ∀ n, ¬ r = (d, n) := fun n => nm_ne' (ne_of_arr hfr ha)
  have hb2_n : ∀ n, ¬ (d, n) = r2 := fun n => nm_ne (ne_of_arr hfr hb2)
  have hb2_d : ¬ r2.1 = d := ne_of_arr hfr hb2
  have hb2_m : ∀ n, ¬ r2 = (d, n) := fun n => nm_ne' (ne_of_arr hfr hb2)
  simp (maxSteps := 4000000) [hd0, hfr, hout, hcl, hcd, delA_none, ha, ha_n, ha_d, ha_m, hb2, hb2_n, hb2_d, hb2_m, Try.f102]
  refine LoopK.intro (fun m s => ∃ i : Nat, i + m = rows.length ∧ s = ⟨[(0, .c (.sl r q 1 0 rows.length)), (1, .c (.sl r2 q2 1 0 rows.length)), (5, I i)], H, []⟩) (rows.length + 1)
    (LK.intro rows.length [0, 1, 5] [] (by omega) (by decide) (by simp (maxSteps := 4000000) [hd0, hfr, hout, hcl, hcd, delA_none, ha, ha_n, ha_d, ha_m, hb2, hb2_n, hb2_d, hb2_m]) ⟨0, by simp⟩) ?_
  rintro m s ⟨i, him, rfl⟩
  simp (maxSteps := 4000000) [hd0, hfr, hout, hcl, hcd, delA_none, ha, ha_n, ha_d, ha_m, hb2, hb2_n, hb2_d, hb2_m]
  intro hi
  have hi' : i < rows.length := by omega
  have w1 : IntKind.i64.wrap ((i : Int) + 1) = i + 1 := w64 (by omega) (by omega)
  have hok := ok _ (List.getElem_mem hi')
  obtain ⟨c0, hx, lc0, oc0⟩ := hok
  refine DrawK.intro 10 [0, 1, 5, 26] rfl (by kernel_rfl) (by decide) ?_
  have s1 := arrAt_sub ha (List.getElem?_eq_getElem hi') (f := 0) (by rw [hx]; rfl)
  have s2 := arrAt_sub hb2 (List.getElem?_eq_getElem hi') (f := 0) (by rw [hx]; rfl)
  simp (maxSteps := 4000000) [hd0, hfr, hout, hcl, hcd, delA_none, ha, ha_n, ha_d, ha_m, hb2, hb2_n, hb2_d, hb2_m, hi', hx]
  refine ⟨_, laws_eqByteS _ lc0 oc0 (by simp (maxSteps := 4000000) [hd0, hfr, hout, hcl, hcd, delA_none, ha, ha_n, ha_d, ha_m, hb2, hb2_n, hb2_d, hb2_m, s1]) (by simp (maxSteps := 4000000) [hd0, hfr, hout, hcl, hcd, delA_none, ha, ha_n, ha_d, ha_m, hb2, hb2_n, hb2_d, hb2_m, s2]), ?_⟩
  simp (maxSteps := 4000000) [hd0, hfr, hout, hcl, hcd, delA_none, ha, ha_n, ha_d, ha_m, hb2, hb2_n, hb2_d, hb2_m, w1]
  exact LK.intro (m - 1) [0, 1, 5] [] (by omega) (by decide) (by simp (maxSteps := 4000000) [hd0, hfr, hout, hcl, hcd, delA_none, ha, ha_n, ha_d, ha_m, hb2, hb2_n, hb2_d, hb2_m]) ⟨i + 1, by omega, by simp⟩

def okCell (B : Nat) (r : List Cell) : Prop := ∃ a0 a1, r = [.v (.int .i64 a0), .v (.int .i64 a1)]
theorem laws_eqInt64S (H : HH) {r q r2 q2} {rows : List (List Cell)} (hb : rows.length ≤ 1048576) (ok : ∀ x ∈ rows, okI64 x) (ha : arrAt H r q = some (1, rows)) (hb2 : arrAt H r2 q2 = some (1, rows)) : PFun Try.prog 53 [.c (.sl r q 1 0 rows.length), .c (.sl r2 q2 1 0 rows.length)] H (B true) := by
  refine PFun.of [0, 1, 4, 5, 10, 14, 25] Try.func53 rfl (by simp [Try.f53]) ?_
  intro d hd0 hfr hcl hout
  have hcd : ∀ n q, CleanH (hit [((d, n), q)]) H := fun n q => hcl.at
  have ha_n : ∀ n, ¬ (d, n) = r := fun n => nm_ne (ne_of_arr hfr ha)
  have ha_d : ¬ r.1 = d := ne_of_arr hfr ha
  have ha_m : ∀ n, ¬ r = (d, n) := fun n => nm_ne' (ne_of_arr hfr ha)
  have hb2_n : ∀ n, ¬ (d, n) = r2 := fun n => nm_ne (ne_of_arr hfr hb2)
  have hb2_d : ¬ r2.1 = d := ne_of_arr hfr hb2
  have hb2_m : ∀ n, ¬ r2 = (d, n) := fun n => nm_ne' (ne_of_arr hfr hb2)
  simp (maxSteps := 4000000) [hd0, hfr, hout, hcl, hcd, delA_none, ha, ha_n, ha_d, ha_m, hb2, hb2_n, hb2_d, hb2_m, Try.f53]
  refine LoopK.intro (fun m s => ∃ i : Nat, i + m = rows.length ∧ s = ⟨[(0, .c (.sl r q 1 0 rows.length)), (1, .c (.sl r2 q2 1 0 rows.length)), (5, I i)], H, []⟩) (rows.length + 1)
    (LK.intro rows.length [0, 1, 5] [] (by omega) (by decide) (by simp (maxSteps := 4000000) [hd0, hfr, hout, hcl, hcd, delA_none, ha, ha_n, ha_d, ha_m, hb2, hb2_n, hb2_d, hb2_m]) ⟨0, by simp⟩) ?_
  rintro m s ⟨i, him, rfl⟩
  simp (maxSteps := 4000000) [hd0, hfr, hout, hcl, hcd, delA_none, ha, ha_n, ha_d, ha_m, hb2, hb2_n, hb2_d, hb2_m]
  intro hi
  have hi' : i < rows.length := by omega
  have w1 : IntKind.i64.wrap ((i : Int) + 1) = i + 1 := w64 (by omega) (by omega)
  have hok := ok _ (List.getElem_mem hi')
  obtain ⟨x0, hx⟩ := hok
  refine DrawK.intro 9 [0, 1, 5, 25] rfl (by kernel_rfl) (by decide) ?_
  simp (maxSteps := 4000000) [hd0, hfr, hout, hcl, hcd, delA_none, ha, ha_n, ha_d, ha_m, hb2, hb2_n, hb2_d, hb2_m, hi', hx, w1]
  exact LK.intro (m - 1) [0, 1, 5] [] (by omega) (by decide) (by simp (maxSteps := 4000000) [hd0, hfr, hout, hcl, hcd, delA_none, ha, ha_n, ha_d, ha_m, hb2, hb2_n, hb2_d, hb2_m]) ⟨i + 1, by omega, by simp⟩

def okLoose (B : Nat) (r : List Cell) : Prop := ∃ a0 a1 c2, r = [.v (.int .i64 a0), .v (.int .i64 a1), .own 1 c2] ∧ c2.length ≤ B ∧ (∀ x ∈ c2, okU8 x)
theorem okLoose_pure {B : Nat} {r : List Cell} (h : okLoose B r) : ∀ K, cells1 K r := by
  obtain ⟨a0, a1, c2, rfl, lc2, oc2⟩ := h
  intro K
  simp only [cells1_cons, cells1_nil, Clean_ownR, and_true]
  exact ⟨Clean.v, Clean.v, (fun x hx => okU8_pure (oc2 x hx) K)⟩
theorem okLoose_le {B B2 : Nat} {r : List Cell} (h : okLoose B r) (hc : cntR r ≤ B2) : okLoose B2 r := by
  obtain ⟨a0, a1, c2, rfl, lc2, oc2⟩ := h
  simp only [cntR_cons, cntC_own, cntC_v, cntR_nil] at hc
  exact ⟨a0, a1, c2, rfl, (by omega), (fun x hx => oc2 x hx)⟩
theorem laws_eqLoose (H : HH) {row cs cs' : List Cell} (ok : okLoose 1048576 row) (hr : Refs H row cs) (hr' : Refs H row cs') : PFun Try.prog 156 [.a cs, .a cs'] H (B true) := by
  obtain ⟨a0, a1, c2, rfl, lc2, oc2⟩ := ok
  simp only [Refs_v, Refs_own, Refs_nil] at hr hr'
  obtain ⟨_, rfl, _, rfl, rc2, qc2, _, rfl, hc2, rfl⟩ := hr
  obtain ⟨_, rfl, _, rfl, rc2b, qc2b, _, rfl, hc2b, rfl⟩ := hr'
  refine PFun.of [2, 3, 4, 9, 14, 20] Try.func156 rfl (by simp [Try.f156]) ?_
  intro d hd0 hfr hcl hout
  have hcd : ∀ n q, CleanH (hit [((d, n), q)]) H := fun n q => hcl.at
  have hc2_n : ∀ n, ¬ (d, n) = rc2 := fun n => nm_ne (ne_of_arr hfr hc2)
  have hc2_d : ¬ rc2.1 = d := ne_of_arr hfr hc2
  have hc2_m : ∀ n, ¬ rc2 = (d, n) := fun n => nm_ne' (ne_of_arr hfr hc2)
  have hc2b_n : ∀ n, ¬ (d, n) = rc2b := fun n => nm_ne (ne_of_arr hfr hc2b)
  have hc2b_d : ¬ rc2b.1 = d := ne_of_arr hfr hc2b
  have hc2b_m : ∀ n, ¬ rc2b = (d, n) := fun n => nm_ne' (ne_of_arr hfr hc2b)
  simp (maxSteps := 4000000) [hd0, hfr, hout, hcl, hcd, delA_none, hc2, hc2_n, hc2_d, hc2_m, hc2b, hc2b_n, hc2b_d, hc2b_m, Try.f156]
  refine (laws_eqByteS _ lc2 oc2 (by simp (maxSteps := 4000000) [hd0, hfr, hout, hcl, hcd, delA_none, hc2, hc2_n, hc2_d, hc2_m, hc2b, hc2b_n, hc2b_d, hc2b_m]) (by simp (maxSteps := 4000000) [hd0, hfr, hout, hcl, hcd, delA_none, hc2, hc2_n, hc2_d, hc2_m, hc2b, hc2b_n, hc2b_d, hc2b_m])).useCK ?_
  simp (maxSteps := 4000000) [hd0, hfr, hout, hcl, hcd, delA_none, hc2, hc2_n, hc2_d, hc2_m, hc2b, hc2b_n, hc2b_d, hc2b_m]

theorem laws_eqLooseS (H : HH) {r q r2 q2} {rows : List (List Cell)} (hb : rows.length ≤ 1048576) (ok : ∀ x ∈ rows, okLoose 1048576 x) (ha : arrAt H r q = some (3, rows)) (hb2 : arrAt H r2 q2 = some (3, rows)) : PFun Try.prog 103 [.c (.sl r q 3 0 rows.length), .c (.sl r2 q2 3 0 rows.length)] H (B true) := by
  refine PFun.of [0, 1, 4, 5, 10, 14, 26] Try.func103 rfl (by simp [Try.f103]) ?_
  intro d hd0 hfr hcl hout
  have hcd : ∀ n q, CleanH (hit [((d, n), q)]) H := fun n q => hcl.at
  have ha_n : ∀ n, ¬ (d, n) = r := fun n => nm_ne (ne_of_arr hfr ha)
  have ha_d : ¬ r.1 = d := ne_of_arr hfr ha
  have ha_m : ∀ n, ¬ r = (d, n) := fun n => nm_ne' (ne_of_arr hfr ha)
  have hb2_n : ∀ n, ¬ (d, n) = r2 := fun n => nm_ne (ne_of_arr hfr hb2)
  have hb2_d : ¬ r2.1 = d := ne_of_arr hfr hb2
  have hb2_m : ∀ n, ¬ r2 = (d, n) := fun n => nm_ne' (ne_of_arr hfr hb2)
  simp (maxSteps := 4000000) [hd0, hfr, hout, hcl, hcd, delA_none, ha, ha_n, ha_d, ha_m, hb2, hb2_n, hb2_d, hb2_m, Try.f103]
  refine LoopK.intro (fun m s => ∃ i : Nat, i + m = rows.length ∧ s = ⟨[(0, .c (.sl r q 3 0 rows.length)), (1, .c (.sl r2 q2 3 0 rows.length)), (5, I i)], H, []⟩) (rows.length + 1)
    (LK.intro rows.length [0, 1, 5] [] (by omega) (by decide) (by simp (maxSteps := 4000000) [hd0, hfr, hout, hcl, hcd, delA_none, ha, ha_n, ha_d, ha_m, hb2, hb2_n, hb2_d, hb2_m]) ⟨0, by simp⟩) ?_
  rintro m s ⟨i, him, rfl⟩
  simp (maxSteps := 4000000) [hd0, hfr, hout, hcl, hcd, delA_none, ha, ha_n, ha_d, ha_m, hb2, hb2_n, hb2_d, hb2_m]
  intro hi
  have hi' : i < rows.length := by omega
  have w1 : IntKind.i64.wrap ((i : Int) + 1) = i + 1 := w64 (by omega) (by omega)
  have hok := ok _ (List.getElem_mem hi')
  obtain ⟨a0, a1, c2, hx, lc2, oc2⟩ := hok
  refine DrawK.intro 10 [0, 1, 5, 26] rfl (by kernel_rfl) (by decide) ?_
  have s1c2 := arrAt_sub ha (List.getElem?_eq_getElem hi') (f := 2) (by rw [hx]; rfl)
  have s2c2 := arrAt_sub hb2 (List.getElem?_eq_getElem hi') (f := 2) (by rw [hx]; rfl)
  simp (maxSteps := 4000000) [hd0, hfr, hout, hcl, hcd, delA_none, ha, ha_n, ha_d, ha_m, hb2, hb2_n, hb2_d, hb2_m, hi', hx]
  refine ⟨_, laws_eqLoose _ (row := [.v (.int .i64 a0), .v (.int .i64 a1), .own 1 c2]) ⟨a0, a1, c2, rfl, lc2, oc2⟩ (Refs_v.2 ⟨_, rfl, Refs_v.2 ⟨_, rfl, Refs_own.2 ⟨_, _, _, rfl, by simp (maxSteps := 4000000) [hd0, hfr, hout, hcl, hcd, delA_none, ha, ha_n, ha_d, ha_m, hb2, hb2_n, hb2_d, hb2_m, s1c2], Refs_nil.2 rfl⟩⟩⟩) (Refs_v.2 ⟨_, rfl, Refs_v.2 ⟨_, rfl, Refs_own.2 ⟨_, _, _, rfl, by simp (maxSteps := 4000000) [hd0, hfr, hout, hcl, hcd, delA_none, ha, ha_n, ha_d, ha_m, hb2, hb2_n, hb2_d, hb2_m, s2c2], Refs_nil.2 rfl⟩⟩⟩), ?_⟩
  simp (maxSteps := 4000000) [hd0, hfr, hout, hcl, hcd, delA_none, ha, ha_n, ha_d, ha_m, hb2, hb2_n, hb2_d, hb2_m, w1]
  exact LK.intro (m - 1) [0, 1, 5] [] (by omega) (by decide) (by simp (maxSteps := 4000000) [hd0, hfr, hout, hcl, hcd, delA_none, ha, ha_n, ha_d, ha_m, hb2, hb2_n, hb2_d, hb2_m]) ⟨i + 1, by omega, by simp⟩

def okDisk (B : Nat) (r : List Cell) : Prop := ∃ c0 c1, r = [.own 1 c0, .own 3 c1] ∧ c0.length ≤ B ∧ (∀ x ∈ c0, okByteS B x) ∧ c1.length ≤ B ∧ (∀ x ∈ c1, okLoose B x)
theorem okDisk_le {B B2 : Nat} {r : List Cell} (h : okDisk B r) (hc : cntR r ≤ B2) : okDisk B2 r := by
  obtain ⟨c0, c1, rfl, lc0, oc0, lc1, oc1⟩ := h
  simp only [cntR_cons, cntC_own, cntC_v, cntR_nil] at hc
  exact ⟨c0, c1, rfl, (by omega), (fun x hx => okByteS_le (oc0 x hx) (by have := cntR_mem hx; omega)), (by omega), (fun x hx => okLoose_le (oc1 x hx) (by have := cntR_mem hx; omega))⟩
theorem laws_eqDisk (H : HH) {row cs cs' : List Cell} (ok : okDisk 1048576 row) (hr : Refs H row cs) (hr' : Refs H row cs') : PFun Try.prog 24 [.a cs, .a cs'] H (B true) := by
  obtain ⟨c0, c1, rfl, lc0, oc0, lc1, oc1⟩ := ok
  simp only [Refs_v, Refs_own, Refs_nil] at hr hr'
  obtain ⟨rc0, qc0, _, rfl, hc0, rc1, qc1, _, rfl, hc1, rfl⟩ := hr
  obtain ⟨rc0b, qc0b, _, rfl, hc0b, rc1b, qc1b, _, rfl, hc1b, rfl⟩ := hr'
  refine PFun.of [2, 3, 4, 10, 16] Try.func24 rfl (by simp [Try.f24]) ?_
  intro d hd0 hfr hcl hout
  have hcd : ∀ n q, CleanH (hit [((d, n), q)]) H := fun n q => hcl.at
  have hc0_n : ∀ n, ¬ (d, n) = rc0 := fun n => nm_ne (ne_of_arr hfr hc0)
  have hc0_d : ¬ rc0.1 = d := ne_of_arr hfr hc0
  have hc0_m : ∀ n, ¬ rc0 = (d, n) := fun n => nm_ne' (ne_of_arr hfr hc0)
  have hc1_n : ∀ n, ¬ (d, n) = rc1 := fun n => nm_ne (ne_of_arr hfr hc1)
  have hc1_d : ¬ rc1.1 = d := ne_of_arr hfr hc1
  have hc1_m : ∀ n, ¬ rc1 = (d, n) := fun n => nm_ne' (ne_of_arr hfr hc1)
  have hc0b_n : ∀ n, ¬ (d, n) = rc0b := fun n => nm_ne (ne_of_arr hfr hc0b)
  have hc0b_d : ¬ rc0b.1 = d := ne_of_arr hfr hc0b
  have hc0b_m : ∀ n, ¬ rc0b = (d, n) := fun n => nm_ne' (ne_of_arr hfr hc0b)
  have hc1b_n : ∀ n, ¬ (d, n) = rc1b := fun n => nm_ne (ne_of_arr hfr hc1b)
  have hc1b_d : ¬ rc1b.1 = d := ne_of_arr hfr hc1b
  have hc1b_m : ∀ n, ¬ rc1b = (d, n) := fun n => nm_ne' (ne_of_arr hfr hc1b)
  simp (maxSteps := 4000000) [hd0, hfr, hout, hcl, hcd, delA_none, hc0, hc0_n, hc0_d, hc0_m, hc1, hc1_n, hc1_d, hc1_m, hc0b, hc0b_n, hc0b_d, hc0b_m, hc1b, hc1b_n, hc1b_d, hc1b_m, Try.f24]
  refine (laws_eqByteSS _ lc0 oc0 (by simp (maxSteps := 4000000) [hd0, hfr, hout, hcl, hcd, delA_none, hc0, hc0_n, hc0_d, hc0_m, hc1, hc1_n, hc1_d, hc1_m, hc0b, hc0b_n, hc0b_d, hc0b_m, hc1b, hc1b_n, hc1b_d, hc1b_m]) (by simp (maxSteps := 4000000) [hd0, hfr, hout, hcl, hcd, delA_none, hc0, hc0_n, hc0_d, hc0_m, hc1, hc1_n, hc1_d, hc1_m, hc0b, hc0b_n, hc0b_d, hc0b_m, hc1b, hc1b_n, hc1b_d, hc1b_m])).useCK ?_
  simp (maxSteps := 4000000) [hd0, hfr, hout, hcl, hcd, delA_none, hc0, hc0_n, hc0_d, hc0_m, hc1, hc1_n, hc1_d, hc1_m, hc0b, hc0b_n, hc0b_d, hc0b_m, hc1b, hc1b_n, hc1b_d, hc1b_m]
  refine (laws_eqLooseS _ lc1 oc1 (by simp (maxSteps := 4000000) [hd0, hfr, hout, hcl, hcd, delA_none, hc0, hc0_n, hc0_d, hc0_m, hc1, hc1_n, hc1_d, hc1_m, hc0b, hc0b_n, hc0b_d, hc0b_m, hc1b, hc1b_n, hc1b_d, hc1b_m]) (by simp (maxSteps := 4000000) [hd0, hfr, hout, hcl, hcd, delA_none, hc0, hc0_n, hc0_d, hc0_m, hc1, hc1_n, hc1_d, hc1_m, hc0b, hc0b_n, hc0b_d, hc0b_m, hc1b, hc1b_n, hc1b_d, hc1b_m])).useCK ?_
  simp (maxSteps := 4000000) [hd0, hfr, hout, hcl, hcd, delA_none, hc0, hc0_n, hc0_d, hc0_m, hc1, hc1_n, hc1_d, hc1_m, hc0b, hc0b_n, hc0b_d, hc0b_m, hc1b, hc1b_n, hc1b_d, hc1b_m]

def okDiskResult (B : Nat) (r : List Cell) : Prop := ∃ a0 c1 c2, r = [.v (.int .i64 a0), .own 1 c1, .own 3 c2] ∧ c1.length ≤ B ∧ (∀ x ∈ c1, okByteS B x) ∧ c2.length ≤ B ∧ (∀ x ∈ c2, okLoose B x)
theorem laws_eqDiskResult (H : HH) {row cs cs' : List Cell} (ok : okDiskResult 1048576 row) (hr : Refs H row cs) (hr' : Refs H row cs') : PFun Try.prog 23 [.a cs, .a cs'] H (B true) := by
  obtain ⟨a0, c1, c2, rfl, lc1, oc1, lc2, oc2⟩ := ok
  simp only [Refs_v, Refs_own, Refs_nil] at hr hr'
  obtain ⟨_, rfl, rc1, qc1, _, rfl, hc1, rc2, qc2, _, rfl, hc2, rfl⟩ := hr
  obtain ⟨_, rfl, rc1b, qc1b, _, rfl, hc1b, rc2b, qc2b, _, rfl, hc2b, rfl⟩ := hr'
  refine PFun.of [2, 3, 4, 9, 15] Try.func23 rfl (by simp [Try.f23]) ?_
  intro d hd0 hfr hcl hout
  have hcd : ∀ n q, CleanH (hit [((d, n), q)]) H := fun n q => hcl.at
  have hc1_n : ∀ n, ¬ (d, n) = rc1 := fun n => nm_ne (ne_of_arr hfr hc1)
  have hc1_d : ¬ rc1.1 = d := ne_of_arr hfr hc1
  have hc1_m : ∀ n, ¬ rc1 = (d, n) := fun n => nm_ne' (ne_of_arr hfr hc1)
  have hc2_n : ∀ n, ¬ (d, n) = rc2 := fun n => nm_ne (ne_of_arr hfr hc2)
  have hc2_d : ¬ rc2.1 = d := ne_of_arr hfr hc2
  have hc2_m : ∀ n, ¬ rc2 = (d, n) := fun n => nm_ne' (ne_of_arr hfr hc2)
  have hc1b_n : ∀ n, ¬ (d, n) = rc1b := fun n => nm_ne (ne_of_arr hfr hc1b)
  have hc1b_d : ¬ rc1b.1 = d := ne_of_arr hfr hc1b
  have hc1b_m : ∀ n, ¬ rc1b = (d, n) := fun n => nm_ne' (ne_of_arr hfr hc1b)
  have hc2b_n : ∀ n, ¬ (d, n) = rc2b := fun n => nm_ne (ne_of_arr hfr hc2b)
  have hc2b_d : ¬ rc2b.1 = d := ne_of_arr hfr hc2b
  have hc2b_m : ∀ n, ¬ rc2b = (d, n) := fun n => nm_ne' (ne_of_arr hfr hc2b)
  simp (maxSteps := 4000000) [hd0, hfr, hout, hcl, hcd, delA_none, hc1, hc1_n, hc1_d, hc1_m, hc2, hc2_n, hc2_d, hc2_m, hc1b, hc1b_n, hc1b_d, hc1b_m, hc2b, hc2b_n, hc2b_d, hc2b_m, Try.f23]
  refine (laws_eqDisk _ (row := [.own 1 c1, .own 3 c2]) ⟨c1, c2, rfl, lc1, oc1, lc2, oc2⟩ (Refs_own.2 ⟨_, _, _, rfl, by simp (maxSteps := 4000000) [hd0, hfr, hout, hcl, hcd, delA_none, hc1, hc1_n, hc1_d, hc1_m, hc2, hc2_n, hc2_d, hc2_m, hc1b, hc1b_n, hc1b_d, hc1b_m, hc2b, hc2b_n, hc2b_d, hc2b_m], Refs_own.2 ⟨_, _, _, rfl, by simp (maxSteps := 4000000) [hd0, hfr, hout, hcl, hcd, delA_none, hc1, hc1_n, hc1_d, hc1_m, hc2, hc2_n, hc2_d, hc2_m, hc1b, hc1b_n, hc1b_d, hc1b_m, hc2b, hc2b_n, hc2b_d, hc2b_m], Refs_nil.2 rfl⟩⟩) (Refs_own.2 ⟨_, _, _, rfl, by simp (maxSteps := 4000000) [hd0, hfr, hout, hcl, hcd, delA_none, hc1, hc1_n, hc1_d, hc1_m, hc2, hc2_n, hc2_d, hc2_m, hc1b, hc1b_n, hc1b_d, hc1b_m, hc2b, hc2b_n, hc2b_d, hc2b_m], Refs_own.2 ⟨_, _, _, rfl, by simp (maxSteps := 4000000) [hd0, hfr, hout, hcl, hcd, delA_none, hc1, hc1_n, hc1_d, hc1_m, hc2, hc2_n, hc2_d, hc2_m, hc1b, hc1b_n, hc1b_d, hc1b_m, hc2b, hc2b_n, hc2b_d, hc2b_m], Refs_nil.2 rfl⟩⟩)).useCK ?_
  simp (maxSteps := 4000000) [hd0, hfr, hout, hcl, hcd, delA_none, hc1, hc1_n, hc1_d, hc1_m, hc2, hc2_n, hc2_d, hc2_m, hc1b, hc1b_n, hc1b_d, hc1b_m, hc2b, hc2b_n, hc2b_d, hc2b_m]

theorem okByteS_lvb {r : List Cell} (h : okByteS 1048576 r) : lvR r ≤ 1048576 := by
  obtain ⟨c0, rfl, lc0, oc0⟩ := h
  simp only [lvR_cons, lvR_nil, lvC_own, lvC_v]
  have kc0 := lvRs_bound (rows := c0) (n := 1) (fun x hx => by rw [okU8_lv (oc0 x hx)]; exact Nat.le_refl _)
  omega
theorem laws_heldByteS (H : HH) {r q} {rows : List (List Cell)} {k : Int} (hb : rows.length ≤ 1048576) (ok : ∀ x ∈ rows, okU8 x) (hk : 0 ≤ k) (hk2 : k + lvRs rows ≤ 4611686018427387904) (ha : arrAt H r q = some (1, mkRs k rows)) : PFun Try.prog 174 [.c (.sl r q 1 0 rows.length), I k] H (I (k + lvRs rows)) := by
  refine PFun.of [0, 1, 4, 5, 9, 18] Try.func174 rfl (by simp [Try.f174]) ?_
  intro d hd0 hfr hcl hout
  have hcd : ∀ n q, CleanH (hit [((d, n), q)]) H := fun n q => hcl.at
  have ha_n : ∀ n, ¬ (d, n) = r := fun n => nm_ne (ne_of_arr hfr ha)
  have ha_d : ¬ r.1 = d := ne_of_arr hfr ha
  have ha_m : ∀ n, ¬ r = (d, n) := fun n => nm_ne' (ne_of_arr hfr ha)
  simp (maxSteps := 4000000) [hd0, hfr, hout, hcl, hcd, delA_none, ha, ha_n, ha_d, ha_m, Try.f174]
  refine LoopK.intro (fun m s => ∃ i : Nat, i + m = rows.length ∧ s = ⟨[(0, .c (.sl r q 1 0 rows.length)), (1, I (k + lvRs (rows.take i))), (5, I i)], H, []⟩) (rows.length + 1)
    (LK.intro rows.length [0, 1, 5] [] (by omega) (by decide) (by simp (maxSteps := 4000000) [hd0, hfr, hout, hcl, hcd, delA_none, ha, ha_n, ha_d, ha_m]) ⟨0, by simp [lvRs]⟩) ?_
  rintro m s ⟨i, him, rfl⟩
  simp (maxSteps := 4000000) [hd0, hfr, hout, hcl, hcd, delA_none, ha, ha_n, ha_d, ha_m]
  constructor
  · intro hi
    have hi' : i < rows.length := by omega
    have w1 : IntKind.i64.wrap ((i : Int) + 1) = i + 1 := w64 (by omega) (by omega)
    have hok := ok _ (List.getElem_mem hi')
    have ht := lvRs_take hi'
    have hat := mkRs_get (k := k) hi'
    have hle := lvRs_le (rows := rows) (i := i + 1)
    obtain ⟨K, hK⟩ : ∃ K : Int, K = k + lvRs (rows.take i) := ⟨_, rfl⟩
    obtain ⟨a0, hx⟩ := hok
    rw [← hK] at hat ⊢
    rw [hx] at ht hat
    simp only [mkR_cons, mkR_nil, mkC_v, mkC_own, mkV, lvC_v, lvC_own, Int.natCast_one] at hat
    simp only [lvR_cons, lvC_v, lvC_own, lvR_nil] at ht
    have hatx := ix_of hat
    have wk1 : IntKind.i64.wrap (K + 1) = K + 1 := w64 (by omega) (by omega)
    try simp (maxSteps := 4000000) [hd0, hfr, hout, hcl, hcd, delA_none, ha, ha_n, ha_d, ha_m, hi', hatx, mkRs_length, w1, wk1]
    exact LK.intro (m - 1) [0, 1, 5] [] (by omega) (by decide) (by simp (maxSteps := 4000000) [hd0, hfr, hout, hcl, hcd, delA_none, ha, ha_n, ha_d, ha_m]) ⟨i + 1, by omega, by simp; omega⟩
  · intro h
    simp (maxSteps := 4000000) [hd0, hfr, hout, hcl, hcd, delA_none, ha, ha_n, ha_d, ha_m, lvRs_all h]

theorem laws_heldByteSS (H : HH) {r q} {rows : List (List Cell)} {k : Int} (hb : rows.length ≤ 1048576) (ok : ∀ x ∈ rows, okByteS 1048576 x) (hk : 0 ≤ k) (hk2 : k + lvRs rows ≤ 4611686018427387904) (ha : arrAt H r q = some (1, mkRs k rows)) : PFun Try.prog 157 [.c (.sl r q 1 0 rows.length), I k] H (I (k + lvRs rows)) := by
  refine PFun.of [0, 1, 4, 5, 9, 19] Try.func157 rfl (by simp [Try.f157]) ?_
  intro d hd0 hfr hcl hout
  have hcd : ∀ n q, CleanH (hit [((d, n), q)]) H := fun n q => hcl.at
  have ha_n : ∀ n, ¬ (d, n) = r := fun n => nm_ne (ne_of_arr hfr ha)
  have ha_d : ¬ r.1 = d := ne_of_arr hfr ha
  have ha_m : ∀ n, ¬ r = (d, n) := fun n => nm_ne' (ne_of_arr hfr ha)
  simp (maxSteps := 4000000) [hd0, hfr, hout, hcl, hcd, delA_none, ha, ha_n, ha_d, ha_m, Try.f157]
  refine LoopK.intro (fun m s => ∃ i : Nat, i + m = rows.length ∧ s = ⟨[(0, .c (.sl r q 1 0 rows.length)), (1, I (k + lvRs (rows.take i))), (5, I i)], H, []⟩) (rows.length + 1)
    (LK.intro rows.length [0, 1, 5] [] (by omega) (by decide) (by simp (maxSteps := 4000000) [hd0, hfr, hout, hcl, hcd, delA_none, ha, ha_n, ha_d, ha_m]) ⟨0, by simp [lvRs]⟩) ?_
  rintro m s ⟨i, him, rfl⟩
  simp (maxSteps := 4000000) [hd0, hfr, hout, hcl, hcd, delA_none, ha, ha_n, ha_d, ha_m]
  constructor
  · intro hi
    have hi' : i < rows.length := by omega
    have w1 : IntKind.i64.wrap ((i : Int) + 1) = i + 1 := w64 (by omega) (by omega)
    have hok := ok _ (List.getElem_mem hi')
    have ht := lvRs_take hi'
    have hat := mkRs_get (k := k) hi'
    have hle := lvRs_le (rows := rows) (i := i + 1)
    obtain ⟨K, hK⟩ : ∃ K : Int, K = k + lvRs (rows.take i) := ⟨_, rfl⟩
    obtain ⟨c0, hx, lc0, oc0⟩ := hok
    rw [← hK] at hat ⊢
    rw [hx] at ht hat
    simp only [mkR_cons, mkR_nil, mkC_v, mkC_own, mkV, lvC_v, lvC_own, Int.natCast_one] at hat
    simp only [lvR_cons, lvC_v, lvC_own, lvR_nil] at ht
    have hatx := ix_of hat
    simp (maxSteps := 4000000) [hd0, hfr, hout, hcl, hcd, delA_none, ha, ha_n, ha_d, ha_m, hi', hatx, mkRs_length]
    have e0 := arrAt_sub ha hat (f := 0) (z' := 1) (els := mkRs (K) c0) rfl
    refine (laws_heldByteS _ lc0 oc0 (by omega) (by omega) e0).useCK ?_
    simp (maxSteps := 4000000) [hd0, hfr, hout, hcl, hcd, delA_none, ha, ha_n, ha_d, ha_m]
    refine ⟨fun h => by omega, fun _ => ?_⟩
    try simp (maxSteps := 4000000) [hd0, hfr, hout, hcl, hcd, delA_none, ha, ha_n, ha_d, ha_m, hi', hatx, mkRs_length, w1]
    exact LK.intro (m - 1) [0, 1, 5] [] (by omega) (by decide) (by simp (maxSteps := 4000000) [hd0, hfr, hout, hcl, hcd, delA_none, ha, ha_n, ha_d, ha_m]) ⟨i + 1, by omega, by simp; omega⟩
  · intro h
    simp (maxSteps := 4000000) [hd0, hfr, hout, hcl, hcd, delA_none, ha, ha_n, ha_d, ha_m, lvRs_all h]

theorem okLoose_lvb {r : List Cell} (h : okLoose 1048576 r) : lvR r ≤ 1048578 := by
  obtain ⟨a0, a1, c2, rfl, lc2, oc2⟩ := h
  simp only [lvR_cons, lvR_nil, lvC_own, lvC_v]
  have kc2 := lvRs_bound (rows := c2) (n := 1) (fun x hx => by rw [okU8_lv (oc2 x hx)]; exact Nat.le_refl _)
  omega
theorem laws_heldLooseS (H : HH) {r q} {rows : List (List Cell)} {k : Int} (hb : rows.length ≤ 1048576) (ok : ∀ x ∈ rows, okLoose 1048576 x) (hk : 0 ≤ k) (hk2 : k + lvRs rows ≤ 4611686018427387904) (ha : arrAt H r q = some (3, mkRs k rows)) : PFun Try.prog 158 [.c (.sl r q 3 0 rows.length), I k] H (I (k + lvRs rows)) := by
  refine PFun.of [0, 1, 4, 5, 9, 18, 27, 38] Try.func158 rfl (by simp [Try.f158]) ?_
  intro d hd0 hfr hcl hout
  have hcd : ∀ n q, CleanH (hit [((d, n), q)]) H := fun n q => hcl.at
  have ha_n : ∀ n, ¬ (d, n) = r := fun n => nm_ne (ne_of_arr hfr ha)
  have ha_d : ¬ r.1 = d := ne_of_arr hfr ha
  have ha_m : ∀ n, ¬ r = (d, n) := fun n => nm_ne' (ne_of_arr hfr ha)
  simp (maxSteps := 4000000) [hd0, hfr, hout, hcl, hcd, delA_none, ha, ha_n, ha_d, ha_m, Try.f158]
  refine LoopK.intro (fun m s => ∃ i : Nat, i + m = rows.length ∧ s = ⟨[(0, .c (.sl r q 3 0 rows.length)), (1, I (k + lvRs (rows.take i))), (5, I i)], H, []⟩) (rows.length + 1)
    (LK.intro rows.length [0, 1, 5] [] (by omega) (by decide) (by simp (maxSteps := 4000000) [hd0, hfr, hout, hcl, hcd, delA_none, ha, ha_n, ha_d, ha_m]) ⟨0, by simp [lvRs]⟩) ?_
  rintro m s ⟨i, him, rfl⟩
  simp (maxSteps := 4000000) [hd0, hfr, hout, hcl, hcd, delA_none, ha, ha_n, ha_d, ha_m]
  constructor
  · intro hi
    have hi' : i < rows.length := by omega
    have w1 : IntKind.i64.wrap ((i : Int) + 1) = i + 1 := w64 (by omega) (by omega)
    have hok := ok _ (List.getElem_mem hi')
    have ht := lvRs_take hi'
    have hat := mkRs_get (k := k) hi'
    have hle := lvRs_le (rows := rows) (i := i + 1)
    obtain ⟨K, hK⟩ : ∃ K : Int, K = k + lvRs (rows.take i) := ⟨_, rfl⟩
    obtain ⟨a0, a1, c2, hx, lc2, oc2⟩ := hok
    rw [← hK] at hat ⊢
    rw [hx] at ht hat
    simp only [mkR_cons, mkR_nil, mkC_v, mkC_own, mkV, lvC_v, lvC_own, Int.natCast_one] at hat
    simp only [lvR_cons, lvC_v, lvC_own, lvR_nil] at ht
    have hatx := ix_of hat
    have wk1 : IntKind.i64.wrap (K + 1) = K + 1 := w64 (by omega) (by omega)
    have wk2 : IntKind.i64.wrap (K + 1 + 1) = K + 1 + 1 := w64 (by omega) (by omega)
    simp (maxSteps := 4000000) [hd0, hfr, hout, hcl, hcd, delA_none, ha, ha_n, ha_d, ha_m, hi', hatx, mkRs_length, wk1, wk2]
    have e2 := arrAt_sub ha hat (f := 2) (z' := 1) (els := mkRs (K + 1 + 1) c2) rfl
    refine (laws_heldByteS _ lc2 oc2 (by omega) (by omega) e2).useCK ?_
    simp (maxSteps := 4000000) [hd0, hfr, hout, hcl, hcd, delA_none, ha, ha_n, ha_d, ha_m]
    refine ⟨fun h => by omega, fun _ => ?_⟩
    try simp (maxSteps := 4000000) [hd0, hfr, hout, hcl, hcd, delA_none, ha, ha_n, ha_d, ha_m, hi', hatx, mkRs_length, w1, wk1, wk2]
    exact LK.intro (m - 1) [0, 1, 5] [] (by omega) (by decide) (by simp (maxSteps := 4000000) [hd0, hfr, hout, hcl, hcd, delA_none, ha, ha_n, ha_d, ha_m]) ⟨i + 1, by omega, by simp; omega⟩
  · intro h
    simp (maxSteps := 4000000) [hd0, hfr, hout, hcl, hcd, delA_none, ha, ha_n, ha_d, ha_m, lvRs_all h]

theorem okDisk_lvsb {r : List Cell} (h : okDisk 1048576 r) : lvS r ≤ 2199025352704 := by
  obtain ⟨c0, c1, rfl, lc0, oc0, lc1, oc1⟩ := h
  simp only [lvS]
  have kc0 := lvRs_bound (rows := c0) (n := 1048576) (fun x hx => okByteS_lvb (oc0 x hx))
  have kc1 := lvRs_bound (rows := c1) (n := 1048578) (fun x hx => okLoose_lvb (oc1 x hx))
  omega
theorem laws_heldDisk (H : HH) {row cs : List Cell} {k : Int} (ok : okDisk 1048576 row) (hk : 0 ≤ k) (hk2 : k + lvS row ≤ 4611686018427387904) (hr : Refs H (mkS k row) cs) : PFun Try.prog 106 [.a cs, I k] H (I (k + lvS row)) := by
  obtain ⟨c0, c1, rfl, lc0, oc0, lc1, oc1⟩ := ok
  simp only [mkS, Refs_v, Refs_own, Refs_nil, mkRs_length] at hr
  obtain ⟨rc0, qc0, _, rfl, hc0, rc1, qc1, _, rfl, hc1, rfl⟩ := hr
  simp only [lvS] at hk2 ⊢
  refine PFun.of [1, 2, 4, 10, 16] Try.func106 rfl (by simp [Try.f106]) ?_
  intro d hd0 hfr hcl hout
  have hcd : ∀ n q, CleanH (hit [((d, n), q)]) H := fun n q => hcl.at
  have hc0_n : ∀ n, ¬ (d, n) = rc0 := fun n => nm_ne (ne_of_arr hfr hc0)
  have hc0_d : ¬ rc0.1 = d := ne_of_arr hfr hc0
  have hc0_m : ∀ n, ¬ rc0 = (d, n) := fun n => nm_ne' (ne_of_arr hfr hc0)
  have hc1_n : ∀ n, ¬ (d, n) = rc1 := fun n => nm_ne (ne_of_arr hfr hc1)
  have hc1_d : ¬ rc1.1 = d := ne_of_arr hfr hc1
  have hc1_m : ∀ n, ¬ rc1 = (d, n) := fun n => nm_ne' (ne_of_arr hfr hc1)
  simp (maxSteps := 4000000) [hd0, hfr, hout, hcl, hcd, delA_none, hc0, hc0_n, hc0_d, hc0_m, hc1, hc1_n, hc1_d, hc1_m, Try.f106]
  refine (laws_heldByteSS _ lc0 oc0 (by omega) (by omega) (by simp (maxSteps := 4000000) [hd0, hfr, hout, hcl, hcd, delA_none, hc0, hc0_n, hc0_d, hc0_m, hc1, hc1_n, hc1_d, hc1_m])).useCK ?_
  simp (maxSteps := 4000000) [hd0, hfr, hout, hcl, hcd, delA_none, hc0, hc0_n, hc0_d, hc0_m, hc1, hc1_n, hc1_d, hc1_m]
  first | (intro h; omega) | (refine ⟨fun h => by omega, fun _ => ?_⟩; skip)
  refine (laws_heldLooseS _ lc1 oc1 (by omega) (by omega) (by simp (maxSteps := 4000000) [hd0, hfr, hout, hcl, hcd, delA_none, hc0, hc0_n, hc0_d, hc0_m, hc1, hc1_n, hc1_d, hc1_m])).useCK ?_
  simp (maxSteps := 4000000) [hd0, hfr, hout, hcl, hcd, delA_none, hc0, hc0_n, hc0_d, hc0_m, hc1, hc1_n, hc1_d, hc1_m]
  first | (intro h; omega) | (refine ⟨fun h => by omega, fun _ => ?_⟩; skip)
  try omega

theorem okDiskResult_lvsb {r : List Cell} (h : okDiskResult 1048576 r) : lvS r ≤ 2199025352705 := by
  obtain ⟨a0, c1, c2, rfl, lc1, oc1, lc2, oc2⟩ := h
  simp only [lvS]
  have kc1 := lvRs_bound (rows := c1) (n := 1048576) (fun x hx => okByteS_lvb (oc1 x hx))
  have kc2 := lvRs_bound (rows := c2) (n := 1048578) (fun x hx => okLoose_lvb (oc2 x hx))
  omega
theorem laws_heldDiskResult (H : HH) {row cs : List Cell} {k : Int} (ok : okDiskResult 1048576 row) (hk : 0 ≤ k) (hk2 : k + lvS row ≤ 4611686018427387904) (hr : Refs H (mkS k row) cs) : PFun Try.prog 27 [.a cs, I k] H (I (k + lvS row)) := by
  obtain ⟨a0, c1, c2, rfl, lc1, oc1, lc2, oc2⟩ := ok
  simp only [mkS, Refs_v, Refs_own, Refs_nil, mkRs_length] at hr
  obtain ⟨_, rfl, rc1, qc1, _, rfl, hc1, rc2, qc2, _, rfl, hc2, rfl⟩ := hr
  simp only [lvS] at hk2 ⊢
  refine PFun.of [1, 2, 4, 10] Try.func27 rfl (by simp [Try.f27]) ?_
  intro d hd0 hfr hcl hout
  have hcd : ∀ n q, CleanH (hit [((d, n), q)]) H := fun n q => hcl.at
  have hc1_n : ∀ n, ¬ (d, n) = rc1 := fun n => nm_ne (ne_of_arr hfr hc1)
  have hc1_d : ¬ rc1.1 = d := ne_of_arr hfr hc1
  have hc1_m : ∀ n, ¬ rc1 = (d, n) := fun n => nm_ne' (ne_of_arr hfr hc1)
  have hc2_n : ∀ n, ¬ (d, n) = rc2 := fun n => nm_ne (ne_of_arr hfr hc2)
  have hc2_d : ¬ rc2.1 = d := ne_of_arr hfr hc2
  have hc2_m : ∀ n, ¬ rc2 = (d, n) := fun n => nm_ne' (ne_of_arr hfr hc2)
  simp (maxSteps := 4000000) [hd0, hfr, hout, hcl, hcd, delA_none, hc1, hc1_n, hc1_d, hc1_m, hc2, hc2_n, hc2_d, hc2_m, Try.f27]
  refine (laws_heldDisk _ (row := [.own 1 c1, .own 3 c2]) ⟨c1, c2, rfl, lc1, oc1, lc2, oc2⟩ (by omega) (by simp only [lvS]; omega) (by simp only [mkS, Refs_v, Refs_own, Refs_nil, mkRs_length]; exact ⟨_, _, _, rfl, by simp (maxSteps := 4000000) [hd0, hfr, hout, hcl, hcd, delA_none, hc1, hc1_n, hc1_d, hc1_m, hc2, hc2_n, hc2_d, hc2_m], ⟨_, _, _, rfl, by simp (maxSteps := 4000000) [hd0, hfr, hout, hcl, hcd, delA_none, hc1, hc1_n, hc1_d, hc1_m, hc2, hc2_n, hc2_d, hc2_m], rfl⟩⟩)).useCK ?_
  simp (maxSteps := 4000000) [hd0, hfr, hout, hcl, hcd, delA_none, hc1, hc1_n, hc1_d, hc1_m, hc2, hc2_n, hc2_d, hc2_m, lvS]
  first | (intro h; omega) | (refine ⟨fun h => by omega, fun _ => ?_⟩; skip)
  try omega

theorem laws_markByteS (H : HH) {r q} {rows : List (List Cell)} {k : Int} (hb : rows.length ≤ 1048576) (ok : ∀ x ∈ rows, okU8 x) (hk : 0 ≤ k) (hk2 : k + lvRs rows ≤ 4611686018427387904) (ha : arrAt H r q = some (1, rows)) (h0 : r.1 ≠ 0) : PUpd Try.prog 49 [.c (.sl r q 1 0 rows.length), I k] H (I (k + lvRs rows)) (setA H r q (.own 1 (mkRs k rows))) := by
  have hp : ∀ K, CleanRows K rows := fun K x hx => okU8_pure (ok x hx) K
  refine PUpd.of [0, 1, 4, 5, 9] Try.func49 rfl (by simp [Try.f49]) ?_
  intro d hd0 hfr hcl hout
  have hcd : ∀ n q, CleanH (hit [((d, n), q)]) H := fun n q => hcl.at
  have ha_n : ∀ n, ¬ (d, n) = r := fun n => nm_ne (ne_of_arr hfr ha)
  have ha_d : ¬ r.1 = d := ne_of_arr hfr ha
  have ha_m : ∀ n, ¬ r = (d, n) := fun n => nm_ne' (ne_of_arr hfr ha)
  simp (maxSteps := 4000000) [hd0, hfr, hout, hcl, hcd, delA_none, ha, ha_n, ha_d, ha_m, Try.f49]
  refine LoopK.intro (fun m s => ∃ i : Nat, i + m = rows.length ∧ s = ⟨[(0, .c (.sl r q 1 0 rows.length)), (1, I (k + lvRs (rows.take i))), (5, I i)], setA H r q (.own 1 (mkTo k rows i)), []⟩) (rows.length + 1)
    (LK.intro rows.length [0, 1, 5] [] (by omega) (by decide) (by simp (maxSteps := 4000000) [hd0, hfr, hout, hcl, hcd, delA_none, ha, ha_n, ha_d, ha_m]) ⟨0, by simp [lvRs, mkTo_zero, setA_self ha]⟩) ?_
  rintro m s ⟨i, him, rfl⟩
  have ha1 := arrAt_setA (z := 1) (rows := mkTo k rows i) ha
  simp (maxSteps := 4000000) [hd0, hfr, hout, hcl, hcd, delA_none, ha, ha_n, ha_d, ha_m]
  constructor
  · intro hi
    have hi' : i < rows.length := by omega
    have w1 : IntKind.i64.wrap ((i : Int) + 1) = i + 1 := w64 (by omega) (by omega)
    have hok := ok _ (List.getElem_mem hi')
    have hs := mkTo_set (k := k) hi'
    have ht := lvRs_take hi'
    have hat := mkTo_at (k := k) hi'
    have hle := lvRs_le (rows := rows) (i := i + 1)
    obtain ⟨K, hK⟩ : ∃ K : Int, K = k + lvRs (rows.take i) := ⟨_, rfl⟩
    obtain ⟨a0, hx⟩ := hok
    rw [← hK] at hs ⊢
    rw [hx] at hs ht hat
    simp only [mkR_cons, mkR_nil, mkC_v, mkC_own, mkV, lvC_v, lvC_own, Int.natCast_one] at hs
    simp only [lvR_cons, lvC_v, lvC_own, lvR_nil] at ht
    have hatx := ix_of hat
    have wk1 : IntKind.i64.wrap (K + 1) = K + 1 := w64 (by omega) (by omega)
    simp (maxSteps := 4000000) [hd0, hfr, hout, hcl, hcd, delA_none, ha, ha_n, ha_d, ha_m, h0, hi', hx, ha1, hatx, List.getElem?_set, mkTo_length, setA_setA ha, List.set_set, arrAt_setA ha, w1, hs, wk1]
    exact LK.intro (m - 1) [0, 1, 5] [] (by omega) (by decide) (by simp (maxSteps := 4000000) [hd0, hfr, hout, hcl, hcd, delA_none, ha, ha_n, ha_d, ha_m]) ⟨i + 1, by omega, by simp [hs]; omega⟩
  · intro h
    have hcl' := CleanH_setA (q := q) (r := r) (c := .own 1 (mkRs k rows)) hcl (by rw [Clean_ownR]; exact mkRs_clean (hp _))
    simp (maxSteps := 4000000) [hd0, hfr, hout, hcl, hcd, delA_none, ha, ha_n, ha_d, ha_m, mkTo_all h, lvRs_all h, outH_setA, hcl']

theorem laws_markByteSS (H : HH) {r q} {rows : List (List Cell)} {k : Int} (hb : rows.length ≤ 1048576) (ok : ∀ x ∈ rows, okByteS 1048576 x) (hk : 0 ≤ k) (hk2 : k + lvRs rows ≤ 4611686018427387904) (ha : arrAt H r q = some (1, rows)) (h0 : r.1 ≠ 0) : PUpd Try.prog 104 [.c (.sl r q 1 0 rows.length), I k] H (I (k + lvRs rows)) (setA H r q (.own 1 (mkRs k rows))) := by
  have hp : ∀ K, CleanRows K rows := fun K x hx => okByteS_pure (ok x hx) K
  refine PUpd.of [0, 1, 4, 5, 9] Try.func104 rfl (by simp [Try.f104]) ?_
  intro d hd0 hfr hcl hout
  have hcd : ∀ n q, CleanH (hit [((d, n), q)]) H := fun n q => hcl.at
  have ha_n : ∀ n, ¬ (d, n) = r := fun n => nm_ne (ne_of_arr hfr ha)
  have ha_d : ¬ r.1 = d := ne_of_arr hfr ha
  have ha_m : ∀ n, ¬ r = (d, n) := fun n => nm_ne' (ne_of_arr hfr ha)
  simp (maxSteps := 4000000) [hd0, hfr, hout, hcl, hcd, delA_none, ha, ha_n, ha_d, ha_m, Try.f104]
  refine LoopK.intro (fun m s => ∃ i : Nat, i + m = rows.length ∧ s = ⟨[(0, .c (.sl r q 1 0 rows.length)), (1, I (k + lvRs (rows.take i))), (5, I i)], setA H r q (.own 1 (mkTo k rows i)), []⟩) (rows.length + 1)
    (LK.intro rows.length [0, 1, 5] [] (by omega) (by decide) (by simp (maxSteps := 4000000) [hd0, hfr, hout, hcl, hcd, delA_none, ha, ha_n, ha_d, ha_m]) ⟨0, by simp [lvRs, mkTo_zero, setA_self ha]⟩) ?_
  rintro m s ⟨i, him, rfl⟩
  have ha1 := arrAt_setA (z := 1) (rows := mkTo k rows i) ha
  simp (maxSteps := 4000000) [hd0, hfr, hout, hcl, hcd, delA_none, ha, ha_n, ha_d, ha_m]
  constructor
  · intro hi
    have hi' : i < rows.length := by omega
    have w1 : IntKind.i64.wrap ((i : Int) + 1) = i + 1 := w64 (by omega) (by omega)
    have hok := ok _ (List.getElem_mem hi')
    have hs := mkTo_set (k := k) hi'
    have ht := lvRs_take hi'
    have hat := mkTo_at (k := k) hi'
    have hle := lvRs_le (rows := rows) (i := i + 1)
    obtain ⟨K, hK⟩ : ∃ K : Int, K = k + lvRs (rows.take i) := ⟨_, rfl⟩
    obtain ⟨c0, hx, lc0, oc0⟩ := hok
    rw [← hK] at hs ⊢
    rw [hx] at hs ht hat
    simp only [mkR_cons, mkR_nil, mkC_v, mkC_own, mkV, lvC_v, lvC_own, Int.natCast_one] at hs
    simp only [lvR_cons, lvC_v, lvC_own, lvR_nil] at ht
    have hatx := ix_of hat
    simp (maxSteps := 4000000) [hd0, hfr, hout, hcl, hcd, delA_none, ha, ha_n, ha_d, ha_m, h0, hi', hx, ha1, hatx, List.getElem?_set, mkTo_length, setA_setA ha, List.set_set, arrAt_setA ha]
    have e0 : arrAt (setA H r q (.own 1 ((mkTo k rows i).set i [.own 1 c0]))) r (q ++ [(i, 0)]) = some (1, c0) := arrAt_sub (arrAt_setA ha) (by simp [List.getElem?_set, mkTo_length, hi']; rfl) rfl
    have e0' : (mkTo k rows i).set i [.own 1 c0] = mkTo k rows i := by rw [set_at hat]
    rw [e0'] at e0
    refine (laws_markByteS _ lc0 oc0 (by omega) (by omega) e0 h0).useCK ?_
    have g0 : setA (setA H r q (.own 1 (mkTo k rows i))) r (q ++ [(i, 0)]) (.own 1 (mkRs (K) c0)) = setA H r q (.own 1 ((mkTo k rows i).set i [.own 1 (mkRs (K) c0)])) := by
      rw [setA_sub (arrAt_setA ha) (by first | exact hat | (simp [List.getElem?_set, mkTo_length, hi']; rfl)) rfl, setA_setA ha]; simp [List.set_set]
    simp (maxSteps := 4000000) [hd0, hfr, hout, hcl, hcd, delA_none, ha, ha_n, ha_d, ha_m, h0, hi', hx, ha1, hatx, List.getElem?_set, mkTo_length, setA_setA ha, List.set_set, arrAt_setA ha, w1, hs, g0]
    exact LK.intro (m - 1) [0, 1, 5] [] (by omega) (by decide) (by simp (maxSteps := 4000000) [hd0, hfr, hout, hcl, hcd, delA_none, ha, ha_n, ha_d, ha_m]) ⟨i + 1, by omega, by simp [hs]; omega⟩
  · intro h
    have hcl' := CleanH_setA (q := q) (r := r) (c := .own 1 (mkRs k rows)) hcl (by rw [Clean_ownR]; exact mkRs_clean (hp _))
    simp (maxSteps := 4000000) [hd0, hfr, hout, hcl, hcd, delA_none, ha, ha_n, ha_d, ha_m, mkTo_all h, lvRs_all h, outH_setA, hcl']

theorem laws_markLooseS (H : HH) {r q} {rows : List (List Cell)} {k : Int} (hb : rows.length ≤ 1048576) (ok : ∀ x ∈ rows, okLoose 1048576 x) (hk : 0 ≤ k) (hk2 : k + lvRs rows ≤ 4611686018427387904) (ha : arrAt H r q = some (3, rows)) (h0 : r.1 ≠ 0) : PUpd Try.prog 105 [.c (.sl r q 3 0 rows.length), I k] H (I (k + lvRs rows)) (setA H r q (.own 3 (mkRs k rows))) := by
  have hp : ∀ K, CleanRows K rows := fun K x hx => okLoose_pure (ok x hx) K
  refine PUpd.of [0, 1, 4, 5, 9] Try.func105 rfl (by simp [Try.f105]) ?_
  intro d hd0 hfr hcl hout
  have hcd : ∀ n q, CleanH (hit [((d, n), q)]) H := fun n q => hcl.at
  have ha_n : ∀ n, ¬ (d, n) = r := fun n => nm_ne (ne_of_arr hfr ha)
  have ha_d : ¬ r.1 = d := ne_of_arr hfr ha
  have ha_m : ∀ n, ¬ r = (d, n) := fun n => nm_ne' (ne_of_arr hfr ha)
  simp (maxSteps := 4000000) [hd0, hfr, hout, hcl, hcd, delA_none, ha, ha_n, ha_d, ha_m, Try.f105]
  refine LoopK.intro (fun m s => ∃ i : Nat, i + m = rows.length ∧ s = ⟨[(0, .c (.sl r q 3 0 rows.length)), (1, I (k + lvRs (rows.take i))), (5, I i)], setA H r q (.own 3 (mkTo k rows i)), []⟩) (rows.length + 1)
    (LK.intro rows.length [0, 1, 5] [] (by omega) (by decide) (by simp (maxSteps := 4000000) [hd0, hfr, hout, hcl, hcd, delA_none, ha, ha_n, ha_d, ha_m]) ⟨0, by simp [lvRs, mkTo_zero, setA_self ha]⟩) ?_
  rintro m s ⟨i, him, rfl⟩
  have ha1 := arrAt_setA (z := 3) (rows := mkTo k rows i) ha
  simp (maxSteps := 4000000) [hd0, hfr, hout, hcl, hcd, delA_none, ha, ha_n, ha_d, ha_m]
  constructor
  · intro hi
    have hi' : i < rows.length := by omega
    have w1 : IntKind.i64.wrap ((i : Int) + 1) = i + 1 := w64 (by omega) (by omega)
    have hok := ok _ (List.getElem_mem hi')
    have hs := mkTo_set (k := k) hi'
    have ht := lvRs_take hi'
    have hat := mkTo_at (k := k) hi'
    have hle := lvRs_le (rows := rows) (i := i + 1)
    obtain ⟨K, hK⟩ : ∃ K : Int, K = k + lvRs (rows.take i) := ⟨_, rfl⟩
    obtain ⟨a0, a1, c2, hx, lc2, oc2⟩ := hok
    rw [← hK] at hs ⊢
    rw [hx] at hs ht hat
    simp only [mkR_cons, mkR_nil, mkC_v, mkC_own, mkV, lvC_v, lvC_own, Int.natCast_one] at hs
    simp only [lvR_cons, lvC_v, lvC_own, lvR_nil] at ht
    have hatx := ix_of hat
    have wk1 : IntKind.i64.wrap (K + 1) = K + 1 := w64 (by omega) (by omega)
    have wk2 : IntKind.i64.wrap (K + 1 + 1) = K + 1 + 1 := w64 (by omega) (by omega)
    simp (maxSteps := 4000000) [hd0, hfr, hout, hcl, hcd, delA_none, ha, ha_n, ha_d, ha_m, h0, hi', hx, ha1, hatx, List.getElem?_set, mkTo_length, setA_setA ha, List.set_set, arrAt_setA ha, wk1, wk2]
    have e2 : arrAt (setA H r q (.own 3 ((mkTo k rows i).set i [.v (.int .i64 (K)), .v (.int .i64 (K + 1)), .own 1 c2]))) r (q ++ [(i, 2)]) = some (1, c2) := arrAt_sub (arrAt_setA ha) (by simp [List.getElem?_set, mkTo_length, hi']; rfl) rfl
    skip
    refine (laws_markByteS _ lc2 oc2 (by omega) (by omega) e2 h0).useCK ?_
    have g2 : setA (setA H r q (.own 3 ((mkTo k rows i).set i [.v (.int .i64 (K)), .v (.int .i64 (K + 1)), .own 1 c2]))) r (q ++ [(i, 2)]) (.own 1 (mkRs (K + 1 + 1) c2)) = setA H r q (.own 3 ((mkTo k rows i).set i [.v (.int .i64 (K)), .v (.int .i64 (K + 1)), .own 1 (mkRs (K + 1 + 1) c2)])) := by
      rw [setA_sub (arrAt_setA ha) (by first | exact hat | (simp [List.getElem?_set, mkTo_length, hi']; rfl)) rfl, setA_setA ha]; simp [List.set_set]
    simp (maxSteps := 4000000) [hd0, hfr, hout, hcl, hcd, delA_none, ha, ha_n, ha_d, ha_m, h0, hi', hx, ha1, hatx, List.getElem?_set, mkTo_length, setA_setA ha, List.set_set, arrAt_setA ha, w1, hs, wk1, wk2, g2]
    exact LK.intro (m - 1) [0, 1, 5] [] (by omega) (by decide) (by simp (maxSteps := 4000000) [hd0, hfr, hout, hcl, hcd, delA_none, ha, ha_n, ha_d, ha_m]) ⟨i + 1, by omega, by simp [hs]; omega⟩
  · intro h
    have hcl' := CleanH_setA (q := q) (r := r) (c := .own 3 (mkRs k rows)) hcl (by rw [Clean_ownR]; exact mkRs_clean (hp _))
    simp (maxSteps := 4000000) [hd0, hfr, hout, hcl, hcd, delA_none, ha, ha_n, ha_d, ha_m, mkTo_all h, lvRs_all h, outH_setA, hcl']

theorem laws_markDisk (H : HH) {r q z i f} {rows : List (List Cell)} {pre seg post : List Cell} {k : Int} (ok : okDisk 1048576 seg) (hk : 0 ≤ k) (hk2 : k + lvS seg ≤ 4611686018427387904) (ha : arrAt H r q = some (z, rows)) (h0 : r.1 ≠ 0) (hi : rows[i]? = some (pre ++ seg ++ post)) (hf : f = pre.length) : PUpd Try.prog 25 [.a (ldcs r q i f seg), I k] H (I (k + lvS seg)) (setA H r q (.own z (rows.set i (pre ++ mkS k seg ++ post)))) := by
  obtain ⟨c0, c1, rfl, lc0, oc0, lc1, oc1⟩ := ok
  have pc0 : ∀ K, CleanRows K c0 := fun K x hx => okByteS_pure (oc0 x hx) K
  have pc1 : ∀ K, CleanRows K c1 := fun K x hx => okLoose_pure (oc1 x hx) K
  subst hf
  have hi' : i < rows.length := (List.getElem?_eq_some_iff.1 hi).1
  simp only [lvS] at hk2 ⊢
  simp only [mkS]
  refine PUpd.of [1, 2, 4] Try.func25 rfl (by simp [Try.f25]) ?_
  intro d hd0 hfr hcl hout
  have hcd : ∀ n q, CleanH (hit [((d, n), q)]) H := fun n q => hcl.at
  have ha_n : ∀ n, ¬ (d, n) = r := fun n => nm_ne (ne_of_arr hfr ha)
  have ha_d : ¬ r.1 = d := ne_of_arr hfr ha
  have ha_m : ∀ n, ¬ r = (d, n) := fun n => nm_ne' (ne_of_arr hfr ha)
  simp (maxSteps := 4000000) [hd0, hfr, hout, hcl, hcd, delA_none, ha, ha_n, ha_d, ha_m, Try.f25]
  have s0 := arrAt_sub ha hi (f := pre.length + 0) (z' := 1) (els := c0) (by simp)
  try simp only [Nat.add_zero, List.append_assoc, List.cons_append, List.nil_append] at s0
  refine (laws_markByteSS _ lc0 oc0 (by omega) (by omega) (by simp (maxSteps := 4000000) [hd0, hfr, hout, hcl, hcd, delA_none, ha, ha_n, ha_d, ha_m, s0]) h0).useCK ?_
  have e0 : setA (H) r (q ++ [(i, pre.length + 0)]) (.own 1 (mkRs (k) c0)) = setA H r q (.own z (rows.set i (pre ++ [.own 1 (mkRs (k) c0), .own 3 c1] ++ post))) := by
    rw [setA_sub ha hi (c0 := .own 1 c0) (by simp)]; simp
  try simp only [Nat.add_zero, List.append_assoc, List.cons_append, List.nil_append] at e0
  simp (maxSteps := 4000000) [hd0, hfr, hout, hcl, hcd, delA_none, ha, ha_n, ha_d, ha_m, e0]
  have s1 := arrAt_sub (arrAt_setA (z := z) (rows := rows.set i (pre ++ [.own 1 (mkRs (k) c0), .own 3 c1] ++ post)) ha) (i := i) (row := pre ++ [.own 1 (mkRs (k) c0), .own 3 c1] ++ post) (by simp [hi']) (f := pre.length + 1) (z' := 3) (els := c1) (by simp)
  try simp only [Nat.add_zero, List.append_assoc, List.cons_append, List.nil_append] at s1
  refine (laws_markLooseS _ lc1 oc1 (by omega) (by omega) (by simp (maxSteps := 4000000) [hd0, hfr, hout, hcl, hcd, delA_none, ha, ha_n, ha_d, ha_m, s1]) h0).useCK ?_
  have e1 : setA (setA H r q (.own z (rows.set i (pre ++ [.own 1 (mkRs (k) c0), .own 3 c1] ++ post)))) r (q ++ [(i, pre.length + 1)]) (.own 3 (mkRs (k + lvRs c0) c1)) = setA H r q (.own z (rows.set i (pre ++ [.own 1 (mkRs (k) c0), .own 3 (mkRs (k + lvRs c0) c1)] ++ post))) := by
    rw [setA_sub (arrAt_setA ha) (row := pre ++ [.own 1 (mkRs (k) c0), .own 3 c1] ++ post) (by simp [hi']) (c0 := .own 3 c1) (by simp), setA_setA ha]; simp
  try simp only [Nat.add_zero, List.append_assoc, List.cons_append, List.nil_append] at e1
  have hc' := CleanH_setA (q := q) (r := r) (c := .own z (rows.set i (pre ++ [.own 1 (mkRs (k) c0), .own 3 (mkRs (k + lvRs c0) c1)] ++ post))) hcl (by
    have h1 := (CleanH_arr hcl ha)
    rw [Clean_ownR] at h1 ⊢
    have h2 := h1 _ (List.mem_of_getElem? hi)
    simp [cells1_append] at h2
    refine (CleanRows_set h1 ?_).2 trivial
    simp [cells1_append, h2, mkRs_clean, pc0, pc1])
  try simp only [List.append_assoc, List.cons_append, List.nil_append] at hc'
  simp (maxSteps := 4000000) [hd0, hfr, hout, hcl, hcd, delA_none, ha, ha_n, ha_d, ha_m, e1, outH_setA, hc', mkS]
  try omega

theorem laws_markDiskResult (H : HH) {r q z i f} {rows : List (List Cell)} {pre seg post : List Cell} {k : Int} (ok : okDiskResult 1048576 seg) (hk : 0 ≤ k) (hk2 : k + lvS seg ≤ 4611686018427387904) (ha : arrAt H r q = some (z, rows)) (h0 : r.1 ≠ 0) (hi : rows[i]? = some (pre ++ seg ++ post)) (hf : f = pre.length) : PUpd Try.prog 26 [.a (ldcs r q i f seg), I k] H (I (k + lvS seg)) (setA H r q (.own z (rows.set i (pre ++ mkS k seg ++ post)))) := by
  obtain ⟨a0, c1, c2, rfl, lc1, oc1, lc2, oc2⟩ := ok
  have pc1 : ∀ K, CleanRows K c1 := fun K x hx => okByteS_pure (oc1 x hx) K
  have pc2 : ∀ K, CleanRows K c2 := fun K x hx => okLoose_pure (oc2 x hx) K
  subst hf
  have hi' : i < rows.length := (List.getElem?_eq_some_iff.1 hi).1
  simp only [lvS] at hk2 ⊢
  simp only [mkS]
  refine PUpd.of [1, 2, 4] Try.func26 rfl (by simp [Try.f26]) ?_
  intro d hd0 hfr hcl hout
  have hcd : ∀ n q, CleanH (hit [((d, n), q)]) H := fun n q => hcl.at
  have ha_n : ∀ n, ¬ (d, n) = r := fun n => nm_ne (ne_of_arr hfr ha)
  have ha_d : ¬ r.1 = d := ne_of_arr hfr ha
  have ha_m : ∀ n, ¬ r = (d, n) := fun n => nm_ne' (ne_of_arr hfr ha)
  simp (maxSteps := 4000000) [hd0, hfr, hout, hcl, hcd, delA_none, ha, ha_n, ha_d, ha_m, Try.f26]
  refine ((show _ from laws_markDisk _ (r := r) (q := q) (i := i) (z := z) (rows := rows) (pre := (pre ++ [.v (.int .i64 a0)])) (seg := [.own 1 c1, .own 3 c2]) (post := post) (k := k) ⟨c1, c2, rfl, lc1, oc1, lc2, oc2⟩ (by omega) (by simp only [lvS]; omega) (by simp (maxSteps := 4000000) [hd0, hfr, hout, hcl, hcd, delA_none, ha, ha_n, ha_d, ha_m]) h0 (by simp [hi]) (by simp))).useCK ?_
  have hc' := CleanH_setA (q := q) (r := r) (c := .own z (rows.set i (pre ++ [.v (.int .i64 a0), .own 1 (mkRs (k) c1), .own 3 (mkRs (k + lvRs c1) c2)] ++ post))) hcl (by
    have h1 := (CleanH_arr hcl ha)
    rw [Clean_ownR] at h1 ⊢
    have h2 := h1 _ (List.mem_of_getElem? hi)
    simp [cells1_append] at h2
    refine (CleanRows_set h1 ?_).2 trivial
    simp [cells1_append, h2, mkRs_clean, pc1, pc2])
  try simp only [List.append_assoc, List.cons_append, List.nil_append] at hc'
  simp (maxSteps := 4000000) [hd0, hfr, hout, hcl, hcd, delA_none, ha, ha_n, ha_d, ha_m, outH_setA, hc', mkS, lvS]
  try omega

theorem laws_markInt64S (H : HH) {r q} {rows : List (List Cell)} {k : Int} (hb : rows.length ≤ 1048576) (ok : ∀ x ∈ rows, okI64 x) (hk : 0 ≤ k) (hk2 : k + lvRs rows ≤ 4611686018427387904) (ha : arrAt H r q = some (1, rows)) (h0 : r.1 ≠ 0) : PUpd Try.prog 54 [.c (.sl r q 1 0 rows.length), I k] H (I (k + lvRs rows)) (setA H r q (.own 1 (mkRs k rows))) := by
  have hp : ∀ K, CleanRows K rows := fun K x hx => okI64_pure (ok x hx) K
  refine PUpd.of [0, 1, 4, 5, 9] Try.func54 rfl (by simp [Try.f54]) ?_
  intro d hd0 hfr hcl hout
  have hcd : ∀ n q, CleanH (hit [((d, n), q)]) H := fun n q => hcl.at
  have ha_n : ∀ n, ¬ (d, n) = r := fun n => nm_ne (ne_of_arr hfr ha)
  have ha_d : ¬ r.1 = d := ne_of_arr hfr ha
  have ha_m : ∀ n, ¬ r = (d, n) := fun n => nm_ne' (ne_of_arr hfr ha)
  simp (maxSteps := 4000000) [hd0, hfr, hout, hcl, hcd, delA_none, ha, ha_n, ha_d, ha_m, Try.f54]
  refine LoopK.intro (fun m s => ∃ i : Nat, i + m = rows.length ∧ s = ⟨[(0, .c (.sl r q 1 0 rows.length)), (1, I (k + lvRs (rows.take i))), (5, I i)], setA H r q (.own 1 (mkTo k rows i)), []⟩) (rows.length + 1)
    (LK.intro rows.length [0, 1, 5] [] (by omega) (by decide) (by simp (maxSteps := 4000000) [hd0, hfr, hout, hcl, hcd, delA_none, ha, ha_n, ha_d, ha_m]) ⟨0, by simp [lvRs, mkTo_zero, setA_self ha]⟩) ?_
  rintro m s ⟨i, him, rfl⟩
  have ha1 := arrAt_setA (z := 1) (rows := mkTo k rows i) ha
  simp (maxSteps := 4000000) [hd0, hfr, hout, hcl, hcd, delA_none, ha, ha_n, ha_d, ha_m]
  constructor
  · intro hi
    have hi' : i < rows.length := by omega
    have w1 : IntKind.i64.wrap ((i : Int) + 1) = i + 1 := w64 (by omega) (by omega)
    have hok := ok _ (List.getElem_mem hi')
    have hs := mkTo_set (k := k) hi'
    have ht := lvRs_take hi'
    have hat := mkTo_at (k := k) hi'
    have hle := lvRs_le (rows := rows) (i := i + 1)
    obtain ⟨K, hK⟩ : ∃ K : Int, K = k + lvRs (rows.take i) := ⟨_, rfl⟩
    obtain ⟨a0, hx⟩ := hok
    rw [← hK] at hs ⊢
    rw [hx] at hs ht hat
    simp only [mkR_cons, mkR_nil, mkC_v, mkC_own, mkV, lvC_v, lvC_own, Int.natCast_one] at hs
    simp only [lvR_cons, lvC_v, lvC_own, lvR_nil] at ht
    have hatx := ix_of hat
    have wk1 : IntKind.i64.wrap (K + 1) = K + 1 := w64 (by omega) (by omega)
    simp (maxSteps := 4000000) [hd0, hfr, hout, hcl, hcd, delA_none, ha, ha_n, ha_d, ha_m, h0, hi', hx, ha1, hatx, List.getElem?_set, mkTo_length, setA_setA ha, List.set_set, arrAt_setA ha, w1, hs, wk1]
    exact LK.intro (m - 1) [0, 1, 5] [] (by omega) (by decide) (by simp (maxSteps := 4000000) [hd0, hfr, hout, hcl, hcd, delA_none, ha, ha_n, ha_d, ha_m]) ⟨i + 1, by omega, by simp [hs]; omega⟩
  · intro h
    have hcl' := CleanH_setA (q := q) (r := r) (c := .own 1 (mkRs k rows)) hcl (by rw [Clean_ownR]; exact mkRs_clean (hp _))
    simp (maxSteps := 4000000) [hd0, hfr, hout, hcl, hcd, delA_none, ha, ha_n, ha_d, ha_m, mkTo_all h, lvRs_all h, outH_setA, hcl']

theorem laws_szByteS (H : HH) {r q} {rows : List (List Cell)} {left : Int} (hn : rows.length ≤ 9223372036854775807) (h1 : 0 ≤ left) (h2 : left ≤ 1048576) (ok : ∀ x ∈ rows, okU8 x) : PFun Try.prog 120 [.c (.sl r q 1 0 rows.length), I left] H (I (szV (cntC (.own 1 rows)) left)) := by
  rw [cntC_own, cntRs_zero (fun x hx => okU8_cnt (ok x hx))]
  refine PFun.of [0, 1, 4, 10] Try.func120 rfl (by simp [Try.f120]) ?_
  intro d hd0 hfr hcl hout
  have hcd : ∀ n q, CleanH (hit [((d, n), q)]) H := fun n q => hcl.at
  simp (maxSteps := 4000000) [hd0, hfr, hout, hcl, hcd, delA_none, Try.f120]
  have w : IntKind.i64.wrap (left - rows.length) = left - rows.length := w64 (by omega) (by omega)
  simp (maxSteps := 4000000) [hd0, hfr, hout, hcl, hcd, delA_none, w, szV]
  omega

theorem laws_szByteSS (H : HH) {r q} {rows : List (List Cell)} {left : Int} (hn : rows.length ≤ 9223372036854775807) (h1 : 0 ≤ left) (h2 : left ≤ 1048576) (ok : ∀ x ∈ rows, okByteS 9223372036854775807 x) (ha : arrAt H r q = some (1, rows)) : PFun Try.prog 95 [.c (.sl r q 1 0 rows.length), I left] H (I (szV (cntC (.own 1 rows)) left)) := by
  rw [cntC_own]
  refine PFun.of [0, 1, 4, 5, 11, 15, 25] Try.func95 rfl (by simp [Try.f95]) ?_
  intro d hd0 hfr hcl hout
  have hcd : ∀ n q, CleanH (hit [((d, n), q)]) H := fun n q => hcl.at
  have ha_n : ∀ n, ¬ (d, n) = r := fun n => nm_ne (ne_of_arr hfr ha)
  have ha_d : ¬ r.1 = d := ne_of_arr hfr ha
  have ha_m : ∀ n, ¬ r = (d, n) := fun n => nm_ne' (ne_of_arr hfr ha)
  simp (maxSteps := 4000000) [hd0, hfr, hout, hcl, hcd, delA_none, ha, ha_n, ha_d, ha_m, Try.f95]
  have w : IntKind.i64.wrap (left - rows.length) = left - rows.length := w64 (by omega) (by omega)
  simp (maxSteps := 4000000) [hd0, hfr, hout, hcl, hcd, delA_none, ha, ha_n, ha_d, ha_m, w]
  refine ⟨fun h => by rw [szV_neg (by push_cast; omega)], fun h => ?_⟩
  refine LoopK.intro (fun m s => ∃ i : Nat, i + m = rows.length ∧ (rows.length : Int) + cntRs (rows.take i) ≤ left ∧ s = ⟨[(0, .c (.sl r q 1 0 rows.length)), (1, I (left - rows.length - cntRs (rows.take i))), (5, I i)], H, []⟩) (rows.length + 1)
    (LK.intro rows.length [0, 1, 5] [] (by omega) (by decide) (by simp (maxSteps := 4000000) [hd0, hfr, hout, hcl, hcd, delA_none, ha, ha_n, ha_d, ha_m]) ⟨0, by omega, by simp [cntRs]; omega, by simp [cntRs]⟩) ?_
  rintro m s ⟨i, him, hle, rfl⟩
  simp (maxSteps := 4000000) [hd0, hfr, hout, hcl, hcd, delA_none, ha, ha_n, ha_d, ha_m]
  constructor
  · intro hi
    have hi' : i < rows.length := by omega
    have w1 : IntKind.i64.wrap ((i : Int) + 1) = i + 1 := w64 (by omega) (by omega)
    have hx' := ok _ (List.getElem_mem hi')
    have ht := cntRs_take hi'
    have hle2 := cntRs_split (rows := rows) (i := i + 1)
    obtain ⟨c0, hx, lc0, oc0⟩ := hx'
    have hsub := arrAt_sub ha (List.getElem?_eq_getElem hi') (f := 0) (by rw [hx]; rfl)
    simp (maxSteps := 4000000) [hd0, hfr, hout, hcl, hcd, delA_none, ha, ha_n, ha_d, ha_m, hi', hx]
    refine (laws_szByteS _ lc0 (by omega) (by omega) oc0).useCK ?_
    rw [hx] at ht; simp only [cntR_cons, cntR_nil] at ht
    by_cases hc : (cntC (.own 1 c0) : Int) ≤ left - rows.length - cntRs (rows.take i)
    · rw [szV_pos hc]
      simp (maxSteps := 4000000) [hd0, hfr, hout, hcl, hcd, delA_none, ha, ha_n, ha_d, ha_m, w1]
      refine ⟨fun h => by omega, fun _ => ?_⟩
      exact LK.intro (m - 1) [0, 1, 5] [] (by omega) (by decide) (by simp (maxSteps := 4000000) [hd0, hfr, hout, hcl, hcd, delA_none, ha, ha_n, ha_d, ha_m]) ⟨i + 1, by omega, by omega, by simp; omega⟩
    · rw [szV_neg hc]
      simp (maxSteps := 4000000) [hd0, hfr, hout, hcl, hcd, delA_none, ha, ha_n, ha_d, ha_m]
      rw [szV_neg (by push_cast; omega)]
  · intro h
    rw [cntRs_all (by omega)] at hle ⊢
    try simp (maxSteps := 4000000) [hd0, hfr, hout, hcl, hcd, delA_none, ha, ha_n, ha_d, ha_m]
    rw [szV_pos (by push_cast; omega)]; push_cast; omega

theorem laws_szLoose (H : HH) {row cs : List Cell} {left : Int} (ok : okLoose 9223372036854775807 row) (hr : Refs H row cs) (h1 : 0 ≤ left) (h2 : left ≤ 1048576) : PFun Try.prog 154 [.a cs, I left] H (I (szV (cntR row) left)) := by
  obtain ⟨a0, a1, c2, rfl, lc2, oc2⟩ := ok
  simp only [Refs_v, Refs_own, Refs_nil] at hr
  obtain ⟨_, rfl, _, rfl, rc2, qc2, _, rfl, hc2, rfl⟩ := hr
  simp only [cntR_cons, cntR_nil, cntC_v, cntC_own]
  refine PFun.of [1, 2, 4, 10] Try.func154 rfl (by simp [Try.f154]) ?_
  intro d hd0 hfr hcl hout
  have hcd : ∀ n q, CleanH (hit [((d, n), q)]) H := fun n q => hcl.at
  have hc2_n : ∀ n, ¬ (d, n) = rc2 := fun n => nm_ne (ne_of_arr hfr hc2)
  have hc2_d : ¬ rc2.1 = d := ne_of_arr hfr hc2
  have hc2_m : ∀ n, ¬ rc2 = (d, n) := fun n => nm_ne' (ne_of_arr hfr hc2)
  simp (maxSteps := 4000000) [hd0, hfr, hout, hcl, hcd, delA_none, hc2, hc2_n, hc2_d, hc2_m, Try.f154]
  refine (laws_szByteS _ lc2 (by omega) (by omega) oc2).useCK ?_
  simp only [cntC_own]
  by_cases k1 : ((c2.length + cntRs c2 : Nat) : Int) ≤ left
  case neg => rw [szV_neg k1]; simp (maxSteps := 4000000) [hd0, hfr, hout, hcl, hcd, delA_none, hc2, hc2_n, hc2_d, hc2_m]; try rw [szV_neg (by omega)]
  rw [szV_pos k1]
  obtain ⟨L1, hL1⟩ : ∃ L : Int, L = left - ((c2.length + cntRs c2 : Nat) : Int) := ⟨_, rfl⟩
  rw [← hL1]
  simp (maxSteps := 4000000) [hd0, hfr, hout, hcl, hcd, delA_none, hc2, hc2_n, hc2_d, hc2_m]
  first | (intro h; omega) | (refine ⟨fun h => by omega, fun _ => ?_⟩; rw [szV_pos (by omega)]; omega)

theorem laws_szLooseS (H : HH) {r q} {rows : List (List Cell)} {left : Int} (hn : rows.length ≤ 9223372036854775807) (h1 : 0 ≤ left) (h2 : left ≤ 1048576) (ok : ∀ x ∈ rows, okLoose 9223372036854775807 x) (ha : arrAt H r q = some (3, rows)) : PFun Try.prog 96 [.c (.sl r q 3 0 rows.length), I left] H (I (szV (cntC (.own 3 rows)) left)) := by
  rw [cntC_own]
  refine PFun.of [0, 1, 4, 5, 11, 15, 25] Try.func96 rfl (by simp [Try.f96]) ?_
  intro d hd0 hfr hcl hout
  have hcd : ∀ n q, CleanH (hit [((d, n), q)]) H := fun n q => hcl.at
  have ha_n : ∀ n, ¬ (d, n) = r := fun n => nm_ne (ne_of_arr hfr ha)
  have ha_d : ¬ r.1 = d := ne_of_arr hfr ha
  have ha_m : ∀ n, ¬ r = (d, n) := fun n => nm_ne' (ne_of_arr hfr ha)
  simp (maxSteps := 4000000) [hd0, hfr, hout, hcl, hcd, delA_none, ha, ha_n, ha_d, ha_m, Try.f96]
  have w : IntKind.i64.wrap (left - rows.length) = left - rows.length := w64 (by omega) (by omega)
  simp (maxSteps := 4000000) [hd0, hfr, hout, hcl, hcd, delA_none, ha, ha_n, ha_d, ha_m, w]
  refine ⟨fun h => by rw [szV_neg (by push_cast; omega)], fun h => ?_⟩
  refine LoopK.intro (fun m s => ∃ i : Nat, i + m = rows.length ∧ (rows.length : Int) + cntRs (rows.take i) ≤ left ∧ s = ⟨[(0, .c (.sl r q 3 0 rows.length)), (1, I (left - rows.length - cntRs (rows.take i))), (5, I i)], H, []⟩) (rows.length + 1)
    (LK.intro rows.length [0, 1, 5] [] (by omega) (by decide) (by simp (maxSteps := 4000000) [hd0, hfr, hout, hcl, hcd, delA_none, ha, ha_n, ha_d, ha_m]) ⟨0, by omega, by simp [cntRs]; omega, by simp [cntRs]⟩) ?_
  rintro m s ⟨i, him, hle, rfl⟩
  simp (maxSteps := 4000000) [hd0, hfr, hout, hcl, hcd, delA_none, ha, ha_n, ha_d, ha_m]
  constructor
  · intro hi
    have hi' : i < rows.length := by omega
    have w1 : IntKind.i64.wrap ((i : Int) + 1) = i + 1 := w64 (by omega) (by omega)
    have hx' := ok _ (List.getElem_mem hi')
    have ht := cntRs_take hi'
    have hle2 := cntRs_split (rows := rows) (i := i + 1)
    have hok := hx'
    obtain ⟨a0, a1, c2, hx, lc2, oc2⟩ := hx'
    rw [hx] at hok
    have sc2 := arrAt_sub ha (List.getElem?_eq_getElem hi') (f := 2) (by rw [hx]; rfl)
    simp (maxSteps := 4000000) [hd0, hfr, hout, hcl, hcd, delA_none, ha, ha_n, ha_d, ha_m, hi', hx]
    refine (laws_szLoose _ hok (Refs_v.2 ⟨_, rfl, Refs_v.2 ⟨_, rfl, Refs_own.2 ⟨_, _, _, rfl, by simp (maxSteps := 4000000) [hd0, hfr, hout, hcl, hcd, delA_none, ha, ha_n, ha_d, ha_m, sc2], Refs_nil.2 rfl⟩⟩⟩) (by omega) (by omega)).useCK ?_
    rw [hx] at ht
    by_cases hc : (cntR [.v (.int .i64 a0), .v (.int .i64 a1), .own 1 c2] : Int) ≤ left - rows.length - cntRs (rows.take i)
    · rw [szV_pos hc]
      simp (maxSteps := 4000000) [hd0, hfr, hout, hcl, hcd, delA_none, ha, ha_n, ha_d, ha_m, w1]
      refine ⟨fun h => by omega, fun _ => ?_⟩
      exact LK.intro (m - 1) [0, 1, 5] [] (by omega) (by decide) (by simp (maxSteps := 4000000) [hd0, hfr, hout, hcl, hcd, delA_none, ha, ha_n, ha_d, ha_m]) ⟨i + 1, by omega, by omega, by simp; omega⟩
    · rw [szV_neg hc]
      simp (maxSteps := 4000000) [hd0, hfr, hout, hcl, hcd, delA_none, ha, ha_n, ha_d, ha_m]
      rw [szV_neg (by push_cast; omega)]
  · intro h
    rw [cntRs_all (by omega)] at hle ⊢
    try simp (maxSteps := 4000000) [hd0, hfr, hout, hcl, hcd, delA_none, ha, ha_n, ha_d, ha_m]
    rw [szV_pos (by push_cast; omega)]; push_cast; omega

theorem laws_szDisk (H : HH) {row cs : List Cell} {left : Int} (ok : okDisk 9223372036854775807 row) (hr : Refs H row cs) (h1 : 0 ≤ left) (h2 : left ≤ 1048576) : PFun Try.prog 19 [.a cs, I left] H (I (szV (cntR row) left)) := by
  obtain ⟨c0, c1, rfl, lc0, oc0, lc1, oc1⟩ := ok
  simp only [Refs_v, Refs_own, Refs_nil] at hr
  obtain ⟨rc0, qc0, _, rfl, hc0, rc1, qc1, _, rfl, hc1, rfl⟩ := hr
  simp only [cntR_cons, cntR_nil, cntC_v, cntC_own]
  refine PFun.of [1, 2, 4, 10, 16] Try.func19 rfl (by simp [Try.f19]) ?_
  intro d hd0 hfr hcl hout
  have hcd : ∀ n q, CleanH (hit [((d, n), q)]) H := fun n q => hcl.at
  have hc0_n : ∀ n, ¬ (d, n) = rc0 := fun n => nm_ne (ne_of_arr hfr hc0)
  have hc0_d : ¬ rc0.1 = d := ne_of_arr hfr hc0
  have hc0_m : ∀ n, ¬ rc0 = (d, n) := fun n => nm_ne' (ne_of_arr hfr hc0)
  have hc1_n : ∀ n, ¬ (d, n) = rc1 := fun n => nm_ne (ne_of_arr hfr hc1)
  have hc1_d : ¬ rc1.1 = d := ne_of_arr hfr hc1
  have hc1_m : ∀ n, ¬ rc1 = (d, n) := fun n => nm_ne' (ne_of_arr hfr hc1)
  simp (maxSteps := 4000000) [hd0, hfr, hout, hcl, hcd, delA_none, hc0, hc0_n, hc0_d, hc0_m, hc1, hc1_n, hc1_d, hc1_m, Try.f19]
  refine (laws_szByteSS _ lc0 (by omega) (by omega) oc0 (by simp (maxSteps := 4000000) [hd0, hfr, hout, hcl, hcd, delA_none, hc0, hc0_n, hc0_d, hc0_m, hc1, hc1_n, hc1_d, hc1_m])).useCK ?_
  simp only [cntC_own]
  by_cases k1 : ((c0.length + cntRs c0 : Nat) : Int) ≤ left
  case neg => rw [szV_neg k1]; simp (maxSteps := 4000000) [hd0, hfr, hout, hcl, hcd, delA_none, hc0, hc0_n, hc0_d, hc0_m, hc1, hc1_n, hc1_d, hc1_m]; try rw [szV_neg (by omega)]
  rw [szV_pos k1]
  obtain ⟨L1, hL1⟩ : ∃ L : Int, L = left - ((c0.length + cntRs c0 : Nat) : Int) := ⟨_, rfl⟩
  rw [← hL1]
  simp (maxSteps := 4000000) [hd0, hfr, hout, hcl, hcd, delA_none, hc0, hc0_n, hc0_d, hc0_m, hc1, hc1_n, hc1_d, hc1_m]
  refine ⟨fun h => by omega, fun _ => ?_⟩
  refine (laws_szLooseS _ lc1 (by omega) (by omega) oc1 (by simp (maxSteps := 4000000) [hd0, hfr, hout, hcl, hcd, delA_none, hc0, hc0_n, hc0_d, hc0_m, hc1, hc1_n, hc1_d, hc1_m])).useCK ?_
  simp only [cntC_own]
  by_cases k2 : ((c1.length + cntRs c1 : Nat) : Int) ≤ L1
  case neg => rw [szV_neg k2]; simp (maxSteps := 4000000) [hd0, hfr, hout, hcl, hcd, delA_none, hc0, hc0_n, hc0_d, hc0_m, hc1, hc1_n, hc1_d, hc1_m]; try rw [szV_neg (by omega)]
  rw [szV_pos k2]
  obtain ⟨L2, hL2⟩ : ∃ L : Int, L = L1 - ((c1.length + cntRs c1 : Nat) : Int) := ⟨_, rfl⟩
  rw [← hL2]
  simp (maxSteps := 4000000) [hd0, hfr, hout, hcl, hcd, delA_none, hc0, hc0_n, hc0_d, hc0_m, hc1, hc1_n, hc1_d, hc1_m]
  first | (intro h; omega) | (refine ⟨fun h => by omega, fun _ => ?_⟩; rw [szV_pos (by omega)]; omega)

theorem laws_toByteS (H : HH) {r q} {rows : List (List Cell)} (hb : rows.length ≤ 1048576) (ok : ∀ x ∈ rows, okU8 x) (ha : arrAt H r q = some (1, rows)) : PFun Try.prog 46 [.c (.sl r q 1 0 rows.length)] H (.c (.own 1 rows)) := by
  refine PFun.of [0, 2, 3, 4, 11] Try.func46 rfl (by simp [Try.f46]) ?_
  intro d hd0 hfr hcl hout
  have hcd : ∀ n q, CleanH (hit [((d, n), q)]) H := fun n q => hcl.at
  have ha_n : ∀ n, ¬ (d, n) = r := fun n => nm_ne (ne_of_arr hfr ha)
  have ha_d : ¬ r.1 = d := ne_of_arr hfr ha
  have ha_m : ∀ n, ¬ r = (d, n) := fun n => nm_ne' (ne_of_arr hfr ha)
  simp (maxSteps := 4000000) [hd0, hfr, hout, hcl, hcd, delA_none, ha, ha_n, ha_d, ha_m, Try.f46]
  have hp : ∀ K, CleanRows K rows := fun K x hx => okU8_pure (ok x hx) K
  refine ⟨by omega, ?_⟩
  refine LoopK.intro (fun m s => ∃ i : Nat, i + m = rows.length ∧ s = ⟨[(0, .c (.sl r q 1 0 rows.length)), (3, .c (.sl (d, 3) [] 1 0 rows.length)), (4, I i)], ((d, 3), .own 1 (upTo [.v (.int .u8 0)] rows i)) :: H, []⟩) (rows.length + 1)
    (LK.intro rows.length [0, 3, 4] [2] (by omega) (by decide) (by simp (maxSteps := 4000000) [hd0, hfr, hout, hcl, hcd, delA_none, ha, ha_n, ha_d, ha_m]) ⟨0, by simp [upTo_zero]⟩) ?_
  rintro m s ⟨i, him, rfl⟩
  simp (maxSteps := 4000000) [hd0, hfr, hout, hcl, hcd, delA_none, ha, ha_n, ha_d, ha_m]
  constructor
  · intro hi
    have hi' : i < rows.length := by omega
    have w1 : IntKind.i64.wrap ((i : Int) + 1) = i + 1 := w64 (by omega) (by omega)
    have hok := ok _ (List.getElem_mem hi')
    have hs := upTo_set (r := [.v (.int .u8 0)]) hi'
    have hat := upTo_at (r := [.v (.int .u8 0)]) hi'
    have hatx := ix_of hat
    obtain ⟨x0, hx⟩ := hok
    rw [hx] at hs
    simp (maxSteps := 4000000) [hd0, hfr, hout, hcl, hcd, delA_none, ha, ha_n, ha_d, ha_m, hi', hx, upTo_length, hatx, w1, hs]
    exact LK.intro (m - 1) [0, 3, 4] [] (by omega) (by decide) (by simp (maxSteps := 4000000) [hd0, hfr, hout, hcl, hcd, delA_none, ha, ha_n, ha_d, ha_m]) ⟨i + 1, by omega, by simp [hs]⟩
  · intro h
    simp (maxSteps := 4000000) [hd0, hfr, hout, hcl, hcd, delA_none, ha, ha_n, ha_d, ha_m, upTo_all h, hp]

theorem laws_toByteSS (H : HH) {r q} {rows : List (List Cell)} (hb : rows.length ≤ 1048576) (ok : ∀ x ∈ rows, okByteS 1048576 x) (ha : arrAt H r q = some (1, rows)) : PFun Try.prog 99 [.c (.sl r q 1 0 rows.length)] H (.c (.own 1 rows)) := by
  refine PFun.of [0, 2, 3, 4, 11] Try.func99 rfl (by simp [Try.f99]) ?_
  intro d hd0 hfr hcl hout
  have hcd : ∀ n q, CleanH (hit [((d, n), q)]) H := fun n q => hcl.at
  have ha_n : ∀ n, ¬ (d, n) = r := fun n => nm_ne (ne_of_arr hfr ha)
  have ha_d : ¬ r.1 = d := ne_of_arr hfr ha
  have ha_m : ∀ n, ¬ r = (d, n) := fun n => nm_ne' (ne_of_arr hfr ha)
  simp (maxSteps := 4000000) [hd0, hfr, hout, hcl, hcd, delA_none, ha, ha_n, ha_d, ha_m, Try.f99]
  have hp : ∀ K, CleanRows K rows := fun K x hx => okByteS_pure (ok x hx) K
  refine ⟨by omega, ?_⟩
  refine LoopK.intro (fun m s => ∃ i : Nat, i + m = rows.length ∧ s = ⟨[(0, .c (.sl r q 1 0 rows.length)), (3, .c (.sl (d, 3) [] 1 0 rows.length)), (4, I i)], ((d, 3), .own 1 (upTo [.own 1 []] rows i)) :: H, []⟩) (rows.length + 1)
    (LK.intro rows.length [0, 3, 4] [2] (by omega) (by decide) (by simp (maxSteps := 4000000) [hd0, hfr, hout, hcl, hcd, delA_none, ha, ha_n, ha_d, ha_m]) ⟨0, by simp [upTo_zero]⟩) ?_
  rintro m s ⟨i, him, rfl⟩
  simp (maxSteps := 4000000) [hd0, hfr, hout, hcl, hcd, delA_none, ha, ha_n, ha_d, ha_m]
  constructor
  · intro hi
    have hi' : i < rows.length := by omega
    have w1 : IntKind.i64.wrap ((i : Int) + 1) = i + 1 := w64 (by omega) (by omega)
    have hok := ok _ (List.getElem_mem hi')
    have hs := upTo_set (r := [.own 1 []]) hi'
    have hat := upTo_at (r := [.own 1 []]) hi'
    have hatx := ix_of hat
    have hok' := hok
    obtain ⟨c0, hx, lc0, oc0⟩ := hok
    have hsub := arrAt_sub ha (List.getElem?_eq_getElem hi') (f := 0) (by rw [hx]; rfl)
    rw [hx] at hs
    have pc0 : ∀ K, CleanRows K c0 := fun K x hx => okU8_pure (oc0 x hx) K
    simp (maxSteps := 4000000) [hd0, hfr, hout, hcl, hcd, delA_none, ha, ha_n, ha_d, ha_m, hi', hx]
    refine (laws_toByteS _ lc0 oc0 (by simp (maxSteps := 4000000) [hd0, hfr, hout, hcl, hcd, delA_none, ha, ha_n, ha_d, ha_m, hsub])).useCK ?_
    simp (maxSteps := 4000000) [hd0, hfr, hout, hcl, hcd, delA_none, ha, ha_n, ha_d, ha_m, hi', hx, hatx, upTo_length, w1, hs, hp, CleanRows_upTo, pc0]
    exact LK.intro (m - 1) [0, 3, 4] [] (by omega) (by decide) (by simp (maxSteps := 4000000) [hd0, hfr, hout, hcl, hcd, delA_none, ha, ha_n, ha_d, ha_m]) ⟨i + 1, by omega, by simp [hs]⟩
  · intro h
    simp (maxSteps := 4000000) [hd0, hfr, hout, hcl, hcd, delA_none, ha, ha_n, ha_d, ha_m, upTo_all h, hp]

theorem laws_toInt64S (H : HH) {r q} {rows : List (List Cell)} (hb : rows.length ≤ 1048576) (ok : ∀ x ∈ rows, okI64 x) (ha : arrAt H r q = some (1, rows)) : PFun Try.prog 51 [.c (.sl r q 1 0 rows.length)] H (.c (.own 1 rows)) := by
  refine PFun.of [0, 2, 3, 4, 11] Try.func51 rfl (by simp [Try.f51]) ?_
  intro d hd0 hfr hcl hout
  have hcd : ∀ n q, CleanH (hit [((d, n), q)]) H := fun n q => hcl.at
  have ha_n : ∀ n, ¬ (d, n) = r := fun n => nm_ne (ne_of_arr hfr ha)
  have ha_d : ¬ r.1 = d := ne_of_arr hfr ha
  have ha_m : ∀ n, ¬ r = (d, n) := fun n => nm_ne' (ne_of_arr hfr ha)
  simp (maxSteps := 4000000) [hd0, hfr, hout, hcl, hcd, delA_none, ha, ha_n, ha_d, ha_m, Try.f51]
  have hp : ∀ K, CleanRows K rows := fun K x hx => okI64_pure (ok x hx) K
  refine ⟨by omega, ?_⟩
  refine LoopK.intro (fun m s => ∃ i : Nat, i + m = rows.length ∧ s = ⟨[(0, .c (.sl r q 1 0 rows.length)), (3, .c (.sl (d, 3) [] 1 0 rows.length)), (4, I i)], ((d, 3), .own 1 (upTo [.v (.int .i64 0)] rows i)) :: H, []⟩) (rows.length + 1)
    (LK.intro rows.length [0, 3, 4] [2] (by omega) (by decide) (by simp (maxSteps := 4000000) [hd0, hfr, hout, hcl, hcd, delA_none, ha, ha_n, ha_d, ha_m]) ⟨0, by simp [upTo_zero]⟩) ?_
  rintro m s ⟨i, him, rfl⟩
  simp (maxSteps := 4000000) [hd0, hfr, hout, hcl, hcd, delA_none, ha, ha_n, ha_d, ha_m]
  constructor
  · intro hi
    have hi' : i < rows.length := by omega
    have w1 : IntKind.i64.wrap ((i : Int) + 1) = i + 1 := w64 (by omega) (by omega)
    have hok := ok _ (List.getElem_mem hi')
    have hs := upTo_set (r := [.v (.int .i64 0)]) hi'
    have hat := upTo_at (r := [.v (.int .i64 0)]) hi'
    have hatx := ix_of hat
    obtain ⟨x0, hx⟩ := hok
    rw [hx] at hs
    simp (maxSteps := 4000000) [hd0, hfr, hout, hcl, hcd, delA_none, ha, ha_n, ha_d, ha_m, hi', hx, upTo_length, hatx, w1, hs]
    exact LK.intro (m - 1) [0, 3, 4] [] (by omega) (by decide) (by simp (maxSteps := 4000000) [hd0, hfr, hout, hcl, hcd, delA_none, ha, ha_n, ha_d, ha_m]) ⟨i + 1, by omega, by simp [hs]⟩
  · intro h
    simp (maxSteps := 4000000) [hd0, hfr, hout, hcl, hcd, delA_none, ha, ha_n, ha_d, ha_m, upTo_all h, hp]

theorem laws_toLoose (H : HH) {row cs : List Cell} (ok : okLoose 1048576 row) (hr : Refs H row cs) : PFun Try.prog 155 [.a cs] H (.a row) := by
  obtain ⟨a0, a1, c2, rfl, lc2, oc2⟩ := ok
  simp only [Refs_v, Refs_own, Refs_nil] at hr
  obtain ⟨_, rfl, _, rfl, rc2, qc2, _, rfl, hc2, rfl⟩ := hr
  have pc2 : ∀ K, CleanRows K c2 := fun K x hx => okU8_pure (oc2 x hx) K
  refine PFun.of [1, 2, 3] Try.func155 rfl (by simp [Try.f155]) ?_
  intro d hd0 hfr hcl hout
  have hcd : ∀ n q, CleanH (hit [((d, n), q)]) H := fun n q => hcl.at
  have hc2_n : ∀ n, ¬ (d, n) = rc2 := fun n => nm_ne (ne_of_arr hfr hc2)
  have hc2_d : ¬ rc2.1 = d := ne_of_arr hfr hc2
  have hc2_m : ∀ n, ¬ rc2 = (d, n) := fun n => nm_ne' (ne_of_arr hfr hc2)
  simp (maxSteps := 4000000) [hd0, hfr, hout, hcl, hcd, delA_none, hc2, hc2_n, hc2_d, hc2_m, Try.f155]
  refine (laws_toByteS _ lc2 oc2 (by simp (maxSteps := 4000000) [hd0, hfr, hout, hcl, hcd, delA_none, hc2, hc2_n, hc2_d, hc2_m])).useCK ?_
  simp (maxSteps := 4000000) [hd0, hfr, hout, hcl, hcd, delA_none, hc2, hc2_n, hc2_d, hc2_m, pc2]

theorem laws_toLooseS (H : HH) {r q} {rows : List (List Cell)} (hb : rows.length ≤ 1048576) (ok : ∀ x ∈ rows, okLoose 1048576 x) (ha : arrAt H r q = some (3, rows)) : PFun Try.prog 100 [.c (.sl r q 3 0 rows.length)] H (.c (.own 3 rows)) := by
  refine PFun.of [0, 2, 3, 4, 11] Try.func100 rfl (by simp [Try.f100]) ?_
  intro d hd0 hfr hcl hout
  have hcd : ∀ n q, CleanH (hit [((d, n), q)]) H := fun n q => hcl.at
  have ha_n : ∀ n, ¬ (d, n) = r := fun n => nm_ne (ne_of_arr hfr ha)
  have ha_d : ¬ r.1 = d := ne_of_arr hfr ha
  have ha_m : ∀ n, ¬ r = (d, n) := fun n => nm_ne' (ne_of_arr hfr ha)
  simp (maxSteps := 4000000) [hd0, hfr, hout, hcl, hcd, delA_none, ha, ha_n, ha_d, ha_m, Try.f100]
  have hp : ∀ K, CleanRows K rows := fun K x hx => okLoose_pure (ok x hx) K
  refine ⟨by omega, ?_⟩
  refine LoopK.intro (fun m s => ∃ i : Nat, i + m = rows.length ∧ s = ⟨[(0, .c (.sl r q 3 0 rows.length)), (3, .c (.sl (d, 3) [] 3 0 rows.length)), (4, I i)], ((d, 3), .own 3 (upTo [.v (.int .i64 0), .v (.int .i64 0), .own 1 []] rows i)) :: H, []⟩) (rows.length + 1)
    (LK.intro rows.length [0, 3, 4] [2] (by omega) (by decide) (by simp (maxSteps := 4000000) [hd0, hfr, hout, hcl, hcd, delA_none, ha, ha_n, ha_d, ha_m]) ⟨0, by simp [upTo_zero]⟩) ?_
  rintro m s ⟨i, him, rfl⟩
  simp (maxSteps := 4000000) [hd0, hfr, hout, hcl, hcd, delA_none, ha, ha_n, ha_d, ha_m]
  constructor
  · intro hi
    have hi' : i < rows.length := by omega
    have w1 : IntKind.i64.wrap ((i : Int) + 1) = i + 1 := w64 (by omega) (by omega)
    have hok := ok _ (List.getElem_mem hi')
    have hs := upTo_set (r := [.v (.int .i64 0), .v (.int .i64 0), .own 1 []]) hi'
    have hat := upTo_at (r := [.v (.int .i64 0), .v (.int .i64 0), .own 1 []]) hi'
    have hatx := ix_of hat
    have hok' := hok
    obtain ⟨a0, a1, c2, hx, lc2, oc2⟩ := hok
    rw [hx] at hok' hs
    have pc2 : ∀ K, CleanRows K c2 := fun K x hx => okU8_pure (oc2 x hx) K
    have sc2 := arrAt_sub ha (List.getElem?_eq_getElem hi') (f := 2) (by rw [hx]; rfl)
    simp (maxSteps := 4000000) [hd0, hfr, hout, hcl, hcd, delA_none, ha, ha_n, ha_d, ha_m, hi', hx]
    refine (laws_toLoose _ hok' (Refs_v.2 ⟨_, rfl, Refs_v.2 ⟨_, rfl, Refs_own.2 ⟨_, _, _, rfl, by simp (maxSteps := 4000000) [hd0, hfr, hout, hcl, hcd, delA_none, ha, ha_n, ha_d, ha_m, sc2], Refs_nil.2 rfl⟩⟩⟩)).useCK ?_
    simp (maxSteps := 4000000) [hd0, hfr, hout, hcl, hcd, delA_none, ha, ha_n, ha_d, ha_m, hi', hx, hatx, upTo_length, w1, hs, hp, CleanRows_upTo, pc2]
    exact LK.intro (m - 1) [0, 3, 4] [] (by omega) (by decide) (by simp (maxSteps := 4000000) [hd0, hfr, hout, hcl, hcd, delA_none, ha, ha_n, ha_d, ha_m]) ⟨i + 1, by omega, by simp [hs]⟩
  · intro h
    simp (maxSteps := 4000000) [hd0, hfr, hout, hcl, hcd, delA_none, ha, ha_n, ha_d, ha_m, upTo_all h, hp]

theorem laws_toDisk (H : HH) {row cs : List Cell} (ok : okDisk 1048576 row) (hr : Refs H row cs) : PFun Try.prog 21 [.a cs] H (.a row) := by
  obtain ⟨c0, c1, rfl, lc0, oc0, lc1, oc1⟩ := ok
  simp only [Refs_v, Refs_own, Refs_nil] at hr
  obtain ⟨rc0, qc0, _, rfl, hc0, rc1, qc1, _, rfl, hc1, rfl⟩ := hr
  have pc0 : ∀ K, CleanRows K c0 := fun K x hx => okByteS_pure (oc0 x hx) K
  have pc1 : ∀ K, CleanRows K c1 := fun K x hx => okLoose_pure (oc1 x hx) K
  refine PFun.of [1, 2, 3] Try.func21 rfl (by simp [Try.f21]) ?_
  intro d hd0 hfr hcl hout
  have hcd : ∀ n q, CleanH (hit [((d, n), q)]) H := fun n q => hcl.at
  have hc0_n : ∀ n, ¬ (d, n) = rc0 := fun n => nm_ne (ne_of_arr hfr hc0)
  have hc0_d : ¬ rc0.1 = d := ne_of_arr hfr hc0
  have hc0_m : ∀ n, ¬ rc0 = (d, n) := fun n => nm_ne' (ne_of_arr hfr hc0)
  have hc1_n : ∀ n, ¬ (d, n) = rc1 := fun n => nm_ne (ne_of_arr hfr hc1)
  have hc1_d : ¬ rc1.1 = d := ne_of_arr hfr hc1
  have hc1_m : ∀ n, ¬ rc1 = (d, n) := fun n => nm_ne' (ne_of_arr hfr hc1)
  simp (maxSteps := 4000000) [hd0, hfr, hout, hcl, hcd, delA_none, hc0, hc0_n, hc0_d, hc0_m, hc1, hc1_n, hc1_d, hc1_m, Try.f21]
  refine (laws_toByteSS _ lc0 oc0 (by simp (maxSteps := 4000000) [hd0, hfr, hout, hcl, hcd, delA_none, hc0, hc0_n, hc0_d, hc0_m, hc1, hc1_n, hc1_d, hc1_m])).useCK ?_
  simp (maxSteps := 4000000) [hd0, hfr, hout, hcl, hcd, delA_none, hc0, hc0_n, hc0_d, hc0_m, hc1, hc1_n, hc1_d, hc1_m, pc0, pc1]
  refine (laws_toLooseS _ lc1 oc1 (by simp (maxSteps := 4000000) [hd0, hfr, hout, hcl, hcd, delA_none, hc0, hc0_n, hc0_d, hc0_m, hc1, hc1_n, hc1_d, hc1_m])).useCK ?_
  simp (maxSteps := 4000000) [hd0, hfr, hout, hcl, hcd, delA_none, hc0, hc0_n, hc0_d, hc0_m, hc1, hc1_n, hc1_d, hc1_m, pc0, pc1]

end Go.Proofs.Ythejobdlfomcjaa


namespace Go.Px
set_option linter.unusedVariables false
def encI (n : Int) : List Cell := [.v (.int .i64 n)]
def encU8 (n : Int) : List Cell := [.v (.int .u8 n)]
def encB (n : Bool) : List Cell := [.v (.bool n)]
def encS {α : Type} (z : Nat) (e : α → List Cell) (l : List α) : List Cell := [.own z (l.map e)]
theorem encI_ok (n : Int) : okI64 (encI n) := ⟨n, rfl⟩
theorem encU8_ok (n : Int) : okU8 (encU8 n) := ⟨n, rfl⟩
theorem encS_to {α : Type} {z B : Nat} {e : α → List Cell} {y : List α} {p : List Cell → Prop} (h : ∃ c, encS z e y = [.own z c] ∧ c.length ≤ B ∧ ∀ x ∈ c, p x) : y.length ≤ B := by
  obtain ⟨c, h1, h2, h3⟩ := h
  simp only [encS, List.cons.injEq, Cell.own.injEq, and_true, true_and] at h1
  subst h1; simpa using h2
section
variable {K : Cell → Prop} {n : Int} {b : Bool} {α : Type} {z : Nat} {e : α → List Cell} {l : List α}
@[simp] theorem encI_clean : cells1 K (encI n) ↔ True := by simp [encI, Clean.v]
@[simp] theorem encU8_clean : cells1 K (encU8 n) ↔ True := by simp [encU8, Clean.v]
@[simp] theorem encB_clean : cells1 K (encB b) ↔ True := by simp [encB, Clean.v]
@[simp] theorem encS_clean : cells1 K (encS z e l) ↔ ∀ x ∈ l, cells1 K (e x) := by simp [encS]
end
end Go.Px

namespace Go.Proofs.Ythejobdlfomcjaa
open Go Go.Px Go.RowKit Go.Proofs
set_option linter.unnecessarySimpa false
set_option linter.unusedVariables false
set_option linter.unusedSimpArgs false
set_option maxRecDepth 100000
attribute [-simp] Int.not_le Int.not_lt
structure DCell where
  key : Int
  value : Int
def DCell.enc (x : DCell) : List Cell := [.v (.int .i64 x.key), .v (.int .i64 x.value)]
@[simp] theorem DCell.pure (x : DCell) : ∀ K, cells1 K x.enc := by intro K; simp [DCell.enc, Clean.v]
def DCell.wf (x : DCell) : Prop := (Lit.int .i64 x.key).wf = true ∧ (Lit.int .i64 x.value).wf = true
theorem DCell.ok (B : Nat) (x : DCell) : okCell B x.enc := ⟨x.key, x.value, rfl⟩
structure DLoose where
  page : Int
  part : Int
  data : List (Int)
def DLoose.enc (x : DLoose) : List Cell := [.v (.int .i64 x.page), .v (.int .i64 x.part), .own 1 (x.data.map encU8)]
@[simp] theorem DLoose.pure (x : DLoose) : ∀ K, cells1 K x.enc := by intro K; simp [DLoose.enc, Clean.v, encU8]
def DLoose.wf (x : DLoose) : Prop := (Lit.int .i64 x.page).wf = true ∧ (Lit.int .i64 x.part).wf = true ∧ (x.data.length ≤ maxLen ∧ ∀ y ∈ x.data, (Lit.int .u8 y).wf = true)
def DLoose.le (B : Nat) (x : DLoose) : Prop := (x.data.length ≤ B)
theorem DLoose.wf_le {x : DLoose} (h : x.wf) : x.le 9223372036854775807 := (h.2.2).1
theorem DLoose.ok {B : Nat} {x : DLoose} : okLoose B x.enc ↔ DLoose.le B x := by
  constructor
  · rintro ⟨a0, a1, c2, h, lc2, oc2⟩
    simp only [DLoose.enc, List.cons.injEq, Cell.v.injEq, Cell.own.injEq, Value.int.injEq, Value.bool.injEq, true_and, and_true] at h
    obtain ⟨rfl, rfl, rfl⟩ := h
    simp only [DLoose.le]; exact (by simpa using lc2)
  · intro h
    simp only [DLoose.le] at h; have lc2 := h; exact ⟨x.page, x.part, (x.data.map encU8), rfl, (by simpa using lc2), (by intro r hr; obtain ⟨y, hy, rfl⟩ := List.mem_map.1 hr; exact ⟨y, rfl⟩)⟩
structure DDisk where
  pages : List (List (Int))
  loose : List (DLoose)
def DDisk.enc (x : DDisk) : List Cell := [.own 1 (x.pages.map (encS 1 encU8)), .own 3 (x.loose.map DLoose.enc)]
@[simp] theorem DDisk.pure (x : DDisk) : ∀ K, cells1 K x.enc := by intro K; simp [DDisk.enc, Clean.v, DLoose.pure, encS, encU8]
def DDisk.wf (x : DDisk) : Prop := (x.pages.length ≤ maxLen ∧ ∀ y ∈ x.pages, (y.length ≤ maxLen ∧ ∀ z ∈ y, (Lit.int .u8 z).wf = true)) ∧ (x.loose.length ≤ maxLen ∧ ∀ y ∈ x.loose, y.wf)
def DDisk.le (B : Nat) (x : DDisk) : Prop := (x.pages.length ≤ B ∧ ∀ y ∈ x.pages, (y.length ≤ B)) ∧ (x.loose.length ≤ B ∧ ∀ y ∈ x.loose, DLoose.le B y)
theorem DDisk.wf_le {x : DDisk} (h : x.wf) : x.le 9223372036854775807 := ⟨⟨(h.1).1, fun y hy => (((h.1).2 y hy)).1⟩, ⟨(h.2).1, fun y hy => DLoose.wf_le (((h.2).2 y hy))⟩⟩
theorem DDisk.ok {B : Nat} {x : DDisk} : okDisk B x.enc ↔ DDisk.le B x := by
  constructor
  · rintro ⟨c0, c1, h, lc0, oc0, lc1, oc1⟩
    simp only [DDisk.enc, List.cons.injEq, Cell.v.injEq, Cell.own.injEq, Value.int.injEq, Value.bool.injEq, true_and, and_true] at h
    obtain ⟨rfl, rfl⟩ := h
    simp only [DDisk.le]; exact ⟨⟨by simpa using lc0, fun y hy => encS_to (oc0 _ (List.mem_map.2 ⟨y, hy, rfl⟩))⟩, ⟨by simpa using lc1, fun y hy => DLoose.ok.1 (oc1 _ (List.mem_map.2 ⟨y, hy, rfl⟩))⟩⟩
  · intro h
    simp only [DDisk.le] at h; obtain ⟨⟨lc0, mc0⟩, ⟨lc1, mc1⟩⟩ := h; exact ⟨(x.pages.map (encS 1 encU8)), (x.loose.map DLoose.enc), rfl, (by simpa using lc0), (by intro r hr; obtain ⟨y, hy, rfl⟩ := List.mem_map.1 hr; exact ⟨_, rfl, by simpa using mc0 y hy, fun r hr => by obtain ⟨z, hz, rfl⟩ := List.mem_map.1 hr; exact ⟨z, rfl⟩⟩), (by simpa using lc1), (by intro r hr; obtain ⟨y, hy, rfl⟩ := List.mem_map.1 hr; exact DLoose.ok.2 (mc1 y hy))⟩
structure DDiskResult where
  code : Int
  disk : DDisk
def DDiskResult.enc (x : DDiskResult) : List Cell := [.v (.int .i64 x.code), .own 1 (x.disk.pages.map (encS 1 encU8)), .own 3 (x.disk.loose.map DLoose.enc)]
@[simp] theorem DDiskResult.pure (x : DDiskResult) : ∀ K, cells1 K x.enc := by intro K; simp [DDiskResult.enc, Clean.v, DLoose.pure, encS, encU8]
def DDiskResult.wf (x : DDiskResult) : Prop := (Lit.int .i64 x.code).wf = true ∧ x.disk.wf
def DDiskResult.le (B : Nat) (x : DDiskResult) : Prop := DDisk.le B x.disk
theorem DDiskResult.wf_le {x : DDiskResult} (h : x.wf) : x.le 9223372036854775807 := DDisk.wf_le (h.2)
theorem DDiskResult.ok {B : Nat} {x : DDiskResult} : okDiskResult B x.enc ↔ DDiskResult.le B x := by
  constructor
  · rintro ⟨a0, c1, c2, h, lc1, oc1, lc2, oc2⟩
    simp only [DDiskResult.enc, List.cons.injEq, Cell.v.injEq, Cell.own.injEq, Value.int.injEq, Value.bool.injEq, true_and, and_true] at h
    obtain ⟨rfl, rfl, rfl⟩ := h
    simp only [DDiskResult.le, DDisk.le]; exact ⟨⟨by simpa using lc1, fun y hy => encS_to (oc1 _ (List.mem_map.2 ⟨y, hy, rfl⟩))⟩, ⟨by simpa using lc2, fun y hy => DLoose.ok.1 (oc2 _ (List.mem_map.2 ⟨y, hy, rfl⟩))⟩⟩
  · intro h
    simp only [DDiskResult.le, DDisk.le] at h; obtain ⟨⟨lc1, mc1⟩, ⟨lc2, mc2⟩⟩ := h; exact ⟨x.code, (x.disk.pages.map (encS 1 encU8)), (x.disk.loose.map DLoose.enc), rfl, (by simpa using lc1), (by intro r hr; obtain ⟨y, hy, rfl⟩ := List.mem_map.1 hr; exact ⟨_, rfl, by simpa using mc1 y hy, fun r hr => by obtain ⟨z, hz, rfl⟩ := List.mem_map.1 hr; exact ⟨z, rfl⟩⟩), (by simpa using lc2), (by intro r hr; obtain ⟨y, hy, rfl⟩ := List.mem_map.1 hr; exact DLoose.ok.2 (mc2 y hy))⟩
theorem op185 : Px.Op Try.prog 185 3 DLoose.enc DLoose.wf := by
  refine Px.Op.struct (fs := #[{ name := "Page", type := 2, offset := 0, embedded := false, tag := "", pkgPath := "", byteOffset := 0 }, { name := "Part", type := 2, offset := 1, embedded := false, tag := "", pkgPath := "", byteOffset := 8 }, { name := "Data", type := 53, offset := 2, embedded := false, tag := "", pkgPath := "", byteOffset := 16 }]) (fun p : (Int) × (Int) × (List (Int)) => (⟨p.1, p.2.1, p.2.2⟩ : DLoose)) (by kernel_rfl) (by kernel_rfl) ?_ ?_ (OpF.cons (off := 0) (off' := 1) (n := 1) (n' := 2) rfl (by kernel_rfl) (Px.Op.int (t := 2) (k := .i64) (by kernel_rfl)) rfl (OpF.cons (off := 1) (off' := 2) (n := 1) (n' := 1) rfl (by kernel_rfl) (Px.Op.int (t := 2) (k := .i64) (by kernel_rfl)) rfl (OpF.one (off := 2) (n := 1) rfl (by kernel_rfl) (Px.Op.slice (t := 53) (e := 5) (enc := encU8) (by kernel_rfl) (by kernel_rfl) (by decide) (Px.Op.int (t := 5) (k := .u8) (by kernel_rfl))))))
  · exact fun p => rfl
  · exact fun p h => h
theorem op39 : Px.Op Try.prog 39 2 DDisk.enc DDisk.wf := by
  refine Px.Op.struct (fs := #[{ name := "Pages", type := 36, offset := 0, embedded := false, tag := "", pkgPath := "", byteOffset := 0 }, { name := "Loose", type := 37, offset := 1, embedded := false, tag := "", pkgPath := "", byteOffset := 24 }]) (fun p : (List (List (Int))) × (List (DLoose)) => (⟨p.1, p.2⟩ : DDisk)) (by kernel_rfl) (by kernel_rfl) ?_ ?_ (OpF.cons (off := 0) (off' := 1) (n := 1) (n' := 1) rfl (by kernel_rfl) (Px.Op.slice (t := 36) (e := 53) (enc := (encS 1 encU8)) (by kernel_rfl) (by kernel_rfl) (by decide) (Px.Op.slice (t := 53) (e := 5) (enc := encU8) (by kernel_rfl) (by kernel_rfl) (by decide) (Px.Op.int (t := 5) (k := .u8) (by kernel_rfl)))) rfl (OpF.one (off := 1) (n := 1) rfl (by kernel_rfl) (Px.Op.slice (t := 37) (e := 185) (enc := DLoose.enc) (by kernel_rfl) (by kernel_rfl) (by decide) op185)))
  · exact fun p => rfl
  · exact fun p h => h
end Go.Proofs.Ythejobdlfomcjaa


namespace Go.Proofs.Ythejobdlfomcjaa
open Go Go.Px Go.RowKit Go.Proofs
set_option linter.unnecessarySimpa false
set_option linter.unusedVariables false
set_option linter.unusedSimpArgs false
set_option maxRecDepth 100000
attribute [-simp] Int.not_le Int.not_lt
def inR (v lo hi : Int) : Bool := decide (lo ≤ v) && decide (v ≤ hi)
theorem spec_l1In (H : HH) (v lo hi : Int) : PFun Try.prog 79 [I v, I lo, I hi] H (B (inR v lo hi)) := by
  refine PFun.of [0, 1, 2, 6] Try.func79 rfl (by simp [Try.f79]) ?_
  intro d hd0 hfr hcl hout
  have hcd : ∀ n q, CleanH (hit [((d, n), q)]) H := fun n q => hcl.at
  simp (maxSteps := 4000000) [hd0, hfr, hout, hcl, hcd, delA_none, Try.f79]
  constructor <;> intros <;> simp_all [inR]
theorem impl_within (H : HH) (v lo hi : Int) : PFun Try.prog 88 [I v, I lo, I hi] H (B (inR v lo hi)) := by
  refine PFun.of [0, 1, 2, 6] Try.func88 rfl (by simp [Try.f88]) ?_
  intro d hd0 hfr hcl hout
  have hcd : ∀ n q, CleanH (hit [((d, n), q)]) H := fun n q => hcl.at
  simp (maxSteps := 4000000) [hd0, hfr, hout, hcl, hcd, delA_none, Try.f88]
  constructor <;> intros <;> simp_all [inR]
theorem impl_DiskFault_1 (H : HH) {r q n} : PFun Try.prog 139 [.c (.sl r q 1 0 n)] H (B (decide (n ≠ 48))) := by
  refine PFun.of [0, 2] Try.func139 rfl (by simp [Try.f139]) ?_
  intro d hd0 hfr hcl hout
  have hcd : ∀ n q, CleanH (hit [((d, n), q)]) H := fun n q => hcl.at
  simp (maxSteps := 4000000) [hd0, hfr, hout, hcl, hcd, delA_none, Try.f139]
  omega
theorem impl_Disk_hasPage (H : HH) {r q n r2 q2 n2 v} (hn : n ≤ 1048576) : PFun Try.prog 124 [.a [.sl r q 1 0 n, .sl r2 q2 3 0 n2], I v] H (B (inR v 0 (n - 1))) := by
  refine PFun.of [1, 2, 4] Try.func124 rfl (by simp [Try.f124]) ?_
  intro d hd0 hfr hcl hout
  have hcd : ∀ n q, CleanH (hit [((d, n), q)]) H := fun n q => hcl.at
  simp (maxSteps := 4000000) [hd0, hfr, hout, hcl, hcd, delA_none, Try.f124]
  have w1 : IntKind.i64.wrap ((n : Int) - 1) = n - 1 := w64 (by omega) (by omega)
  simp (maxSteps := 4000000) [hd0, hfr, hout, hcl, hcd, delA_none, w1]
  refine (impl_within _ _ _ _).useCK ?_
  simp (maxSteps := 4000000) [hd0, hfr, hout, hcl, hcd, delA_none]
/-- the first place where a predicate holds, or -1 -/
def idxF {α : Type} (P : α → Bool) : List α → Int
  | [] => -1
  | x :: l => if P x then 0 else if idxF P l < 0 then -1 else idxF P l + 1
theorem idxF_ge {α : Type} {P : α → Bool} : ∀ {l : List α}, -1 ≤ idxF P l
  | [] => by simp [idxF]
  | x :: l => by
    have ih := idxF_ge (P := P) (l := l)
    simp only [idxF]; split <;> (try split) <;> omega
theorem idxF_any {α : Type} {P : α → Bool} : ∀ {l : List α}, decide (idxF P l ≥ 0) = l.any P
  | [] => by simp [idxF]
  | x :: l => by
    have ih := idxF_any (P := P) (l := l)
    simp only [idxF, List.any_cons, ← ih]
    by_cases h : P x = true
    · simp [h]
    · by_cases h2 : idxF P l < 0
      · simp [h, h2]; omega
      · simp [h, h2]; omega
theorem idxF_drop {α : Type} {P : α → Bool} {l : List α} {i : Nat} (h : ∀ x ∈ l.take i, P x = false) : idxF P l = if idxF P (l.drop i) < 0 then -1 else idxF P (l.drop i) + i := by
  induction l generalizing i with
  | nil => simp [idxF]
  | cons x l ih =>
    cases i with
    | zero => have := idxF_ge (P := P) (l := x :: l); simp; omega
    | succ i =>
      have hx : P x = false := h x (by simp)
      have := ih (i := i) (fun y hy => h y (by simp [hy]))
      simp only [idxF, hx, List.drop_succ_cons, Bool.false_eq_true, if_false]
      rw [this]
      by_cases h2 : idxF P (l.drop i) < 0
      · simp [h2]
      · simp only [h2, if_false]; rw [if_neg (by omega)]; push_cast; omega
theorem slices_IndexFunc_Sbyte (H : HH) {r q} {l : List (List Int)} {g caps} {P : List Int → Bool} (hb : l.length ≤ 1048576) (ha : arrAt H r q = some (1, l.map (encS 1 encU8))) (hcaps : ∀ c ∈ caps, isRef c = true ∨ ∃ y, c = .v y ∧ flat y = true) (hg : tfunc Try.prog g = true)
    (hf : ∀ i (hi : i < l.length), PFun Try.prog g ([.c (.sl r (q ++ [(i, 0)]) 1 0 l[i].length)] ++ caps.map T.c) H (B (P l[i]))) : PFun Try.prog 182 [.c (.sl r q 1 0 l.length), .c (.fn g caps)] H (I (idxF P l)) := by
  refine PFun.of [0, 1, 4, 5, 7, 8, 9, 16] Try.func182 rfl (by simp [Try.f182]) ?_
  intro d hd0 hfr hcl hout
  have hcd : ∀ n q, CleanH (hit [((d, n), q)]) H := fun n q => hcl.at
  have ha_n : ∀ n, ¬ (d, n) = r := fun n => nm_ne (ne_of_arr hfr ha)
  have ha_d : ¬ r.1 = d := ne_of_arr hfr ha
  have ha_m : ∀ n, ¬ r = (d, n) := fun n => nm_ne' (ne_of_arr hfr ha)
  simp (maxSteps := 4000000) [hd0, hfr, hout, hcl, hcd, delA_none, ha, ha_n, ha_d, ha_m, Try.f182]
  refine LoopK.intro (fun m s => ∃ i : Nat, i + m = l.length ∧ (∀ x ∈ l.take i, P x = false) ∧ s = ⟨[(0, .c (.sl r q 1 0 l.length)), (1, .c (.fn g caps)), (7, I l.length), (8, I i)], H, []⟩) (l.length + 1)
    (LK.intro l.length [0, 1, 7, 8] [] (by omega) (by decide) (by simp (maxSteps := 4000000) [hd0, hfr, hout, hcl, hcd, delA_none, ha, ha_n, ha_d, ha_m]) ⟨0, by simp⟩) ?_
  rintro m s ⟨i, him, hP, rfl⟩
  simp (maxSteps := 4000000) [hd0, hfr, hout, hcl, hcd, delA_none, ha, ha_n, ha_d, ha_m]
  constructor
  · intro hi
    have hi' : i < l.length := by omega
    have w1 : IntKind.i64.wrap ((i : Int) + 1) = i + 1 := w64 (by omega) (by omega)
    simp (maxSteps := 4000000) [hd0, hfr, hout, hcl, hcd, delA_none, ha, ha_n, ha_d, ha_m, hi', encS]
    refine ⟨⟨hcaps, hg⟩, ?_⟩
    refine (hf i hi').useCK ?_
    simp (maxSteps := 4000000) [hd0, hfr, hout, hcl, hcd, delA_none, ha, ha_n, ha_d, ha_m]
    have hd := idxF_drop hP
    rw [List.drop_eq_getElem_cons hi'] at hd
    constructor
    · intro h
      simp [idxF, h] at hd
      omega
    · intro h
      simp (maxSteps := 4000000) [hd0, hfr, hout, hcl, hcd, delA_none, ha, ha_n, ha_d, ha_m, w1]
      refine LK.intro (m - 1) [0, 1, 7, 8] [] (by omega) (by decide) (by simp (maxSteps := 4000000) [hd0, hfr, hout, hcl, hcd, delA_none, ha, ha_n, ha_d, ha_m]) ⟨i + 1, by omega, fun x hx => ?_, by simp⟩
      rw [List.take_succ_eq_append_getElem hi'] at hx
      rcases List.mem_append.1 hx with hx | hx
      · exact hP x hx
      · simp at hx; rw [hx]; exact h
  · intro h
    have hd := idxF_drop hP
    rw [List.drop_eq_nil_of_le h] at hd
    simp [idxF] at hd
    exact hd.symm
theorem slices_ContainsFunc_Sbyte (H : HH) {r q} {l : List (List Int)} {g caps} {P : List Int → Bool} (hb : l.length ≤ 1048576) (ha : arrAt H r q = some (1, l.map (encS 1 encU8))) (hcaps : ∀ c ∈ caps, isRef c = true ∨ ∃ y, c = .v y ∧ flat y = true) (hg : tfunc Try.prog g = true)
    (hf : ∀ i (hi : i < l.length), PFun Try.prog g ([.c (.sl r (q ++ [(i, 0)]) 1 0 l[i].length)] ++ caps.map T.c) H (B (P l[i]))) : PFun Try.prog 138 [.c (.sl r q 1 0 l.length), .c (.fn g caps)] H (B (l.any P)) := by
  refine PFun.of [0, 1, 4] Try.func138 rfl (by simp [Try.f138]) ?_
  intro d hd0 hfr hcl hout
  have hcd : ∀ n q, CleanH (hit [((d, n), q)]) H := fun n q => hcl.at
  have ha_n : ∀ n, ¬ (d, n) = r := fun n => nm_ne (ne_of_arr hfr ha)
  have ha_d : ¬ r.1 = d := ne_of_arr hfr ha
  have ha_m : ∀ n, ¬ r = (d, n) := fun n => nm_ne' (ne_of_arr hfr ha)
  simp (maxSteps := 4000000) [hd0, hfr, hout, hcl, hcd, delA_none, ha, ha_n, ha_d, ha_m, Try.f138]
  refine (slices_IndexFunc_Sbyte _ hb ha hcaps hg hf).useCK ?_
  simp (maxSteps := 4000000) [hd0, hfr, hout, hcl, hcd, delA_none, ha, ha_n, ha_d, ha_m]
  exact idxF_any
def looseF (n : Nat) : List DLoose → Int
  | [] => 0
  | w :: l => if !inR w.page 0 (n - 1) || !inR w.part 0 2 then 3 else if w.data.length ≠ 16 then 1 else looseF n l
def diskF (x : DDisk) : Int :=
  if x.pages.length < 1 ∨ x.pages.length > 8 ∨ (x.pages.any fun p => decide (p.length ≠ 48)) = true then 1 else if x.loose.length > 60 then 2 else looseF x.pages.length x.loose
end Go.Proofs.Ythejobdlfomcjaa

namespace Go.Proofs.Ythejobdlfomcjaa
open Go Go.Px Go.RowKit Go.Proofs
set_option linter.unnecessarySimpa false
set_option linter.unusedVariables false
set_option linter.unusedSimpArgs false
set_option maxRecDepth 100000
attribute [-simp] Int.not_le Int.not_lt
theorem impl_isTxn (H : HH) (v : Int) : PFun Try.prog 84 [I v] H (B (inR v 1 999)) := by
  refine PFun.of [0, 2] Try.func84 rfl (by simp [Try.f84]) ?_
  intro d hd0 hfr hcl hout
  have hcd : ∀ n q, CleanH (hit [((d, n), q)]) H := fun n q => hcl.at
  simp (maxSteps := 4000000) [hd0, hfr, hout, hcl, hcd, delA_none, Try.f84]
  refine (impl_within _ _ _ _).useCK ?_
  simp (maxSteps := 4000000) [hd0, hfr, hout, hcl, hcd, delA_none]
theorem impl_isLsn (H : HH) (v : Int) : PFun Try.prog 85 [I v] H (B (inR v 0 1000000)) := by
  refine PFun.of [0, 2] Try.func85 rfl (by simp [Try.f85]) ?_
  intro d hd0 hfr hcl hout
  have hcd : ∀ n q, CleanH (hit [((d, n), q)]) H := fun n q => hcl.at
  simp (maxSteps := 4000000) [hd0, hfr, hout, hcl, hcd, delA_none, Try.f85]
  refine (impl_within _ _ _ _).useCK ?_
  simp (maxSteps := 4000000) [hd0, hfr, hout, hcl, hcd, delA_none]
theorem impl_isKey (H : HH) (v : Int) : PFun Try.prog 91 [I v] H (B (inR v 0 31)) := by
  refine PFun.of [0, 2] Try.func91 rfl (by simp [Try.f91]) ?_
  intro d hd0 hfr hcl hout
  have hcd : ∀ n q, CleanH (hit [((d, n), q)]) H := fun n q => hcl.at
  simp (maxSteps := 4000000) [hd0, hfr, hout, hcl, hcd, delA_none, Try.f91]
  refine (impl_within _ _ _ _).useCK ?_
  simp (maxSteps := 4000000) [hd0, hfr, hout, hcl, hcd, delA_none]
theorem impl_isValue (H : HH) (v : Int) : PFun Try.prog 151 [I v] H (B (inR v 0 9999)) := by
  refine PFun.of [0, 2] Try.func151 rfl (by simp [Try.f151]) ?_
  intro d hd0 hfr hcl hout
  have hcd : ∀ n q, CleanH (hit [((d, n), q)]) H := fun n q => hcl.at
  simp (maxSteps := 4000000) [hd0, hfr, hout, hcl, hcd, delA_none, Try.f151]
  refine (impl_within _ _ _ _).useCK ?_
  simp (maxSteps := 4000000) [hd0, hfr, hout, hcl, hcd, delA_none]
theorem spec_l5Txn (H : HH) (v : Int) : PFun Try.prog 78 [I v] H (B (inR v 1 999)) := by
  refine PFun.of [0, 2] Try.func78 rfl (by simp [Try.f78]) ?_
  intro d hd0 hfr hcl hout
  have hcd : ∀ n q, CleanH (hit [((d, n), q)]) H := fun n q => hcl.at
  simp (maxSteps := 4000000) [hd0, hfr, hout, hcl, hcd, delA_none, Try.f78]
  refine (spec_l1In _ _ _ _).useCK ?_
  simp (maxSteps := 4000000) [hd0, hfr, hout, hcl, hcd, delA_none]
theorem spec_l1Key (H : HH) (v : Int) : PFun Try.prog 146 [I v] H (B (inR v 0 31)) := by
  refine PFun.of [0, 2] Try.func146 rfl (by simp [Try.f146]) ?_
  intro d hd0 hfr hcl hout
  have hcd : ∀ n q, CleanH (hit [((d, n), q)]) H := fun n q => hcl.at
  simp (maxSteps := 4000000) [hd0, hfr, hout, hcl, hcd, delA_none, Try.f146]
  refine (spec_l1In _ _ _ _).useCK ?_
  simp (maxSteps := 4000000) [hd0, hfr, hout, hcl, hcd, delA_none]
theorem spec_l1Value (H : HH) (v : Int) : PFun Try.prog 147 [I v] H (B (inR v 0 9999)) := by
  refine PFun.of [0, 2] Try.func147 rfl (by simp [Try.f147]) ?_
  intro d hd0 hfr hcl hout
  have hcd : ∀ n q, CleanH (hit [((d, n), q)]) H := fun n q => hcl.at
  simp (maxSteps := 4000000) [hd0, hfr, hout, hcl, hcd, delA_none, Try.f147]
  refine (spec_l1In _ _ _ _).useCK ?_
  simp (maxSteps := 4000000) [hd0, hfr, hout, hcl, hcd, delA_none]
/-- what stands ahead of the i-th -/
def prv {α : Type} (f : α → Int) (l : List α) (i : Nat) : Option Int := if i = 0 then none else l[i-1]?.map f
theorem prv_zero {α : Type} {f : α → Int} {l : List α} : prv f l 0 = none := rfl
theorem prv_succ {α : Type} {f : α → Int} {l : List α} {i : Nat} (h : i < l.length) : prv f l (i + 1) = some (f l[i]) := by simp [prv, h]
theorem prv_pos {α : Type} {f : α → Int} {l : List α} {i : Nat} (h0 : i ≠ 0) (h : i - 1 < l.length) : prv f l i = some (f l[i-1]) := by simp [prv, h0, h]
/-- not above what stands ahead -/
def nab (p : Option Int) (k : Int) : Bool := match p with | some j => decide (k ≤ j) | none => false
/-- what is wrong with cells -/
def cellsF : Option Int → List DCell → Int
  | _, [] => 0
  | p, c :: l => if !inR c.key 0 31 || !inR c.value 0 9999 then 3 else if nab p c.key then 1 else cellsF (some c.key) l
def riseF : Option Int → List Int → Bool
  | _, [] => true
  | p, c :: l => if nab p c then false else riseF (some c) l
theorem spec_l9Cells (H : HH) {r q} {l : List DCell} (hb : l.length ≤ 1048576) (ha : arrAt H r q = some (2, l.map DCell.enc)) : PFun Try.prog 80 [.c (.sl r q 2 0 l.length)] H (I (cellsF none l)) := by
  refine PFun.of [0, 2, 3, 7, 25, 41] Try.func80 rfl (by simp [Try.f80]) ?_
  intro d hd0 hfr hcl hout
  have hcd : ∀ n q, CleanH (hit [((d, n), q)]) H := fun n q => hcl.at
  have ha_n : ∀ n, ¬ (d, n) = r := fun n => nm_ne (ne_of_arr hfr ha)
  have ha_d : ¬ r.1 = d := ne_of_arr hfr ha
  have ha_m : ∀ n, ¬ r = (d, n) := fun n => nm_ne' (ne_of_arr hfr ha)
  simp (maxSteps := 4000000) [hd0, hfr, hout, hcl, hcd, delA_none, ha, ha_n, ha_d, ha_m, Try.f80]
  refine LoopK.intro (fun m s => ∃ i : Nat, i + m = l.length ∧ cellsF (prv DCell.key l i) (l.drop i) = cellsF none l ∧ s = ⟨[(0, .c (.sl r q 2 0 l.length)), (3, I i)], H, []⟩) (l.length + 1) (LK.intro l.length [0, 3] [] (by omega) (by decide) (by simp (maxSteps := 4000000) [hd0, hfr, hout, hcl, hcd, delA_none, ha, ha_n, ha_d, ha_m]) ⟨0, by simp [prv]⟩) ?_
  rintro m s ⟨i, him, hinv, rfl⟩
  by_cases hi' : i < l.length
  case neg =>
    rw [List.drop_eq_nil_of_le (by omega)] at hinv
    simp (maxSteps := 4000000) [hd0, hfr, hout, hcl, hcd, delA_none, ha, ha_n, ha_d, ha_m, show ¬ (i : Int) < l.length by omega]
    simpa [cellsF] using hinv
  rw [List.drop_eq_getElem_cons hi'] at hinv
  simp only [cellsF] at hinv
  simp (maxSteps := 4000000) [hd0, hfr, hout, hcl, hcd, delA_none, ha, ha_n, ha_d, ha_m, show (i : Int) < l.length by omega, hi', DCell.enc]
  refine (spec_l1Key _ _).useCK ?_
  by_cases c1 : inR l[i].key 0 31 = true
  case neg => simp only [Bool.not_eq_true] at c1; simp [c1] at hinv; simp (maxSteps := 4000000) [hd0, hfr, hout, hcl, hcd, delA_none, ha, ha_n, ha_d, ha_m, c1, hinv]
  rw [c1] at hinv ⊢
  simp (maxSteps := 4000000) [hd0, hfr, hout, hcl, hcd, delA_none, ha, ha_n, ha_d, ha_m, hi', DCell.enc]
  refine (spec_l1Value _ _).useCK ?_
  by_cases c2 : inR l[i].value 0 9999 = true
  case neg => simp only [Bool.not_eq_true] at c2; simp [c2] at hinv; simp (maxSteps := 4000000) [hd0, hfr, hout, hcl, hcd, delA_none, ha, ha_n, ha_d, ha_m, c2, hinv]
  rw [c2] at hinv ⊢
  simp (maxSteps := 4000000) [hd0, hfr, hout, hcl, hcd, delA_none, ha, ha_n, ha_d, ha_m]
  refine DrawK.intro 16 [0, 3, 41] rfl (by kernel_rfl) (by decide) ?_
  have w1 : IntKind.i64.wrap ((i : Int) + 1) = i + 1 := w64 (by omega) (by omega)
  have hend := prv_succ (f := DCell.key) hi'
  by_cases h0 : i = 0
  · simp [h0, prv, nab] at hinv
    simp (maxSteps := 4000000) [hd0, hfr, hout, hcl, hcd, delA_none, ha, ha_n, ha_d, ha_m, show ¬ (0 : Int) < (i : Int) by omega, show ¬ 0 < i by omega, w1]
    refine LK.intro (m - 1) [0, 3] [] (by omega) (by decide) (by simp (maxSteps := 4000000) [hd0, hfr, hout, hcl, hcd, delA_none, ha, ha_n, ha_d, ha_m]) ⟨i + 1, by omega, by rw [hend]; simpa [h0] using hinv, by simp⟩
  · have h3 : i - 1 < l.length := by omega
    rw [prv_pos h0 h3] at hinv
    have w2 : IntKind.i64.wrap ((i : Int) - 1) = (i - 1 : Nat) := by rw [w64 (by omega) (by omega)]; omega
    by_cases h4 : l[i].key ≤ l[i-1].key
    · simp [nab, h4] at hinv
      simp (maxSteps := 4000000) [hd0, hfr, hout, hcl, hcd, delA_none, ha, ha_n, ha_d, ha_m, show (0 : Int) < (i : Int) by omega, show 0 < i by omega, w1, w2, h3, hi', DCell.enc, h4, hinv.symm]
    · simp [nab, h4] at hinv
      simp (maxSteps := 4000000) [hd0, hfr, hout, hcl, hcd, delA_none, ha, ha_n, ha_d, ha_m, show (0 : Int) < (i : Int) by omega, show 0 < i by omega, w1, w2, h3, hi', DCell.enc, h4]
      refine LK.intro (m - 1) [0, 3] [] (by omega) (by decide) (by simp (maxSteps := 4000000) [hd0, hfr, hout, hcl, hcd, delA_none, ha, ha_n, ha_d, ha_m]) ⟨i + 1, by omega, by rw [hend]; exact hinv, by simp⟩
theorem impl_cellsFault (H : HH) {r q} {l : List DCell} (hb : l.length ≤ 1048576) (ha : arrAt H r q = some (2, l.map DCell.enc)) : PFun Try.prog 89 [.c (.sl r q 2 0 l.length)] H (I (cellsF none l)) := by
  refine PFun.of [0, 2, 3, 4, 5, 6, 7, 8, 12, 23] Try.func89 rfl (by simp [Try.f89]) ?_
  intro d hd0 hfr hcl hout
  have hcd : ∀ n q, CleanH (hit [((d, n), q)]) H := fun n q => hcl.at
  have ha_n : ∀ n, ¬ (d, n) = r := fun n => nm_ne (ne_of_arr hfr ha)
  have ha_d : ¬ r.1 = d := ne_of_arr hfr ha
  have ha_m : ∀ n, ¬ r = (d, n) := fun n => nm_ne' (ne_of_arr hfr ha)
  simp (maxSteps := 4000000) [hd0, hfr, hout, hcl, hcd, delA_none, ha, ha_n, ha_d, ha_m, Try.f89]
  refine LoopK.intro (fun m s => ∃ i : Nat, i + m = l.length ∧ cellsF (prv DCell.key l i) (l.drop i) = cellsF none l ∧ s = ⟨[(0, .c (.sl r q 2 0 l.length)), (5, .c (.sl r q 2 0 l.length)), (6, I l.length), (7, I i)], H, []⟩) (l.length + 1) (LK.intro l.length [0, 5, 6, 7] [] (by omega) (by decide) (by simp (maxSteps := 4000000) [hd0, hfr, hout, hcl, hcd, delA_none, ha, ha_n, ha_d, ha_m]) ⟨0, by simp [prv]⟩) ?_
  rintro m s ⟨i, him, hinv, rfl⟩
  by_cases hi' : i < l.length
  case neg =>
    rw [List.drop_eq_nil_of_le (by omega)] at hinv
    simp (maxSteps := 4000000) [hd0, hfr, hout, hcl, hcd, delA_none, ha, ha_n, ha_d, ha_m, show ¬ (i : Int) < l.length by omega]
    simpa [cellsF] using hinv
  rw [List.drop_eq_getElem_cons hi'] at hinv
  simp only [cellsF] at hinv
  simp (maxSteps := 4000000) [hd0, hfr, hout, hcl, hcd, delA_none, ha, ha_n, ha_d, ha_m, show (i : Int) < l.length by omega, hi', DCell.enc]
  refine (impl_isKey _ _).useCK ?_
  by_cases c1 : inR l[i].key 0 31 = true
  case neg => simp only [Bool.not_eq_true] at c1; simp [c1] at hinv; simp (maxSteps := 4000000) [hd0, hfr, hout, hcl, hcd, delA_none, ha, ha_n, ha_d, ha_m, c1, hinv]
  rw [c1] at hinv ⊢
  simp (maxSteps := 4000000) [hd0, hfr, hout, hcl, hcd, delA_none, ha, ha_n, ha_d, ha_m, hi', DCell.enc]
  refine (impl_isValue _ _).useCK ?_
  by_cases c2 : inR l[i].value 0 9999 = true
  case neg => simp only [Bool.not_eq_true] at c2; simp [c2] at hinv; simp (maxSteps := 4000000) [hd0, hfr, hout, hcl, hcd, delA_none, ha, ha_n, ha_d, ha_m, c2, hinv]
  rw [c2] at hinv ⊢
  simp (maxSteps := 4000000) [hd0, hfr, hout, hcl, hcd, delA_none, ha, ha_n, ha_d, ha_m]
  refine DrawK.intro 14 [0, 5, 6, 7, 23] rfl (by kernel_rfl) (by decide) ?_
  have w1 : IntKind.i64.wrap ((i : Int) + 1) = i + 1 := w64 (by omega) (by omega)
  have hend := prv_succ (f := DCell.key) hi'
  by_cases h0 : i = 0
  · simp [h0, prv, nab] at hinv
    simp (maxSteps := 4000000) [hd0, hfr, hout, hcl, hcd, delA_none, ha, ha_n, ha_d, ha_m, show ¬ (0 : Int) < (i : Int) by omega, show ¬ 0 < i by omega, w1]
    refine LK.intro (m - 1) [0, 5, 6, 7] [4] (by omega) (by decide) (by simp (maxSteps := 4000000) [hd0, hfr, hout, hcl, hcd, delA_none, ha, ha_n, ha_d, ha_m]) ⟨i + 1, by omega, by rw [hend]; simpa [h0] using hinv, by simp⟩
  · have h3 : i - 1 < l.length := by omega
    rw [prv_pos h0 h3] at hinv
    have w2 : IntKind.i64.wrap ((i : Int) - 1) = (i - 1 : Nat) := by rw [w64 (by omega) (by omega)]; omega
    by_cases h4 : l[i].key ≤ l[i-1].key
    · simp [nab, h4] at hinv
      simp (maxSteps := 4000000) [hd0, hfr, hout, hcl, hcd, delA_none, ha, ha_n, ha_d, ha_m, show (0 : Int) < (i : Int) by omega, show 0 < i by omega, w1, w2, h3, hi', DCell.enc, h4, hinv.symm]
    · simp [nab, h4] at hinv
      simp (maxSteps := 4000000) [hd0, hfr, hout, hcl, hcd, delA_none, ha, ha_n, ha_d, ha_m, show (0 : Int) < (i : Int) by omega, show 0 < i by omega, w1, w2, h3, hi', DCell.enc, h4]
      refine LK.intro (m - 1) [0, 5, 6, 7] [4] (by omega) (by decide) (by simp (maxSteps := 4000000) [hd0, hfr, hout, hcl, hcd, delA_none, ha, ha_n, ha_d, ha_m]) ⟨i + 1, by omega, by rw [hend]; exact hinv, by simp⟩
theorem riseF_one {l : List Int} (h : l.length < 1) : riseF none l = true := by
  have : l = [] := List.eq_nil_of_length_eq_zero (by omega)
  subst this; rfl
theorem riseF_start {l : List Int} : riseF (prv id l 1) (l.drop 1) = riseF none l := by
  cases l with
  | nil => rfl
  | cons a l => simp [prv, riseF, nab]
theorem impl_rise (H : HH) {r q} {l : List Int} (hb : l.length ≤ 1048576) (ha : arrAt H r q = some (1, l.map encI)) : PFun Try.prog 92 [.c (.sl r q 1 0 l.length)] H (B (riseF none l)) := by
  refine PFun.of [0, 2, 3, 7, 19] Try.func92 rfl (by simp [Try.f92]) ?_
  intro d hd0 hfr hcl hout
  have hcd : ∀ n q, CleanH (hit [((d, n), q)]) H := fun n q => hcl.at
  have ha_n : ∀ n, ¬ (d, n) = r := fun n => nm_ne (ne_of_arr hfr ha)
  have ha_d : ¬ r.1 = d := ne_of_arr hfr ha
  have ha_m : ∀ n, ¬ r = (d, n) := fun n => nm_ne' (ne_of_arr hfr ha)
  simp (maxSteps := 4000000) [hd0, hfr, hout, hcl, hcd, delA_none, ha, ha_n, ha_d, ha_m, Try.f92]
  refine LoopK.intro (fun m s => ∃ i : Nat, i + m = l.length + 1 ∧ 1 ≤ i ∧ riseF (prv id l i) (l.drop i) = riseF none l ∧ s = ⟨[(0, .c (.sl r q 1 0 l.length)), (3, I i)], H, []⟩) (l.length + 1) (LK.intro l.length [0, 3] [] (by omega) (by decide) (by simp (maxSteps := 4000000) [hd0, hfr, hout, hcl, hcd, delA_none, ha, ha_n, ha_d, ha_m]) ⟨1, by omega, by omega, riseF_start, by simp⟩) ?_
  rintro m s ⟨i, him, hi1, hinv, rfl⟩
  by_cases hi' : i < l.length
  case neg =>
    rw [List.drop_eq_nil_of_le (by omega)] at hinv
    simp (maxSteps := 4000000) [hd0, hfr, hout, hcl, hcd, delA_none, ha, ha_n, ha_d, ha_m, show ¬ (i : Int) < l.length by omega]
    simpa [riseF] using hinv
  rw [List.drop_eq_getElem_cons hi'] at hinv
  simp only [riseF] at hinv
  have w1 : IntKind.i64.wrap ((i : Int) + 1) = i + 1 := w64 (by omega) (by omega)
  have hend := prv_succ (f := id) hi'
  have h3 : i - 1 < l.length := by omega
  rw [prv_pos (by omega) h3] at hinv
  have w2 : IntKind.i64.wrap ((i : Int) - 1) = (i - 1 : Nat) := by rw [w64 (by omega) (by omega)]; omega
  simp (maxSteps := 4000000) [hd0, hfr, hout, hcl, hcd, delA_none, ha, ha_n, ha_d, ha_m, show (i : Int) < l.length by omega]
  refine DrawK.intro 10 [0, 3, 19] rfl (by kernel_rfl) (by decide) ?_
  by_cases h4 : l[i] ≤ l[i-1]
  · simp [nab, h4] at hinv
    simp (maxSteps := 4000000) [hd0, hfr, hout, hcl, hcd, delA_none, ha, ha_n, ha_d, ha_m, w1, w2, h3, hi', encI, h4, hinv]
  · simp [nab, h4] at hinv
    simp (maxSteps := 4000000) [hd0, hfr, hout, hcl, hcd, delA_none, ha, ha_n, ha_d, ha_m, w1, w2, h3, hi', encI, h4]
    refine LK.intro (m - 1) [0, 3] [] (by omega) (by decide) (by simp (maxSteps := 4000000) [hd0, hfr, hout, hcl, hcd, delA_none, ha, ha_n, ha_d, ha_m]) ⟨i + 1, by omega, by omega, by rw [hend]; exact hinv, by simp⟩
theorem slices_IndexFunc_int64 (H : HH) {r q} {l : List Int} {g caps} {P : Int → Bool} (hb : l.length ≤ 1048576) (ha : arrAt H r q = some (1, l.map encI)) (hcaps : ∀ c ∈ caps, isRef c = true ∨ ∃ y, c = .v y ∧ flat y = true) (hg : tfunc Try.prog g = true)
    (hf : ∀ v, PFun Try.prog g ([I v] ++ caps.map T.c) H (B (P v))) : PFun Try.prog 150 [.c (.sl r q 1 0 l.length), .c (.fn g caps)] H (I (idxF P l)) := by
  refine PFun.of [0, 1, 4, 5, 7, 8, 9, 16] Try.func150 rfl (by simp [Try.f150]) ?_
  intro d hd0 hfr hcl hout
  have hcd : ∀ n q, CleanH (hit [((d, n), q)]) H := fun n q => hcl.at
  have ha_n : ∀ n, ¬ (d, n) = r := fun n => nm_ne (ne_of_arr hfr ha)
  have ha_d : ¬ r.1 = d := ne_of_arr hfr ha
  have ha_m : ∀ n, ¬ r = (d, n) := fun n => nm_ne' (ne_of_arr hfr ha)
  simp (maxSteps := 4000000) [hd0, hfr, hout, hcl, hcd, delA_none, ha, ha_n, ha_d, ha_m, Try.f150]
  refine LoopK.intro (fun m s => ∃ i : Nat, i + m = l.length ∧ (∀ x ∈ l.take i, P x = false) ∧ s = ⟨[(0, .c (.sl r q 1 0 l.length)), (1, .c (.fn g caps)), (7, I l.length), (8, I i)], H, []⟩) (l.length + 1)
    (LK.intro l.length [0, 1, 7, 8] [] (by omega) (by decide) (by simp (maxSteps := 4000000) [hd0, hfr, hout, hcl, hcd, delA_none, ha, ha_n, ha_d, ha_m]) ⟨0, by simp⟩) ?_
  rintro m s ⟨i, him, hP, rfl⟩
  simp (maxSteps := 4000000) [hd0, hfr, hout, hcl, hcd, delA_none, ha, ha_n, ha_d, ha_m]
  constructor
  · intro hi
    have hi' : i < l.length := by omega
    have w1 : IntKind.i64.wrap ((i : Int) + 1) = i + 1 := w64 (by omega) (by omega)
    simp (maxSteps := 4000000) [hd0, hfr, hout, hcl, hcd, delA_none, ha, ha_n, ha_d, ha_m, hi', encI]
    refine ⟨⟨hcaps, hg⟩, ?_⟩
    refine (hf _).useCK ?_
    simp (maxSteps := 4000000) [hd0, hfr, hout, hcl, hcd, delA_none, ha, ha_n, ha_d, ha_m]
    have hd := idxF_drop hP
    rw [List.drop_eq_getElem_cons hi'] at hd
    constructor
    · intro h
      simp [idxF, h] at hd
      omega
    · intro h
      simp (maxSteps := 4000000) [hd0, hfr, hout, hcl, hcd, delA_none, ha, ha_n, ha_d, ha_m, w1]
      refine LK.intro (m - 1) [0, 1, 7, 8] [] (by omega) (by decide) (by simp (maxSteps := 4000000) [hd0, hfr, hout, hcl, hcd, delA_none, ha, ha_n, ha_d, ha_m]) ⟨i + 1, by omega, fun x hx => ?_, by simp⟩
      rw [List.take_succ_eq_append_getElem hi'] at hx
      rcases List.mem_append.1 hx with hx | hx
      · exact hP x hx
      · simp at hx; rw [hx]; exact h
  · intro h
    have hd := idxF_drop hP
    rw [List.drop_eq_nil_of_le h] at hd
    simp [idxF] at hd
    exact hd.symm
theorem slices_ContainsFunc_int64 (H : HH) {r q} {l : List Int} {g caps} {P : Int → Bool} (hb : l.length ≤ 1048576) (ha : arrAt H r q = some (1, l.map encI)) (hcaps : ∀ c ∈ caps, isRef c = true ∨ ∃ y, c = .v y ∧ flat y = true) (hg : tfunc Try.prog g = true)
    (hf : ∀ v, PFun Try.prog g ([I v] ++ caps.map T.c) H (B (P v))) : PFun Try.prog 86 [.c (.sl r q 1 0 l.length), .c (.fn g caps)] H (B (l.any P)) := by
  refine PFun.of [0, 1, 4] Try.func86 rfl (by simp [Try.f86]) ?_
  intro d hd0 hfr hcl hout
  have hcd : ∀ n q, CleanH (hit [((d, n), q)]) H := fun n q => hcl.at
  have ha_n : ∀ n, ¬ (d, n) = r := fun n => nm_ne (ne_of_arr hfr ha)
  have ha_d : ¬ r.1 = d := ne_of_arr hfr ha
  have ha_m : ∀ n, ¬ r = (d, n) := fun n => nm_ne' (ne_of_arr hfr ha)
  simp (maxSteps := 4000000) [hd0, hfr, hout, hcl, hcd, delA_none, ha, ha_n, ha_d, ha_m, Try.f86]
  refine (slices_IndexFunc_int64 _ hb ha hcaps hg hf).useCK ?_
  simp (maxSteps := 4000000) [hd0, hfr, hout, hcl, hcd, delA_none, ha, ha_n, ha_d, ha_m]
  exact idxF_any
end Go.Proofs.Ythejobdlfomcjaa

namespace Go.Proofs.Ythejobdlfomcjaa
open Go Go.Px Go.RowKit Go.Proofs
set_option linter.unnecessarySimpa false
set_option linter.unusedVariables false
set_option linter.unusedSimpArgs false
set_option maxRecDepth 100000
attribute [-simp] Int.not_le Int.not_lt
theorem DDisk.page0 {x : DDisk} (h : ¬ (x.pages.length : Int) < 1) : x.pages ≠ [] := by rintro h0; simp [h0] at h
theorem impl_DiskFault (H : HH) {r1 q1 r2 q2} {x : DDisk} (hl : x.le 1048576) (a1 : arrAt H r1 q1 = some (1, x.pages.map (encS 1 encU8))) (a2 : arrAt H r2 q2 = some (3, x.loose.map DLoose.enc)) :
    PFun Try.prog 59 [.a [.sl r1 q1 1 0 x.pages.length, .sl r2 q2 3 0 x.loose.length]] H (I (diskF x)) := by
  obtain ⟨⟨b1, b1p⟩, b2, b2p⟩ := hl
  by_cases h1 : (x.pages.length : Int) < 1
  · have : diskF x = 1 := by unfold diskF; rw [if_pos (.inl (by omega))]
    refine PFun.of [1, 2, 4, 5, 21, 27, 28, 29, 30, 33, 45] Try.func59 rfl (by simp [Try.f59]) ?_
    intro d hd0 hfr hcl hout
    have hcd : ∀ n q, CleanH (hit [((d, n), q)]) H := fun n q => hcl.at
    have a1_n : ∀ n, ¬ (d, n) = r1 := fun n => nm_ne (ne_of_arr hfr a1)
    have a1_d : ¬ r1.1 = d := ne_of_arr hfr a1
    have a1_m : ∀ n, ¬ r1 = (d, n) := fun n => nm_ne' (ne_of_arr hfr a1)
    have a2_n : ∀ n, ¬ (d, n) = r2 := fun n => nm_ne (ne_of_arr hfr a2)
    have a2_d : ¬ r2.1 = d := ne_of_arr hfr a2
    have a2_m : ∀ n, ¬ r2 = (d, n) := fun n => nm_ne' (ne_of_arr hfr a2)
    simp (maxSteps := 4000000) [hd0, hfr, hout, hcl, hcd, delA_none, a1, a1_n, a1_d, a1_m, a2, a2_n, a2_d, a2_m, Try.f59, h1, this]
  by_cases h2 : 8 < (x.pages.length : Int)
  · have : diskF x = 1 := by unfold diskF; rw [if_pos (.inr (.inl (by omega)))]
    refine PFun.of [1, 2, 4, 5, 21, 27, 28, 29, 30, 33, 45] Try.func59 rfl (by simp [Try.f59]) ?_
    intro d hd0 hfr hcl hout
    have hcd : ∀ n q, CleanH (hit [((d, n), q)]) H := fun n q => hcl.at
    have a1_n : ∀ n, ¬ (d, n) = r1 := fun n => nm_ne (ne_of_arr hfr a1)
    have a1_d : ¬ r1.1 = d := ne_of_arr hfr a1
    have a1_m : ∀ n, ¬ r1 = (d, n) := fun n => nm_ne' (ne_of_arr hfr a1)
    have a2_n : ∀ n, ¬ (d, n) = r2 := fun n => nm_ne (ne_of_arr hfr a2)
    have a2_d : ¬ r2.1 = d := ne_of_arr hfr a2
    have a2_m : ∀ n, ¬ r2 = (d, n) := fun n => nm_ne' (ne_of_arr hfr a2)
    simp (maxSteps := 4000000) [hd0, hfr, hout, hcl, hcd, delA_none, a1, a1_n, a1_d, a1_m, a2, a2_n, a2_d, a2_m, Try.f59, h1, h2, this]
  refine PFun.of [1, 2, 4, 5, 21, 27, 28, 29, 30, 33, 45] Try.func59 rfl (by simp [Try.f59]) ?_
  intro d hd0 hfr hcl hout
  have hcd : ∀ n q, CleanH (hit [((d, n), q)]) H := fun n q => hcl.at
  have a1_n : ∀ n, ¬ (d, n) = r1 := fun n => nm_ne (ne_of_arr hfr a1)
  have a1_d : ¬ r1.1 = d := ne_of_arr hfr a1
  have a1_m : ∀ n, ¬ r1 = (d, n) := fun n => nm_ne' (ne_of_arr hfr a1)
  have a2_n : ∀ n, ¬ (d, n) = r2 := fun n => nm_ne (ne_of_arr hfr a2)
  have a2_d : ¬ r2.1 = d := ne_of_arr hfr a2
  have a2_m : ∀ n, ¬ r2 = (d, n) := fun n => nm_ne' (ne_of_arr hfr a2)
  simp (maxSteps := 4000000) [hd0, hfr, hout, hcl, hcd, delA_none, a1, a1_n, a1_d, a1_m, a2, a2_n, a2_d, a2_m, Try.f59, h1, h2]
  refine (slices_ContainsFunc_Sbyte _ (P := fun p => decide (p.length ≠ 48)) b1 (by simp (maxSteps := 4000000) [hd0, hfr, hout, hcl, hcd, delA_none, a1, a1_n, a1_d, a1_m, a2, a2_n, a2_d, a2_m]) (by simp) (by simp) (fun i hi => impl_DiskFault_1 _)).useCK ?_
  by_cases h3 : (x.pages.any fun p => decide (p.length ≠ 48)) = true
  · have : diskF x = 1 := by unfold diskF; rw [if_pos (.inr (.inr h3))]
    rw [h3]
    simp (maxSteps := 4000000) [hd0, hfr, hout, hcl, hcd, delA_none, a1, a1_n, a1_d, a1_m, a2, a2_n, a2_d, a2_m, this]
  rw [Bool.eq_false_iff.2 h3]
  by_cases h4 : 60 < (x.loose.length : Int)
  · have : diskF x = 2 := by unfold diskF; rw [if_neg (by rintro (h | h | h); omega; omega; exact h3 h), if_pos (by omega)]
    simp (maxSteps := 4000000) [hd0, hfr, hout, hcl, hcd, delA_none, a1, a1_n, a1_d, a1_m, a2, a2_n, a2_d, a2_m, h4, this]
  have hd : diskF x = looseF x.pages.length x.loose := by unfold diskF; rw [if_neg (by rintro (h | h | h); omega; omega; exact h3 h), if_neg (by omega)]
  simp (maxSteps := 4000000) [hd0, hfr, hout, hcl, hcd, delA_none, a1, a1_n, a1_d, a1_m, a2, a2_n, a2_d, a2_m, h4]
  refine LoopK.intro (fun m s => ∃ i : Nat, i + m = x.loose.length ∧ looseF x.pages.length (x.loose.drop i) = diskF x ∧ s = ⟨[(1, .c (.pt (d, 1) [] 2 0 0)), (27, .c (.sl r2 q2 3 0 x.loose.length)), (28, I x.loose.length), (29, I i)], ((d, 1), .own 2 [[.sl r1 q1 1 0 x.pages.length, .sl r2 q2 3 0 x.loose.length]]) :: H, []⟩) (x.loose.length + 1)
    (LK.intro x.loose.length [1, 27, 28, 29] [] (by omega) (by decide) (by simp (maxSteps := 4000000) [hd0, hfr, hout, hcl, hcd, delA_none, a1, a1_n, a1_d, a1_m, a2, a2_n, a2_d, a2_m]) ⟨0, by simp [hd]⟩) ?_
  rintro m s ⟨i, him, hF, rfl⟩
  simp (maxSteps := 4000000) [hd0, hfr, hout, hcl, hcd, delA_none, a1, a1_n, a1_d, a1_m, a2, a2_n, a2_d, a2_m]
  constructor
  · intro hi
    have hi' : i < x.loose.length := by omega
    rw [List.drop_eq_getElem_cons hi', looseF] at hF
    have w1 : IntKind.i64.wrap ((i : Int) + 1) = i + 1 := w64 (by omega) (by omega)
    simp (maxSteps := 4000000) [hd0, hfr, hout, hcl, hcd, delA_none, a1, a1_n, a1_d, a1_m, a2, a2_n, a2_d, a2_m, hi', DLoose.enc]
    refine (impl_Disk_hasPage _ b1).useCK ?_
    by_cases c1 : inR x.loose[i].page 0 (x.pages.length - 1) = true
    case neg => simp only [Bool.not_eq_true] at c1; simp [c1] at hF; simp (maxSteps := 4000000) [hd0, hfr, hout, hcl, hcd, delA_none, a1, a1_n, a1_d, a1_m, a2, a2_n, a2_d, a2_m, c1, hF]
    rw [c1] at hF ⊢
    simp (maxSteps := 4000000) [hd0, hfr, hout, hcl, hcd, delA_none, a1, a1_n, a1_d, a1_m, a2, a2_n, a2_d, a2_m]
    refine (impl_within _ _ _ _).useCK ?_
    by_cases c2 : inR x.loose[i].part 0 2 = true
    case neg => simp only [Bool.not_eq_true] at c2; simp [c2] at hF; simp (maxSteps := 4000000) [hd0, hfr, hout, hcl, hcd, delA_none, a1, a1_n, a1_d, a1_m, a2, a2_n, a2_d, a2_m, c2, hF]
    rw [c2] at hF ⊢
    by_cases c3 : x.loose[i].data.length = 16
    case neg => simp [c3] at hF; simp (maxSteps := 4000000) [hd0, hfr, hout, hcl, hcd, delA_none, a1, a1_n, a1_d, a1_m, a2, a2_n, a2_d, a2_m, show ¬ (x.loose[i].data.length : Int) = 16 by omega, hF]
    simp [c3] at hF
    simp (maxSteps := 4000000) [hd0, hfr, hout, hcl, hcd, delA_none, a1, a1_n, a1_d, a1_m, a2, a2_n, a2_d, a2_m, c3, w1]
    exact LK.intro (m - 1) [1, 27, 28, 29] [4] (by omega) (by decide) (by simp (maxSteps := 4000000) [hd0, hfr, hout, hcl, hcd, delA_none, a1, a1_n, a1_d, a1_m, a2, a2_n, a2_d, a2_m]) ⟨i + 1, by omega, by simpa using hF, by simp⟩
  · intro h
    rw [List.drop_eq_nil_of_le (by omega)] at hF
    simpa [looseF] using hF
theorem spec_DiskFault (H : HH) {r1 q1 r2 q2} {x : DDisk} (hl : x.le 1048576) (a1 : arrAt H r1 q1 = some (1, x.pages.map (encS 1 encU8))) (a2 : arrAt H r2 q2 = some (3, x.loose.map DLoose.enc)) :
    PFun Try.prog 97 [.a [.sl r1 q1 1 0 x.pages.length, .sl r2 q2 3 0 x.loose.length]] H (I (diskF x)) := by
  obtain ⟨⟨b1, b1p⟩, b2, b2p⟩ := hl
  by_cases h1 : (x.pages.length : Int) < 1
  · have : diskF x = 1 := by unfold diskF; rw [if_pos (.inl (by omega))]
    refine PFun.of [1, 2, 3, 4, 14, 19, 28, 32, 37, 61, 69] Try.func97 rfl (by simp [Try.f97]) ?_
    intro d hd0 hfr hcl hout
    have hcd : ∀ n q, CleanH (hit [((d, n), q)]) H := fun n q => hcl.at
    have a1_n : ∀ n, ¬ (d, n) = r1 := fun n => nm_ne (ne_of_arr hfr a1)
    have a1_d : ¬ r1.1 = d := ne_of_arr hfr a1
    have a1_m : ∀ n, ¬ r1 = (d, n) := fun n => nm_ne' (ne_of_arr hfr a1)
    have a2_n : ∀ n, ¬ (d, n) = r2 := fun n => nm_ne (ne_of_arr hfr a2)
    have a2_d : ¬ r2.1 = d := ne_of_arr hfr a2
    have a2_m : ∀ n, ¬ r2 = (d, n) := fun n => nm_ne' (ne_of_arr hfr a2)
    simp (maxSteps := 4000000) [hd0, hfr, hout, hcl, hcd, delA_none, a1, a1_n, a1_d, a1_m, a2, a2_n, a2_d, a2_m, Try.f97, h1, this]
  by_cases h2 : 8 < (x.pages.length : Int)
  · have : diskF x = 1 := by unfold diskF; rw [if_pos (.inr (.inl (by omega)))]
    refine PFun.of [1, 2, 3, 4, 14, 19, 28, 32, 37, 61, 69] Try.func97 rfl (by simp [Try.f97]) ?_
    intro d hd0 hfr hcl hout
    have hcd : ∀ n q, CleanH (hit [((d, n), q)]) H := fun n q => hcl.at
    have a1_n : ∀ n, ¬ (d, n) = r1 := fun n => nm_ne (ne_of_arr hfr a1)
    have a1_d : ¬ r1.1 = d := ne_of_arr hfr a1
    have a1_m : ∀ n, ¬ r1 = (d, n) := fun n => nm_ne' (ne_of_arr hfr a1)
    have a2_n : ∀ n, ¬ (d, n) = r2 := fun n => nm_ne (ne_of_arr hfr a2)
    have a2_d : ¬ r2.1 = d := ne_of_arr hfr a2
    have a2_m : ∀ n, ¬ r2 = (d, n) := fun n => nm_ne' (ne_of_arr hfr a2)
    simp (maxSteps := 4000000) [hd0, hfr, hout, hcl, hcd, delA_none, a1, a1_n, a1_d, a1_m, a2, a2_n, a2_d, a2_m, Try.f97, h1, h2, this]
  refine PFun.of [1, 2, 3, 4, 14, 19, 28, 32, 37, 61, 69] Try.func97 rfl (by simp [Try.f97]) ?_
  intro d hd0 hfr hcl hout
  have hcd : ∀ n q, CleanH (hit [((d, n), q)]) H := fun n q => hcl.at
  have a1_n : ∀ n, ¬ (d, n) = r1 := fun n => nm_ne (ne_of_arr hfr a1)
  have a1_d : ¬ r1.1 = d := ne_of_arr hfr a1
  have a1_m : ∀ n, ¬ r1 = (d, n) := fun n => nm_ne' (ne_of_arr hfr a1)
  have a2_n : ∀ n, ¬ (d, n) = r2 := fun n => nm_ne (ne_of_arr hfr a2)
  have a2_d : ¬ r2.1 = d := ne_of_arr hfr a2
  have a2_m : ∀ n, ¬ r2 = (d, n) := fun n => nm_ne' (ne_of_arr hfr a2)
  simp (maxSteps := 4000000) [hd0, hfr, hout, hcl, hcd, delA_none, a1, a1_n, a1_d, a1_m, a2, a2_n, a2_d, a2_m, Try.f97, h1, h2]
  refine LoopK.intro (fun m s => ∃ i : Nat, i + m = x.pages.length ∧ (x.pages.any fun p => decide (p.length ≠ 48)) = ((x.pages.drop i).any fun p => decide (p.length ≠ 48)) ∧ s = ⟨[(1, .c (.pt (d, 1) [] 2 0 0)), (3, I i)], ((d, 1), .own 2 [[.sl r1 q1 1 0 x.pages.length, .sl r2 q2 3 0 x.loose.length]]) :: H, []⟩) (x.pages.length + 1)
    (LK.intro x.pages.length [1, 3] [] (by omega) (by decide) (by simp (maxSteps := 4000000) [hd0, hfr, hout, hcl, hcd, delA_none, a1, a1_n, a1_d, a1_m, a2, a2_n, a2_d, a2_m]) ⟨0, by simp⟩) ?_
  rintro m s ⟨i, him, hP, rfl⟩
  simp (maxSteps := 4000000) [hd0, hfr, hout, hcl, hcd, delA_none, a1, a1_n, a1_d, a1_m, a2, a2_n, a2_d, a2_m]
  constructor
  · intro hi
    have hi' : i < x.pages.length := by omega
    rw [List.drop_eq_getElem_cons hi', List.any_cons] at hP
    have w1 : IntKind.i64.wrap ((i : Int) + 1) = i + 1 := w64 (by omega) (by omega)
    by_cases c1 : x.pages[i].length = 48
    · simp (maxSteps := 4000000) [hd0, hfr, hout, hcl, hcd, delA_none, a1, a1_n, a1_d, a1_m, a2, a2_n, a2_d, a2_m, hi', encS, c1, w1]
      exact LK.intro (m - 1) [1, 3] [] (by omega) (by decide) (by simp (maxSteps := 4000000) [hd0, hfr, hout, hcl, hcd, delA_none, a1, a1_n, a1_d, a1_m, a2, a2_n, a2_d, a2_m]) ⟨i + 1, by omega, by simpa [c1] using hP, by simp⟩
    · have : diskF x = 1 := by unfold diskF; rw [if_pos (.inr (.inr (by rw [hP]; simp [c1])))]
      simp (maxSteps := 4000000) [hd0, hfr, hout, hcl, hcd, delA_none, a1, a1_n, a1_d, a1_m, a2, a2_n, a2_d, a2_m, hi', encS, show ¬ (x.pages[i].length : Int) = 48 by omega, this]
  · intro hi
    rw [List.drop_eq_nil_of_le (by omega)] at hP
    by_cases h4 : 60 < (x.loose.length : Int)
    · have : diskF x = 2 := by unfold diskF; rw [if_neg (by rintro (h | h | h); omega; omega; rw [hP] at h; simp at h), if_pos (by omega)]
      simp (maxSteps := 4000000) [hd0, hfr, hout, hcl, hcd, delA_none, a1, a1_n, a1_d, a1_m, a2, a2_n, a2_d, a2_m, h4, this]
    have hd : diskF x = looseF x.pages.length x.loose := by unfold diskF; rw [if_neg (by rintro (h | h | h); omega; omega; rw [hP] at h; simp at h), if_neg (by omega)]
    simp (maxSteps := 4000000) [hd0, hfr, hout, hcl, hcd, delA_none, a1, a1_n, a1_d, a1_m, a2, a2_n, a2_d, a2_m, h4]
    refine LoopK.intro (fun m s => ∃ i : Nat, i + m = x.loose.length ∧ looseF x.pages.length (x.loose.drop i) = diskF x ∧ s = ⟨[(1, .c (.pt (d, 1) [] 2 0 0)), (4, I i)], ((d, 1), .own 2 [[.sl r1 q1 1 0 x.pages.length, .sl r2 q2 3 0 x.loose.length]]) :: H, []⟩) (x.loose.length + 1)
      (LK.intro x.loose.length [1, 4] [] (by omega) (by decide) (by simp (maxSteps := 4000000) [hd0, hfr, hout, hcl, hcd, delA_none, a1, a1_n, a1_d, a1_m, a2, a2_n, a2_d, a2_m]) ⟨0, by simp [hd]⟩) ?_
    clear him hP hi m i
    rintro m s ⟨i, him, hF, rfl⟩
    simp (maxSteps := 4000000) [hd0, hfr, hout, hcl, hcd, delA_none, a1, a1_n, a1_d, a1_m, a2, a2_n, a2_d, a2_m]
    constructor
    · intro hi
      have hi' : i < x.loose.length := by omega
      rw [List.drop_eq_getElem_cons hi', looseF] at hF
      have w1 : IntKind.i64.wrap ((i : Int) + 1) = i + 1 := w64 (by omega) (by omega)
      have w2 : IntKind.i64.wrap ((x.pages.length : Int) - 1) = x.pages.length - 1 := w64 (by omega) (by omega)
      refine DrawK.intro 22 [1, 4, 61] rfl (by kernel_rfl) (by decide) ?_
      simp (maxSteps := 4000000) [hd0, hfr, hout, hcl, hcd, delA_none, a1, a1_n, a1_d, a1_m, a2, a2_n, a2_d, a2_m, hi', DLoose.enc, w2]
      refine ⟨_, spec_l1In _ _ _ _, ?_⟩
      by_cases c1 : inR x.loose[i].page 0 (x.pages.length - 1) = true
      case neg => simp only [Bool.not_eq_true] at c1; simp [c1] at hF; simp (maxSteps := 4000000) [hd0, hfr, hout, hcl, hcd, delA_none, a1, a1_n, a1_d, a1_m, a2, a2_n, a2_d, a2_m, c1, hF]
      rw [c1] at hF ⊢
      simp (maxSteps := 4000000) [hd0, hfr, hout, hcl, hcd, delA_none, a1, a1_n, a1_d, a1_m, a2, a2_n, a2_d, a2_m, hi', DLoose.enc, w2]
      refine ⟨_, spec_l1In _ _ _ _, ?_⟩
      by_cases c2 : inR x.loose[i].part 0 2 = true
      case neg => simp only [Bool.not_eq_true] at c2; simp [c2] at hF; simp (maxSteps := 4000000) [hd0, hfr, hout, hcl, hcd, delA_none, a1, a1_n, a1_d, a1_m, a2, a2_n, a2_d, a2_m, c2, hF]
      rw [c2] at hF ⊢
      by_cases c3 : x.loose[i].data.length = 16
      case neg => simp [c3] at hF; simp (maxSteps := 4000000) [hd0, hfr, hout, hcl, hcd, delA_none, a1, a1_n, a1_d, a1_m, a2, a2_n, a2_d, a2_m, hi', DLoose.enc, show ¬ (x.loose[i].data.length : Int) = 16 by omega, hF]
      simp [c3] at hF
      simp (maxSteps := 4000000) [hd0, hfr, hout, hcl, hcd, delA_none, a1, a1_n, a1_d, a1_m, a2, a2_n, a2_d, a2_m, hi', DLoose.enc, c3, w1]
      exact LK.intro (m - 1) [1, 4] [] (by omega) (by decide) (by simp (maxSteps := 4000000) [hd0, hfr, hout, hcl, hcd, delA_none, a1, a1_n, a1_d, a1_m, a2, a2_n, a2_d, a2_m]) ⟨i + 1, by omega, by simpa using hF, by simp⟩
    · intro h
      rw [List.drop_eq_nil_of_le (by omega)] at hF
      simpa [looseF] using hF
end Go.Proofs.Ythejobdlfomcjaa

namespace Go.Proofs.Ythejobdlfomcjaa
open Go Go.Px Go.RowKit Go.Proofs
set_option linter.unnecessarySimpa false
set_option linter.unusedVariables false
set_option linter.unusedSimpArgs false
set_option maxRecDepth 100000
attribute [-simp] Int.not_le Int.not_lt
theorem slices_Clone_byte (H : HH) {r q n} {l : List Int} (hb : l.length ≤ 1048576) (hn : n = l.length) (ha : arrAt H r q = some (1, l.map encU8)) : PFun Try.prog 126 [.c (.sl r q 1 0 n)] H (.c (.own 1 (l.map encU8))) := by
  subst hn
  refine PFun.of [0, 2, 4] Try.func126 rfl (by simp [Try.f126]) ?_
  intro d hd0 hfr hcl hout
  have hcd : ∀ n q, CleanH (hit [((d, n), q)]) H := fun n q => hcl.at
  have ha_n : ∀ n, ¬ (d, n) = r := fun n => nm_ne (ne_of_arr hfr ha)
  have ha_d : ¬ r.1 = d := ne_of_arr hfr ha
  have ha_m : ∀ n, ¬ r = (d, n) := fun n => nm_ne' (ne_of_arr hfr ha)
  simp (maxSteps := 4000000) [hd0, hfr, hout, hcl, hcd, delA_none, ha, ha_n, ha_d, ha_m, Try.f126]
  simp (maxSteps := 4000000) [hd0, hfr, hout, hcl, hcd, delA_none, ha, ha_n, ha_d, ha_m, encU8]
  omega
theorem U8_no {l : List Int} : ∀ x ∈ l.map encU8, ∀ c ∈ x, isOwn c = false := by
  intro x hx c hc
  obtain ⟨n, _, rfl⟩ := List.mem_map.1 hx
  simp [encU8] at hc; subst hc; rfl
theorem U8_clean {l : List Int} : ∀ K, CleanRows K (l.map encU8) := by intro K; simp [encU8, Clean.v]
theorem pages_clean {l : List (List Int)} : ∀ K, CleanRows K (l.map (encS 1 encU8)) := by intro K; simp [encS, encU8, Clean.v]
theorem loose_clean {l : List DLoose} : ∀ K, CleanRows K (l.map DLoose.enc) := by intro K; simp [DLoose.enc, encU8, Clean.v]
theorem impl_Disk_copied (H : HH) {r1 q1 r2 q2} {x : DDisk} (hl : x.le 1048576) (a1 : arrAt H r1 q1 = some (1, x.pages.map (encS 1 encU8))) (a2 : arrAt H r2 q2 = some (3, x.loose.map DLoose.enc)) :
    PFun Try.prog 125 [.a [.sl r1 q1 1 0 x.pages.length, .sl r2 q2 3 0 x.loose.length]] H (.a x.enc) := by
  obtain ⟨⟨b1, b1p⟩, b2, b2p⟩ := hl
  refine PFun.of [1, 2, 3, 5, 7, 10, 11, 12, 13, 25, 26, 27, 28] Try.func125 rfl (by simp [Try.f125]) ?_
  intro d hd0 hfr hcl hout
  have hcd : ∀ n q, CleanH (hit [((d, n), q)]) H := fun n q => hcl.at
  have a1_n : ∀ n, ¬ (d, n) = r1 := fun n => nm_ne (ne_of_arr hfr a1)
  have a1_d : ¬ r1.1 = d := ne_of_arr hfr a1
  have a1_m : ∀ n, ¬ r1 = (d, n) := fun n => nm_ne' (ne_of_arr hfr a1)
  have a2_n : ∀ n, ¬ (d, n) = r2 := fun n => nm_ne (ne_of_arr hfr a2)
  have a2_d : ¬ r2.1 = d := ne_of_arr hfr a2
  have a2_m : ∀ n, ¬ r2 = (d, n) := fun n => nm_ne' (ne_of_arr hfr a2)
  simp (maxSteps := 4000000) [hd0, hfr, hout, hcl, hcd, delA_none, a1, a1_n, a1_d, a1_m, a2, a2_n, a2_d, a2_m, Try.f125]
  refine LoopK.intro (fun m s => ∃ i : Nat, i + m = x.pages.length ∧ s = ⟨[(1, .c (.pt (d, 1) [] 2 0 0)), (2, .c (.pt (d, 2) [] 2 0 0)), (3, .c (.pt (d, 3) [] 2 0 0)), (10, .c (.sl r1 q1 1 0 x.pages.length)), (11, I x.pages.length), (12, I i)],
      ((d, 3), .own 2 [[.own 1 ((x.pages.take i).map (encS 1 encU8)), .own 3 []]]) :: ((d, 2), .own 2 [[.own 1 [], .own 3 []]]) :: ((d, 1), .own 2 [[.sl r1 q1 1 0 x.pages.length, .sl r2 q2 3 0 x.loose.length]]) :: H, []⟩) (x.pages.length + 1)
    (LK.intro x.pages.length [1, 2, 3, 10, 11, 12] [] (by omega) (by decide) (by simp (maxSteps := 4000000) [hd0, hfr, hout, hcl, hcd, delA_none, a1, a1_n, a1_d, a1_m, a2, a2_n, a2_d, a2_m]) ⟨0, by simp⟩) ?_
  rintro m s ⟨i, him, rfl⟩
  simp (maxSteps := 4000000) [hd0, hfr, hout, hcl, hcd, delA_none, a1, a1_n, a1_d, a1_m, a2, a2_n, a2_d, a2_m]
  constructor
  · intro hi
    have hi' : i < x.pages.length := by omega
    have w1 : IntKind.i64.wrap ((i : Int) + 1) = i + 1 := w64 (by omega) (by omega)
    have hpl := b1p _ (List.getElem_mem hi')
    have hsub := arrAt_sub a1 (i := i) (f := 0) (row := encS 1 encU8 x.pages[i]) (by simp [hi']) rfl
    simp (maxSteps := 4000000) [hd0, hfr, hout, hcl, hcd, delA_none, a1, a1_n, a1_d, a1_m, a2, a2_n, a2_d, a2_m, hi', encS]
    refine DrawK.intro 5 [1, 2, 3, 10, 11, 12, 17, 20] rfl (by kernel_rfl) (by decide) ?_
    simp (maxSteps := 4000000) [hd0, hfr, hout, hcl, hcd, delA_none, a1, a1_n, a1_d, a1_m, a2, a2_n, a2_d, a2_m]
    refine ⟨_, slices_Clone_byte _ hpl rfl (by simp (maxSteps := 4000000) [hd0, hfr, hout, hcl, hcd, delA_none, a1, a1_n, a1_d, a1_m, a2, a2_n, a2_d, a2_m, hsub]), ?_⟩
    have hn := take_next (f := encS 1 encU8) hi'
    simp only [encS] at hn
    simp (maxSteps := 4000000) [hd0, hfr, hout, hcl, hcd, delA_none, a1, a1_n, a1_d, a1_m, a2, a2_n, a2_d, a2_m, encS, U8_clean, w1]
    refine ⟨by kernel_rfl, by omega, ?_⟩
    refine LK.intro (m - 1) [1, 2, 3, 10, 11, 12] [] (by omega) (by decide) (by simp (maxSteps := 4000000) [hd0, hfr, hout, hcl, hcd, delA_none, a1, a1_n, a1_d, a1_m, a2, a2_n, a2_d, a2_m]) ⟨i + 1, by omega, by simp [encS, hn]⟩
  · intro h
    refine LoopK.intro (fun m s => ∃ i : Nat, i + m = x.loose.length ∧ s = ⟨[(2, .c (.pt (d, 2) [] 2 0 0)), (3, .c (.pt (d, 3) [] 2 0 0)), (25, .c (.sl r2 q2 3 0 x.loose.length)), (26, I x.loose.length), (27, I i)],
      ((d, 3), .own 2 [[.own 1 (x.pages.map (encS 1 encU8)), .own 3 ((x.loose.take i).map DLoose.enc)]]) :: ((d, 2), .own 2 [[.own 1 [], .own 3 []]]) :: H, []⟩) (x.loose.length + 1)
      (LK.intro x.loose.length [2, 3, 25, 26, 27] [1] (by omega) (by decide) (by simp (maxSteps := 4000000) [hd0, hfr, hout, hcl, hcd, delA_none, a1, a1_n, a1_d, a1_m, a2, a2_n, a2_d, a2_m]) ⟨0, by simp [List.take_of_length_le, h]⟩) ?_
    clear him h m i
    rintro m s ⟨i, him, rfl⟩
    simp (maxSteps := 4000000) [hd0, hfr, hout, hcl, hcd, delA_none, a1, a1_n, a1_d, a1_m, a2, a2_n, a2_d, a2_m]
    constructor
    · intro hi
      have hi' : i < x.loose.length := by omega
      have w1 : IntKind.i64.wrap ((i : Int) + 1) = i + 1 := w64 (by omega) (by omega)
      have hpl : x.loose[i].data.length ≤ 1048576 := b2p _ (List.getElem_mem hi')
      have hsub := arrAt_sub a2 (i := i) (f := 2) (row := x.loose[i].enc) (by simp [hi']) rfl
      simp (maxSteps := 4000000) [hd0, hfr, hout, hcl, hcd, delA_none, a1, a1_n, a1_d, a1_m, a2, a2_n, a2_d, a2_m, hi', DLoose.enc]
      refine (slices_Clone_byte _ hpl rfl (by simp (maxSteps := 4000000) [hd0, hfr, hout, hcl, hcd, delA_none, a1, a1_n, a1_d, a1_m, a2, a2_n, a2_d, a2_m, hsub])).useCK ?_
      have hn := take_next (f := DLoose.enc) hi'
      simp only [DLoose.enc] at hn
      simp (maxSteps := 4000000) [hd0, hfr, hout, hcl, hcd, delA_none, a1, a1_n, a1_d, a1_m, a2, a2_n, a2_d, a2_m, DLoose.enc, U8_clean, w1]
      refine ⟨by omega, ?_⟩
      refine LK.intro (m - 1) [2, 3, 25, 26, 27] [7] (by omega) (by decide) (by simp (maxSteps := 4000000) [hd0, hfr, hout, hcl, hcd, delA_none, a1, a1_n, a1_d, a1_m, a2, a2_n, a2_d, a2_m, DLoose.enc]) ⟨i + 1, by omega, by simp [DLoose.enc, hn]⟩
    · intro h
      simp (maxSteps := 4000000) [hd0, hfr, hout, hcl, hcd, delA_none, a1, a1_n, a1_d, a1_m, a2, a2_n, a2_d, a2_m, DDisk.enc, List.take_of_length_le (show (x.loose.map DLoose.enc).length ≤ i by simpa using h)]
end Go.Proofs.Ythejobdlfomcjaa

namespace Go.Proofs.Ythejobdlfomcjaa
open Go Go.Px Go.RowKit Go.Proofs
set_option linter.unnecessarySimpa false
set_option linter.unusedVariables false
set_option linter.unusedSimpArgs false
set_option maxRecDepth 100000
attribute [-simp] Int.not_le Int.not_lt
/-- k cells of data laid over p from at on -/
def ov (p : List Int) (at_ k : Nat) (data : List Int) : List Int := p.take at_ ++ data.take k ++ p.drop (at_ + k)
theorem ov_zero {p data a} : ov p a 0 data = p := by simp [ov]
theorem ov_length {p data a k} (h : a + k ≤ p.length) (h2 : k ≤ data.length) : (ov p a k data).length = p.length := by simp [ov]; omega
theorem ov_set {p data : List Int} {a k : Nat} (h : a + k < p.length) (h2 : k < data.length) : (ov p a k data).set (a + k) data[k] = ov p a (k + 1) data := by
  have e : (p.take a ++ data.take k).length = a + k := by simp; omega
  unfold ov
  rw [List.drop_eq_getElem_cons h, List.take_succ_eq_append_getElem h2, List.set_append_right _ _ (by omega), e, Nat.sub_self, List.set_cons_zero]
  simp only [List.append_assoc, List.cons_append, List.nil_append, Nat.add_assoc]
def doW (pages : List (List Int)) (pg pt : Nat) (data : List Int) : List (List Int) := pages.set pg (ov (pages.getD pg []) (16 * pt) 16 data)
theorem spec_l2Do (H : HH) {r q c1 r2 q2} {pages : List (List Int)} {data : List Int} {pg pt : Nat} (hb : pages.length ≤ 1048576) (hlt : pg < pages.length) (h48 : pages[pg].length = 48) (hp2 : pt ≤ 2) (hd16 : data.length = 16)
    (ha : arrAt H r q = some (2, [[.own 1 (pages.map (encS 1 encU8)), c1]])) (ha2 : arrAt H r2 q2 = some (1, data.map encU8)) (hne : ¬ r = r2) (h0 : r.1 ≠ 0) (hc1 : ∀ K, Px.Clean K c1) :
    PUpd Try.prog 128 [.c (.pt r q 2 0 0), .a [.v (.int .i64 (pg : Nat)), .v (.int .i64 (pt : Nat)), .sl r2 q2 1 0 16]] H (.t []) (setA H r q (.own 2 [[.own 1 ((doW pages pg pt data).map (encS 1 encU8)), c1]])) := by
  refine PUpd.of [0, 3, 4, 6] Try.func128 rfl (by simp [Try.f128]) ?_
  intro d hd0 hfr hcl hout
  have hcd : ∀ n q, CleanH (hit [((d, n), q)]) H := fun n q => hcl.at
  have ha_n : ∀ n, ¬ (d, n) = r := fun n => nm_ne (ne_of_arr hfr ha)
  have ha_d : ¬ r.1 = d := ne_of_arr hfr ha
  have ha_m : ∀ n, ¬ r = (d, n) := fun n => nm_ne' (ne_of_arr hfr ha)
  have ha2_n : ∀ n, ¬ (d, n) = r2 := fun n => nm_ne (ne_of_arr hfr ha2)
  have ha2_d : ¬ r2.1 = d := ne_of_arr hfr ha2
  have ha2_m : ∀ n, ¬ r2 = (d, n) := fun n => nm_ne' (ne_of_arr hfr ha2)
  simp (maxSteps := 4000000) [hd0, hfr, hout, hcl, hcd, delA_none, ha, ha_n, ha_d, ha_m, ha2, ha2_n, ha2_d, ha2_m, Try.f128]
  refine LoopK.intro (fun m s => ∃ k : Nat, k + m = 16 ∧ s = ⟨[(0, .c (.pt r q 2 0 0)), (3, .c (.pt (d, 3) [] 3 0 0)), (4, I k)], ((d, 3), .own 3 [[.v (.int .i64 (pg : Nat)), .v (.int .i64 (pt : Nat)), .sl r2 q2 1 0 16]]) :: setA H r q (.own 2 [[.own 1 ((pages.set pg (ov pages[pg] (16 * pt) k data)).map (encS 1 encU8)), c1]]), []⟩) (16 + 1)
    (LK.intro 16 [0, 3, 4] [] (by omega) (by decide) (by simp (maxSteps := 4000000) [hd0, hfr, hout, hcl, hcd, delA_none, ha, ha_n, ha_d, ha_m, ha2, ha2_n, ha2_d, ha2_m]) ⟨0, by simp [ov_zero, setA_self ha]⟩) ?_
  rintro m s ⟨k, hkm, rfl⟩
  have hol : (ov pages[pg] (16 * pt) k data).length = 48 := by rw [ov_length (by omega) (by omega), h48]
  by_cases hk' : k < 16
  · obtain ⟨Y, hY⟩ : ∃ Y, Y = (ov pages[pg] (16 * pt) k data).map encU8 := ⟨_, rfl⟩
    obtain ⟨X, hX⟩ : ∃ X, X = (pages.set pg (ov pages[pg] (16 * pt) k data)).map (encS 1 encU8) := ⟨_, rfl⟩
    have hXg : X[pg]? = some [.own 1 Y] := by rw [hX, hY]; simp [hlt, encS]
    have hXl : X.length = pages.length := by rw [hX]; simp
    have hYl : Y.length = 48 := by rw [hY]; simpa using hol
    have hYk : ∃ o, Y[16 * pt + k]? = some [.v (.int .u8 o)] := ⟨(ov pages[pg] (16 * pt) k data)[16 * pt + k], by rw [hY]; simp [encU8]⟩
    obtain ⟨o, hYk⟩ := hYk
    have hXg' := ix_of hXg
    have hYk' := ix_of hYk
    have hnext : X.set pg [.own 1 (Y.set (16 * pt + k) (encU8 data[k]))] = (pages.set pg (ov pages[pg] (16 * pt) (k + 1) data)).map (encS 1 encU8) := by
      rw [hX, hY, ← List.map_set, ov_set (by omega) (by omega)]
      simp [encS]
    rw [← hX]
    have b0 := arrAt_setA (z := 2) (rows := [[.own 1 X, c1]]) ha
    have b1 := arrAt_sub b0 (i := 0) (f := 0) rfl rfl
    have b2 := arrAt_setA_ne (q := q) (q' := q2) (c := .own 2 [[.own 1 X, c1]]) (H := H) hne
    rw [ha2] at b2
    have b3 : arrAt (setA H r q (.own 2 [[.own 1 X, c1]])) r (q ++ [(0, 0)] ++ [(pg, 0)]) = some (1, Y) := arrAt_sub b1 hXg rfl
    have hst : ∀ row, setA (setA H r q (.own 2 [[.own 1 X, c1]])) r (q ++ [(0, 0), (pg, 0)]) (.own 1 (Y.set (16 * pt + k) row)) = setA H r q (.own 2 [[.own 1 (X.set pg [.own 1 (Y.set (16 * pt + k) row)]), c1]]) := fun row => by
      have e1 : q ++ [(0, 0), (pg, 0)] = q ++ [(0, 0)] ++ [(pg, 0)] := by simp
      rw [e1, setA_sub b1 hXg rfl, setA_sub b0 (i := 0) (f := 0) rfl rfl, setA_setA ha]
      rfl
    simp only [List.append_assoc, List.cons_append, List.nil_append] at b3
    have hkd : k < data.length := by omega
    have w1 : IntKind.i64.wrap ((k : Int) + 1) = k + 1 := w64 (by omega) (by omega)
    have w2 : IntKind.i64.wrap ((pt : Int) * 16) = 16 * (pt : Int) := by rw [w64 (by omega) (by omega)]; omega
    obtain ⟨ix, hix⟩ : ∃ ix : Nat, ix = 16 * pt + k := ⟨_, rfl⟩
    have w3 : IntKind.i64.wrap (16 * (pt : Int) + (k : Int)) = (ix : Int) := by rw [w64 (by omega) (by omega)]; omega
    rw [← hix] at hYk hYk' hst hnext
    have hix2 : ix < 48 := by omega
    simp (maxSteps := 4000000) [hd0, hfr, hout, hcl, hcd, delA_none, ha, ha_n, ha_d, ha_m, ha2, ha2_n, ha2_d, ha2_m, show (k : Int) < 16 by omega]
    refine DrawK.intro 19 [0, 3, 4, 26, 27] rfl (by kernel_rfl) (by decide) ?_
    simp only [encU8] at hnext
    simp (maxSteps := 4000000) [hd0, hfr, hout, hcl, hcd, delA_none, ha, ha_n, ha_d, ha_m, ha2, ha2_n, ha2_d, ha2_m, w1, w2, w3, b0, b1, b2, b3, hlt, hd16, hkd, hk', h0, hXg', hXl, hYl, hYk', encU8, hst, hnext, hix2]
    refine ⟨by omega, by omega, ?_⟩
    refine LK.intro (m - 1) [0, 3, 4] [] (by omega) (by decide) (by simp (maxSteps := 4000000) [hd0, hfr, hout, hcl, hcd, delA_none, ha, ha_n, ha_d, ha_m, ha2, ha2_n, ha2_d, ha2_m]) ⟨k + 1, by omega, by simp [encS]⟩
  · have hk : k = 16 := by omega
    subst hk
    have hdw : (pages.set pg (ov pages[pg] (16 * pt) 16 data)) = doW pages pg pt data := by simp [doW, hlt]
    rw [hdw]
    have hc' := CleanH_setA (q := q) (r := r) (c := .own 2 [[.own 1 ((doW pages pg pt data).map (encS 1 encU8)), c1]]) hcl (by rw [Clean_ownR]; simp [hc1])
    simp (maxSteps := 4000000) [hd0, hfr, hout, hcl, hcd, delA_none, ha, ha_n, ha_d, ha_m, ha2, ha2_n, ha2_d, ha2_m, show ¬ ((16 : Nat) : Int) < 16 by omega, outH_setA, hc']
end Go.Proofs.Ythejobdlfomcjaa

namespace Go.Proofs.Ythejobdlfomcjaa
open Go Go.Px Go.RowKit Go.Proofs
set_option linter.unnecessarySimpa false
set_option linter.unusedVariables false
set_option linter.unusedSimpArgs false
set_option maxRecDepth 100000
attribute [-simp] Int.not_le Int.not_lt
theorem spec_l2Copy (H : HH) {r1 q1 r2 q2} {x : DDisk} (hl : x.le 1048576) (a1 : arrAt H r1 q1 = some (1, x.pages.map (encS 1 encU8))) (a2 : arrAt H r2 q2 = some (3, x.loose.map DLoose.enc)) :
    PFun Try.prog 127 [.a [.sl r1 q1 1 0 x.pages.length, .sl r2 q2 3 0 x.loose.length]] H (.a x.enc) := by
  obtain ⟨⟨b1, b1p⟩, b2, b2p⟩ := hl
  refine PFun.of [1, 2, 3, 4, 5, 6, 12, 31] Try.func127 rfl (by simp [Try.f127]) ?_
  intro d hd0 hfr hcl hout
  have hcd : ∀ n q, CleanH (hit [((d, n), q)]) H := fun n q => hcl.at
  have a1_n : ∀ n, ¬ (d, n) = r1 := fun n => nm_ne (ne_of_arr hfr a1)
  have a1_d : ¬ r1.1 = d := ne_of_arr hfr a1
  have a1_m : ∀ n, ¬ r1 = (d, n) := fun n => nm_ne' (ne_of_arr hfr a1)
  have a2_n : ∀ n, ¬ (d, n) = r2 := fun n => nm_ne (ne_of_arr hfr a2)
  have a2_d : ¬ r2.1 = d := ne_of_arr hfr a2
  have a2_m : ∀ n, ¬ r2 = (d, n) := fun n => nm_ne' (ne_of_arr hfr a2)
  simp (maxSteps := 4000000) [hd0, hfr, hout, hcl, hcd, delA_none, a1, a1_n, a1_d, a1_m, a2, a2_n, a2_d, a2_m, Try.f127]
  refine LoopK.intro (fun m s => ∃ i : Nat, i + m = x.pages.length ∧ s = ⟨[(1, .c (.pt (d, 1) [] 2 0 0)), (2, .c (.pt (d, 2) [] 2 0 0)), (3, .c (.pt (d, 3) [] 2 0 0)), (4, I i)],
      ((d, 3), .own 2 [[.own 1 ((x.pages.take i).map (encS 1 encU8)), .own 3 []]]) :: ((d, 2), .own 2 [[.own 1 [], .own 3 []]]) :: ((d, 1), .own 2 [[.sl r1 q1 1 0 x.pages.length, .sl r2 q2 3 0 x.loose.length]]) :: H, []⟩) (x.pages.length + 1)
    (LK.intro x.pages.length [1, 2, 3, 4] [] (by omega) (by decide) (by simp (maxSteps := 4000000) [hd0, hfr, hout, hcl, hcd, delA_none, a1, a1_n, a1_d, a1_m, a2, a2_n, a2_d, a2_m]) ⟨0, by simp⟩) ?_
  rintro m s ⟨i, him, rfl⟩
  simp (maxSteps := 4000000) [hd0, hfr, hout, hcl, hcd, delA_none, a1, a1_n, a1_d, a1_m, a2, a2_n, a2_d, a2_m]
  constructor
  · intro hi
    have hi' : i < x.pages.length := by omega
    have w1 : IntKind.i64.wrap ((i : Int) + 1) = i + 1 := w64 (by omega) (by omega)
    have hpl := b1p _ (List.getElem_mem hi')
    have hsub := arrAt_sub a1 (i := i) (f := 0) (row := encS 1 encU8 x.pages[i]) (by simp [hi']) rfl
    have hn := take_next (f := encS 1 encU8) hi'
    simp only [encS] at hn
    refine DrawK.intro 10 [1, 2, 3, 4, 16, 24] rfl (by kernel_rfl) (by decide) ?_
    simp (maxSteps := 4000000) [hd0, hfr, hout, hcl, hcd, delA_none, a1, a1_n, a1_d, a1_m, a2, a2_n, a2_d, a2_m, hi', encS, hsub, encU8, w1]
    refine ⟨by kernel_rfl, by omega, by kernel_rfl, by omega, ?_⟩
    refine LK.intro (m - 1) [1, 2, 3, 4] [] (by omega) (by decide) (by simp (maxSteps := 4000000) [hd0, hfr, hout, hcl, hcd, delA_none, a1, a1_n, a1_d, a1_m, a2, a2_n, a2_d, a2_m]) ⟨i + 1, by omega, by simp [encS, encU8, hn]⟩
  · intro h
    refine LoopK.intro (fun m s => ∃ i : Nat, i + m = x.loose.length ∧ s = ⟨[(1, .c (.pt (d, 1) [] 2 0 0)), (2, .c (.pt (d, 2) [] 2 0 0)), (3, .c (.pt (d, 3) [] 2 0 0)), (5, I i)],
      ((d, 3), .own 2 [[.own 1 (x.pages.map (encS 1 encU8)), .own 3 ((x.loose.take i).map DLoose.enc)]]) :: ((d, 2), .own 2 [[.own 1 [], .own 3 []]]) :: ((d, 1), .own 2 [[.sl r1 q1 1 0 x.pages.length, .sl r2 q2 3 0 x.loose.length]]) :: H, []⟩) (x.loose.length + 1)
      (LK.intro x.loose.length [1, 2, 3, 5] [] (by omega) (by decide) (by simp (maxSteps := 4000000) [hd0, hfr, hout, hcl, hcd, delA_none, a1, a1_n, a1_d, a1_m, a2, a2_n, a2_d, a2_m]) ⟨0, by simp [List.take_of_length_le, h]⟩) ?_
    clear him h m i
    rintro m s ⟨i, him, rfl⟩
    simp (maxSteps := 4000000) [hd0, hfr, hout, hcl, hcd, delA_none, a1, a1_n, a1_d, a1_m, a2, a2_n, a2_d, a2_m]
    constructor
    · intro hi
      have hi' : i < x.loose.length := by omega
      have w1 : IntKind.i64.wrap ((i : Int) + 1) = i + 1 := w64 (by omega) (by omega)
      have hpl : x.loose[i].data.length ≤ 1048576 := b2p _ (List.getElem_mem hi')
      have hsub := arrAt_sub a2 (i := i) (f := 2) (row := x.loose[i].enc) (by simp [hi']) rfl
      have hn := take_next (f := DLoose.enc) hi'
      simp only [DLoose.enc] at hn
      simp (maxSteps := 4000000) [hd0, hfr, hout, hcl, hcd, delA_none, a1, a1_n, a1_d, a1_m, a2, a2_n, a2_d, a2_m, hi', DLoose.enc, hsub, encU8, w1]
      refine ⟨by omega, by omega, ?_⟩
      refine LK.intro (m - 1) [1, 2, 3, 5] [6] (by omega) (by decide) (by simp (maxSteps := 4000000) [hd0, hfr, hout, hcl, hcd, delA_none, a1, a1_n, a1_d, a1_m, a2, a2_n, a2_d, a2_m, DLoose.enc]) ⟨i + 1, by omega, by simp [DLoose.enc, encU8, hn]⟩
    · intro h
      simp (maxSteps := 4000000) [hd0, hfr, hout, hcl, hcd, delA_none, a1, a1_n, a1_d, a1_m, a2, a2_n, a2_d, a2_m, DDisk.enc, List.take_of_length_le (show (x.loose.map DLoose.enc).length ≤ i by simpa using h)]
def doF (pages : List (List Int)) (l : List DLoose) : List (List Int) := l.foldl (fun ps w => doW ps w.page.toNat w.part.toNat w.data) pages
def Wok (n : Nat) (w : DLoose) : Prop := 0 ≤ w.page ∧ w.page < n ∧ 0 ≤ w.part ∧ w.part ≤ 2 ∧ w.data.length = 16
theorem doW_len {ps : List (List Int)} {pg pt data} : (doW ps pg pt data).length = ps.length := by simp [doW]
theorem doW_48 {ps : List (List Int)} {pg pt data} (h : ∀ p ∈ ps, p.length = 48) (hd : data.length = 16) (hp : pt ≤ 2) : ∀ p ∈ doW ps pg pt data, p.length = 48 := by
  intro p hpm
  by_cases hl : pg < ps.length
  · unfold doW at hpm
    rcases List.mem_or_eq_of_mem_set hpm with h' | rfl
    · exact h p h'
    · have h48 := h _ (List.getElem_mem hl)
      rw [List.getD_eq_getElem?_getD, List.getElem?_eq_getElem hl, Option.getD_some, ov_length (by omega) (by omega)]; exact h48
  · unfold doW at hpm
    rw [List.set_eq_of_length_le (by omega)] at hpm
    exact h _ hpm
theorem doF_len {ps : List (List Int)} {l} : (doF ps l).length = ps.length := by
  induction l generalizing ps with
  | nil => rfl
  | cons w l ih => simp only [doF, List.foldl_cons] at ih ⊢; rw [ih, doW_len]
theorem doF_48 {ps : List (List Int)} {n : Nat} {l : List DLoose} (h : ∀ p ∈ ps, p.length = 48) (hw : ∀ w ∈ l, Wok n w) : ∀ p ∈ doF ps l, p.length = 48 := by
  induction l generalizing ps with
  | nil => exact h
  | cons w l ih =>
    simp only [doF, List.foldl_cons] at ih ⊢
    obtain ⟨w1, w2, w3, w4, w5⟩ := hw w (by simp)
    exact ih (doW_48 h w5 (by omega)) (fun w hw' => hw w (by simp [hw']))
theorem doF_take {ps : List (List Int)} {l : List DLoose} {i : Nat} (h : i < l.length) : doF ps (l.take (i + 1)) = doW (doF ps (l.take i)) l[i].page.toNat l[i].part.toNat l[i].data := by
  rw [List.take_succ_eq_append_getElem h]; simp only [doF, List.foldl_append, List.foldl_cons, List.foldl_nil]
end Go.Proofs.Ythejobdlfomcjaa

namespace Go.Proofs.Ythejobdlfomcjaa
open Go Go.Px Go.RowKit Go.Proofs
set_option linter.unnecessarySimpa false
set_option linter.unusedVariables false
set_option linter.unusedSimpArgs false
set_option maxRecDepth 100000
attribute [-simp] Int.not_le Int.not_lt
theorem ov_rows {p data : List Int} {a : Nat} (h : a + 16 ≤ p.length) (hd : data.length = 16) : (p.map encU8).take a ++ (data.map encU8).flatten.map (fun c => [c]) ++ (p.map encU8).drop (a + 16) = (ov p a 16 data).map encU8 := by
  have e : ∀ l : List Int, (l.map encU8).flatten.map (fun c => [c]) = l.map encU8 := by
    intro l; induction l with
    | nil => rfl
    | cons a l ih => simpa [encU8] using ih
  rw [e]; simp [ov, List.take_of_length_le (show data.length ≤ 16 by omega)]
theorem U8_row {p : List Int} : ∀ row ∈ p.map encU8, ∃ c, row = [c] ∧ isOwn c = false := by
  intro row h; obtain ⟨n, _, rfl⟩ := List.mem_map.1 h; exact ⟨_, rfl, rfl⟩
theorem U8_flat {p : List Int} : ∀ c ∈ (p.map encU8).flatten, isOwn c = false := by
  intro c h
  obtain ⟨row, hr, hc⟩ := List.mem_flatten.1 h
  obtain ⟨n, _, rfl⟩ := List.mem_map.1 hr
  simp [encU8] at hc; subst hc; rfl
theorem U8_flen {p : List Int} : (p.map encU8).flatten.length = p.length := by
  induction p with
  | nil => rfl
  | cons a l ih => simp [encU8] at ih ⊢; omega
theorem ov_rows2 {p data : List Int} {a : Nat} (h : a + 16 ≤ p.length) (hd : data.length = 16) : (p.map encU8).take a ++ (data.map encU8).flatten.map (fun c => [c]) ++ (p.map encU8).drop (a + (data.map encU8).flatten.length) = (ov p a 16 data).map encU8 := by
  rw [U8_flen, hd, ov_rows h hd]
theorem impl_Disk_done (H : HH) {r1 q1 r2 q2 r3 q3} {x : DDisk} {l : List DLoose} (hl : x.le 1048576) (hll : l.length ≤ 1048576) (h48 : ∀ p ∈ x.pages, p.length = 48) (hw : ∀ w ∈ l, Wok x.pages.length w)
    (a1 : arrAt H r1 q1 = some (1, x.pages.map (encS 1 encU8))) (a2 : arrAt H r2 q2 = some (3, x.loose.map DLoose.enc)) (a3 : arrAt H r3 q3 = some (3, l.map DLoose.enc)) :
    PFun Try.prog 101 [.a [.sl r1 q1 1 0 x.pages.length, .sl r2 q2 3 0 x.loose.length], .c (.sl r3 q3 3 0 l.length)] H (.a (DDisk.mk (doF x.pages l) []).enc) := by
  have hl' := hl
  obtain ⟨⟨b1, b1p⟩, b2, b2p⟩ := hl'
  refine PFun.of [1, 2, 4, 5, 7, 11, 12, 13, 14] Try.func101 rfl (by simp [Try.f101]) ?_
  intro d hd0 hfr hcl hout
  have hcd : ∀ n q, CleanH (hit [((d, n), q)]) H := fun n q => hcl.at
  have a1_n : ∀ n, ¬ (d, n) = r1 := fun n => nm_ne (ne_of_arr hfr a1)
  have a1_d : ¬ r1.1 = d := ne_of_arr hfr a1
  have a1_m : ∀ n, ¬ r1 = (d, n) := fun n => nm_ne' (ne_of_arr hfr a1)
  have a2_n : ∀ n, ¬ (d, n) = r2 := fun n => nm_ne (ne_of_arr hfr a2)
  have a2_d : ¬ r2.1 = d := ne_of_arr hfr a2
  have a2_m : ∀ n, ¬ r2 = (d, n) := fun n => nm_ne' (ne_of_arr hfr a2)
  have a3_n : ∀ n, ¬ (d, n) = r3 := fun n => nm_ne (ne_of_arr hfr a3)
  have a3_d : ¬ r3.1 = d := ne_of_arr hfr a3
  have a3_m : ∀ n, ¬ r3 = (d, n) := fun n => nm_ne' (ne_of_arr hfr a3)
  simp (maxSteps := 4000000) [hd0, hfr, hout, hcl, hcd, delA_none, a1, a1_n, a1_d, a1_m, a2, a2_n, a2_d, a2_m, a3, a3_n, a3_d, a3_m, Try.f101]
  refine (impl_Disk_copied _ hl (by simp (maxSteps := 4000000) [hd0, hfr, hout, hcl, hcd, delA_none, a1, a1_n, a1_d, a1_m, a2, a2_n, a2_d, a2_m, a3, a3_n, a3_d, a3_m]) (by simp (maxSteps := 4000000) [hd0, hfr, hout, hcl, hcd, delA_none, a1, a1_n, a1_d, a1_m, a2, a2_n, a2_d, a2_m, a3, a3_n, a3_d, a3_m])).useCK ?_
  simp (maxSteps := 4000000) [hd0, hfr, hout, hcl, hcd, delA_none, a1, a1_n, a1_d, a1_m, a2, a2_n, a2_d, a2_m, a3, a3_n, a3_d, a3_m, DDisk.enc]
  refine LoopK.intro (fun m s => ∃ i : Nat, i + m = l.length ∧ s = ⟨[(4, .c (.pt (d, 4) [] 2 0 0)), (5, .c (.pt (d, 5) [] 2 0 0)), (11, .c (.sl r3 q3 3 0 l.length)), (12, I l.length), (13, I i)],
      ((d, 5), .own 2 [[.own 1 ((doF x.pages (l.take i)).map (encS 1 encU8)), .own 3 []]]) :: ((d, 4), .own 2 [[.own 1 [], .own 3 []]]) :: H, []⟩) (l.length + 1)
    (LK.intro l.length [4, 5, 11, 12, 13] [2] (by omega) (by decide) (by simp (maxSteps := 4000000) [hd0, hfr, hout, hcl, hcd, delA_none, a1, a1_n, a1_d, a1_m, a2, a2_n, a2_d, a2_m, a3, a3_n, a3_d, a3_m]) ⟨0, by simp [doF]⟩) ?_
  rintro m s ⟨i, him, rfl⟩
  by_cases hi' : i < l.length
  · have w1 : IntKind.i64.wrap ((i : Int) + 1) = i + 1 := w64 (by omega) (by omega)
    obtain ⟨v1, v2, v3, v4, v5⟩ := hw _ (List.getElem_mem hi')
    obtain ⟨pg, hpg⟩ := Int.eq_ofNat_of_zero_le v1
    obtain ⟨pt, hpt⟩ := Int.eq_ofNat_of_zero_le v3
    have hlen := doF_len (ps := x.pages) (l := l.take i)
    have h48' := doF_48 (l := l.take i) h48 (fun w hm => hw w (List.mem_of_mem_take hm))
    have hpl : pg < (doF x.pages (l.take i)).length := by omega
    have hp48 := h48' _ (List.getElem_mem hpl)
    have hsub := arrAt_sub a3 (i := i) (f := 2) (row := l[i].enc) (by simp [hi']) rfl
    have w2 : IntKind.i64.wrap (16 * (pt : Int)) = 16 * (pt : Int) := w64 (by omega) (by omega)
    obtain ⟨at_, hat⟩ : ∃ a : Nat, a = 16 * pt := ⟨_, rfl⟩
    have w3 : IntKind.i64.wrap (16 * (pt : Int)) = (at_ : Int) := by rw [w2]; omega
    have hnx := doF_take (ps := x.pages) hi'
    rw [hpg, hpt, Int.toNat_natCast, Int.toNat_natCast, doW, List.getD_eq_getElem?_getD, List.getElem?_eq_getElem hpl, Option.getD_some] at hnx
    simp (maxSteps := 4000000) [hd0, hfr, hout, hcl, hcd, delA_none, a1, a1_n, a1_d, a1_m, a2, a2_n, a2_d, a2_m, a3, a3_n, a3_d, a3_m, show (i : Int) < l.length by omega, hi', DLoose.enc, hpg, hpt]
    refine DrawK.intro 12 [4, 5, 11, 12, 13, 26, 28] rfl (by kernel_rfl) (by decide) ?_
    simp (maxSteps := 4000000) [hd0, hfr, hout, hcl, hcd, delA_none, a1, a1_n, a1_d, a1_m, a2, a2_n, a2_d, a2_m, a3, a3_n, a3_d, a3_m, w3, hi', DLoose.enc, hpg, hpt, hpl, encS, hp48, hsub]
    refine ⟨by omega, fun a _ c hc => by simp [encU8] at hc; subst hc; rfl, ?_⟩
    have htk : List.take (48 - at_) (List.map encU8 l[i].data).flatten = (List.map encU8 l[i].data).flatten := List.take_of_length_le (by rw [U8_flen]; omega)
    rw [htk]
    refine CopyTo_rows (rows := ((doF x.pages (l.take i))[pg]).map encU8) (by simp (maxSteps := 4000000) [hd0, hfr, hout, hcl, hcd, delA_none, a1, a1_n, a1_d, a1_m, a2, a2_n, a2_d, a2_m, a3, a3_n, a3_d, a3_m, hpl, encS]) U8_row U8_flat (by rw [U8_flen]; simp; omega) ?_
    rw [ov_rows2 (by omega) v5]
    rw [← hat] at hnx
    simp (maxSteps := 4000000) [hd0, hfr, hout, hcl, hcd, delA_none, a1, a1_n, a1_d, a1_m, a2, a2_n, a2_d, a2_m, a3, a3_n, a3_d, a3_m, hpl, encS, w1]
    refine LK.intro (m - 1) [4, 5, 11, 12, 13] [7] (by omega) (by decide) (by simp (maxSteps := 4000000) [hd0, hfr, hout, hcl, hcd, delA_none, a1, a1_n, a1_d, a1_m, a2, a2_n, a2_d, a2_m, a3, a3_n, a3_d, a3_m]) ⟨i + 1, by omega, by simp [hnx, encS]⟩
  · simp (maxSteps := 4000000) [hd0, hfr, hout, hcl, hcd, delA_none, a1, a1_n, a1_d, a1_m, a2, a2_n, a2_d, a2_m, a3, a3_n, a3_d, a3_m, show ¬ (i : Int) < l.length by omega, DDisk.enc, List.take_of_length_le (show l.length ≤ i by omega)]
end Go.Proofs.Ythejobdlfomcjaa

namespace Go.Proofs.Ythejobdlfomcjaa
open Go Go.Px Go.RowKit Go.Proofs
set_option linter.unnecessarySimpa false
set_option linter.unusedVariables false
set_option linter.unusedSimpArgs false
set_option maxRecDepth 100000
attribute [-simp] Int.not_le Int.not_lt
theorem spec_l2Sync (H : HH) {r1 q1 r2 q2} {x : DDisk} (hl : x.le 1048576) (h48 : ∀ p ∈ x.pages, p.length = 48) (hw : ∀ w ∈ x.loose, Wok x.pages.length w)
    (a1 : arrAt H r1 q1 = some (1, x.pages.map (encS 1 encU8))) (a2 : arrAt H r2 q2 = some (3, x.loose.map DLoose.enc)) :
    PFun Try.prog 98 [.a [.sl r1 q1 1 0 x.pages.length, .sl r2 q2 3 0 x.loose.length]] H (.a (DDisk.mk (doF x.pages x.loose) []).enc) := by
  have hl' := hl
  obtain ⟨⟨b1, b1p⟩, b2, b2p⟩ := hl'
  refine PFun.of [1, 2, 3, 4, 11] Try.func98 rfl (by simp [Try.f98]) ?_
  intro d hd0 hfr hcl hout
  have hcd : ∀ n q, CleanH (hit [((d, n), q)]) H := fun n q => hcl.at
  have a1_n : ∀ n, ¬ (d, n) = r1 := fun n => nm_ne (ne_of_arr hfr a1)
  have a1_d : ¬ r1.1 = d := ne_of_arr hfr a1
  have a1_m : ∀ n, ¬ r1 = (d, n) := fun n => nm_ne' (ne_of_arr hfr a1)
  have a2_n : ∀ n, ¬ (d, n) = r2 := fun n => nm_ne (ne_of_arr hfr a2)
  have a2_d : ¬ r2.1 = d := ne_of_arr hfr a2
  have a2_m : ∀ n, ¬ r2 = (d, n) := fun n => nm_ne' (ne_of_arr hfr a2)
  simp (maxSteps := 4000000) [hd0, hfr, hout, hcl, hcd, delA_none, a1, a1_n, a1_d, a1_m, a2, a2_n, a2_d, a2_m, Try.f98]
  refine (spec_l2Copy _ hl (by simp (maxSteps := 4000000) [hd0, hfr, hout, hcl, hcd, delA_none, a1, a1_n, a1_d, a1_m, a2, a2_n, a2_d, a2_m]) (by simp (maxSteps := 4000000) [hd0, hfr, hout, hcl, hcd, delA_none, a1, a1_n, a1_d, a1_m, a2, a2_n, a2_d, a2_m])).useCK ?_
  simp (maxSteps := 4000000) [hd0, hfr, hout, hcl, hcd, delA_none, a1, a1_n, a1_d, a1_m, a2, a2_n, a2_d, a2_m, DDisk.enc]
  refine LoopK.intro (fun m s => ∃ i : Nat, i + m = x.loose.length ∧ s = ⟨[(1, .c (.pt (d, 1) [] 2 0 0)), (2, .c (.pt (d, 2) [] 2 0 0)), (3, .c (.pt (d, 3) [] 2 0 0)), (4, I i)],
      ((d, 3), .own 2 [[.own 1 ((doF x.pages (x.loose.take i)).map (encS 1 encU8)), .own 3 (x.loose.map DLoose.enc)]]) :: ((d, 2), .own 2 [[.own 1 [], .own 3 []]]) :: ((d, 1), .own 2 [[.sl r1 q1 1 0 x.pages.length, .sl r2 q2 3 0 x.loose.length]]) :: H, []⟩) (x.loose.length + 1)
    (LK.intro x.loose.length [1, 2, 3, 4] [] (by omega) (by decide) (by simp (maxSteps := 4000000) [hd0, hfr, hout, hcl, hcd, delA_none, a1, a1_n, a1_d, a1_m, a2, a2_n, a2_d, a2_m]) ⟨0, by simp [doF]⟩) ?_
  rintro m s ⟨i, him, rfl⟩
  by_cases hi' : i < x.loose.length
  · have w1 : IntKind.i64.wrap ((i : Int) + 1) = i + 1 := w64 (by omega) (by omega)
    obtain ⟨v1, v2, v3, v4, v5⟩ := hw _ (List.getElem_mem hi')
    obtain ⟨pg, hpg⟩ := Int.eq_ofNat_of_zero_le v1
    obtain ⟨pt, hpt⟩ := Int.eq_ofNat_of_zero_le v3
    have hlen := doF_len (ps := x.pages) (l := x.loose.take i)
    have h48' := doF_48 (l := x.loose.take i) h48 (fun w hm => hw w (List.mem_of_mem_take hm))
    have hpl : pg < (doF x.pages (x.loose.take i)).length := by omega
    have hp48 := h48' _ (List.getElem_mem hpl)
    have hsub := arrAt_sub a2 (i := i) (f := 2) (row := x.loose[i].enc) (by simp [hi']) rfl
    have hnx := doF_take (ps := x.pages) hi'
    rw [hpg, hpt, Int.toNat_natCast, Int.toNat_natCast] at hnx
    simp (maxSteps := 4000000) [hd0, hfr, hout, hcl, hcd, delA_none, a1, a1_n, a1_d, a1_m, a2, a2_n, a2_d, a2_m, show (i : Int) < x.loose.length by omega, hi', DLoose.enc, hpg, hpt, v5]
    refine (spec_l2Do _ (r := (d, 3)) (q := []) (c1 := .own 3 (x.loose.map DLoose.enc)) (pages := doF x.pages (x.loose.take i)) (data := x.loose[i].data) (pg := pg) (pt := pt) (by omega) hpl hp48 (by omega) v5 (by simp (maxSteps := 4000000) [hd0, hfr, hout, hcl, hcd, delA_none, a1, a1_n, a1_d, a1_m, a2, a2_n, a2_d, a2_m]) (by simp (maxSteps := 4000000) [hd0, hfr, hout, hcl, hcd, delA_none, a1, a1_n, a1_d, a1_m, a2, a2_n, a2_d, a2_m, hsub]) (a2_n 3) hd0 (fun K => by rw [Clean_ownR]; simp)).useCK ?_
    simp (maxSteps := 4000000) [hd0, hfr, hout, hcl, hcd, delA_none, a1, a1_n, a1_d, a1_m, a2, a2_n, a2_d, a2_m, w1]
    refine LK.intro (m - 1) [1, 2, 3, 4] [] (by omega) (by decide) (by simp (maxSteps := 4000000) [hd0, hfr, hout, hcl, hcd, delA_none, a1, a1_n, a1_d, a1_m, a2, a2_n, a2_d, a2_m]) ⟨i + 1, by omega, by simp [hnx]⟩
  · simp (maxSteps := 4000000) [hd0, hfr, hout, hcl, hcd, delA_none, a1, a1_n, a1_d, a1_m, a2, a2_n, a2_d, a2_m, show ¬ (i : Int) < x.loose.length by omega, DDisk.enc, List.take_of_length_le (show x.loose.length ≤ i by omega)]
/-- a right disk -/
theorem looseF_ok {n : Nat} : ∀ {l : List DLoose}, looseF n l = 0 → ∀ w ∈ l, Wok n w
  | [], _, w, h => by simp at h
  | v :: l, hf, w, h => by
    unfold looseF at hf
    split at hf
    · simp at hf
    · rename_i h1
      split at hf
      · simp at hf
      · rename_i h2
        rcases List.mem_cons.1 h with rfl | h
        · simp [inR] at h1
          refine ⟨h1.1.1, ?_, h1.2.1, h1.2.2, by omega⟩
          have := h1.1.2
          omega
        · exact looseF_ok hf w h
theorem diskF_ok {x : DDisk} (h : diskF x = 0) : (∀ p ∈ x.pages, p.length = 48) ∧ (∀ w ∈ x.loose, Wok x.pages.length w) ∧ 1 ≤ x.pages.length ∧ x.pages.length ≤ 8 ∧ x.loose.length ≤ 60 := by
  unfold diskF at h
  split at h
  · simp at h
  · rename_i h1
    split at h
    · simp at h
    · rename_i h2
      simp only [not_or] at h1
      refine ⟨fun p hp => ?_, looseF_ok h, by omega, by omega, by omega⟩
      have := h1.2.2
      simp only [List.any_eq_true, decide_eq_true_eq, not_exists, not_and] at this
      exact Classical.not_not.1 (this p hp)
def syncF (x : DDisk) : DDiskResult := if diskF x ≠ 0 then ⟨diskF x, ⟨[], []⟩⟩ else ⟨0, ⟨doF x.pages x.loose, []⟩⟩
theorem spec_SyncDisk (H : HH) {r1 q1 r2 q2} {x : DDisk} (hl : x.le 1048576) (a1 : arrAt H r1 q1 = some (1, x.pages.map (encS 1 encU8))) (a2 : arrAt H r2 q2 = some (3, x.loose.map DLoose.enc)) :
    PFun Try.prog 20 [.a [.sl r1 q1 1 0 x.pages.length, .sl r2 q2 3 0 x.loose.length]] H (.a (syncF x).enc) := by
  refine PFun.of [1, 2, 3, 7] Try.func20 rfl (by simp [Try.f20]) ?_
  intro d hd0 hfr hcl hout
  have hcd : ∀ n q, CleanH (hit [((d, n), q)]) H := fun n q => hcl.at
  have a1_n : ∀ n, ¬ (d, n) = r1 := fun n => nm_ne (ne_of_arr hfr a1)
  have a1_d : ¬ r1.1 = d := ne_of_arr hfr a1
  have a1_m : ∀ n, ¬ r1 = (d, n) := fun n => nm_ne' (ne_of_arr hfr a1)
  have a2_n : ∀ n, ¬ (d, n) = r2 := fun n => nm_ne (ne_of_arr hfr a2)
  have a2_d : ¬ r2.1 = d := ne_of_arr hfr a2
  have a2_m : ∀ n, ¬ r2 = (d, n) := fun n => nm_ne' (ne_of_arr hfr a2)
  simp (maxSteps := 4000000) [hd0, hfr, hout, hcl, hcd, delA_none, a1, a1_n, a1_d, a1_m, a2, a2_n, a2_d, a2_m, Try.f20]
  refine (spec_DiskFault _ hl (by simp (maxSteps := 4000000) [hd0, hfr, hout, hcl, hcd, delA_none, a1, a1_n, a1_d, a1_m, a2, a2_n, a2_d, a2_m]) (by simp (maxSteps := 4000000) [hd0, hfr, hout, hcl, hcd, delA_none, a1, a1_n, a1_d, a1_m, a2, a2_n, a2_d, a2_m])).useCK ?_
  simp (maxSteps := 4000000) [hd0, hfr, hout, hcl, hcd, delA_none, a1, a1_n, a1_d, a1_m, a2, a2_n, a2_d, a2_m]
  by_cases h : diskF x = 0
  · obtain ⟨h48, hw, _⟩ := diskF_ok h
    simp (maxSteps := 4000000) [hd0, hfr, hout, hcl, hcd, delA_none, a1, a1_n, a1_d, a1_m, a2, a2_n, a2_d, a2_m, h]
    refine (spec_l2Sync _ hl h48 hw (by simp (maxSteps := 4000000) [hd0, hfr, hout, hcl, hcd, delA_none, a1, a1_n, a1_d, a1_m, a2, a2_n, a2_d, a2_m]) (by simp (maxSteps := 4000000) [hd0, hfr, hout, hcl, hcd, delA_none, a1, a1_n, a1_d, a1_m, a2, a2_n, a2_d, a2_m])).useCK ?_
    simp (maxSteps := 4000000) [hd0, hfr, hout, hcl, hcd, delA_none, a1, a1_n, a1_d, a1_m, a2, a2_n, a2_d, a2_m, DDisk.enc, syncF, DDiskResult.enc, h]
  · simp (maxSteps := 4000000) [hd0, hfr, hout, hcl, hcd, delA_none, a1, a1_n, a1_d, a1_m, a2, a2_n, a2_d, a2_m, h, syncF, DDiskResult.enc]
theorem impl_SyncDisk (H : HH) {r1 q1 r2 q2} {x : DDisk} (hl : x.le 1048576) (a1 : arrAt H r1 q1 = some (1, x.pages.map (encS 1 encU8))) (a2 : arrAt H r2 q2 = some (3, x.loose.map DLoose.enc)) :
    PFun Try.prog 22 [.a [.sl r1 q1 1 0 x.pages.length, .sl r2 q2 3 0 x.loose.length]] H (.a (syncF x).enc) := by
  refine PFun.of [1, 2, 3, 7] Try.func22 rfl (by simp [Try.f22]) ?_
  intro d hd0 hfr hcl hout
  have hcd : ∀ n q, CleanH (hit [((d, n), q)]) H := fun n q => hcl.at
  have a1_n : ∀ n, ¬ (d, n) = r1 := fun n => nm_ne (ne_of_arr hfr a1)
  have a1_d : ¬ r1.1 = d := ne_of_arr hfr a1
  have a1_m : ∀ n, ¬ r1 = (d, n) := fun n => nm_ne' (ne_of_arr hfr a1)
  have a2_n : ∀ n, ¬ (d, n) = r2 := fun n => nm_ne (ne_of_arr hfr a2)
  have a2_d : ¬ r2.1 = d := ne_of_arr hfr a2
  have a2_m : ∀ n, ¬ r2 = (d, n) := fun n => nm_ne' (ne_of_arr hfr a2)
  simp (maxSteps := 4000000) [hd0, hfr, hout, hcl, hcd, delA_none, a1, a1_n, a1_d, a1_m, a2, a2_n, a2_d, a2_m, Try.f22]
  refine (impl_DiskFault _ hl (by simp (maxSteps := 4000000) [hd0, hfr, hout, hcl, hcd, delA_none, a1, a1_n, a1_d, a1_m, a2, a2_n, a2_d, a2_m]) (by simp (maxSteps := 4000000) [hd0, hfr, hout, hcl, hcd, delA_none, a1, a1_n, a1_d, a1_m, a2, a2_n, a2_d, a2_m])).useCK ?_
  simp (maxSteps := 4000000) [hd0, hfr, hout, hcl, hcd, delA_none, a1, a1_n, a1_d, a1_m, a2, a2_n, a2_d, a2_m]
  by_cases h : diskF x = 0
  · obtain ⟨h48, hw, _⟩ := diskF_ok h
    simp (maxSteps := 4000000) [hd0, hfr, hout, hcl, hcd, delA_none, a1, a1_n, a1_d, a1_m, a2, a2_n, a2_d, a2_m, h]
    refine (impl_Disk_done _ hl hl.2.1 h48 hw (by simp (maxSteps := 4000000) [hd0, hfr, hout, hcl, hcd, delA_none, a1, a1_n, a1_d, a1_m, a2, a2_n, a2_d, a2_m]) (by simp (maxSteps := 4000000) [hd0, hfr, hout, hcl, hcd, delA_none, a1, a1_n, a1_d, a1_m, a2, a2_n, a2_d, a2_m]) (by simp (maxSteps := 4000000) [hd0, hfr, hout, hcl, hcd, delA_none, a1, a1_n, a1_d, a1_m, a2, a2_n, a2_d, a2_m])).useCK ?_
    simp (maxSteps := 4000000) [hd0, hfr, hout, hcl, hcd, delA_none, a1, a1_n, a1_d, a1_m, a2, a2_n, a2_d, a2_m, DDisk.enc, syncF, DDiskResult.enc, h]
  · simp (maxSteps := 4000000) [hd0, hfr, hout, hcl, hcd, delA_none, a1, a1_n, a1_d, a1_m, a2, a2_n, a2_d, a2_m, h, syncF, DDiskResult.enc]
end Go.Proofs.Ythejobdlfomcjaa

namespace Go.Proofs.Ythejobdlfomcjaa
open Go Go.Px Go.RowKit Go.Proofs
set_option linter.unnecessarySimpa false
set_option linter.unusedVariables false
set_option linter.unusedSimpArgs false
set_option maxRecDepth 100000
attribute [-simp] Int.not_le Int.not_lt
theorem clone_seg (H : HH) {r q i n} {l : List Int} (hb : l.length ≤ 1048576) (hn : i + n ≤ l.length) (ha : arrAt H r q = some (1, l.map encU8)) : PFun Try.prog 126 [.c (.sl r q 1 i n)] H (.c (.own 1 (((l.drop i).take n).map encU8))) := by
  refine PFun.of [0, 2, 4] Try.func126 rfl (by simp [Try.f126]) ?_
  intro d hd0 hfr hcl hout
  have hcd : ∀ n q, CleanH (hit [((d, n), q)]) H := fun n q => hcl.at
  have ha_n : ∀ n, ¬ (d, n) = r := fun n => nm_ne (ne_of_arr hfr ha)
  have ha_d : ¬ r.1 = d := ne_of_arr hfr ha
  have ha_m : ∀ n, ¬ r = (d, n) := fun n => nm_ne' (ne_of_arr hfr ha)
  simp (maxSteps := 4000000) [hd0, hfr, hout, hcl, hcd, delA_none, ha, ha_n, ha_d, ha_m, Try.f126]
  have hno : ∀ row ∈ List.take n (List.drop i (l.map encU8)), ∀ c ∈ row, isOwn c = false := fun row hr c hc => U8_no row (List.mem_of_mem_drop (List.mem_of_mem_take hr)) c hc
  refine ⟨⟨hno, by omega⟩, ?_⟩
  intro h
  subst h
  simp
def newL (id : Int) (data : List Int) (k : Nat) : List DLoose := (List.range k).map fun p => ⟨id, (p : Nat), (data.drop (16 * p)).take 16⟩
theorem newL_succ {id data k} : newL id data (k + 1) = newL id data k ++ [⟨id, (k : Nat), (data.drop (16 * k)).take 16⟩] := by simp [newL, List.range_succ]
def placeF (x : DDisk) (id : Int) (data : List Int) : DDiskResult :=
  if diskF x ≠ 0 then ⟨diskF x, ⟨[], []⟩⟩ else if inR id 0 (x.pages.length - 1) = false then ⟨3, ⟨[], []⟩⟩ else if data.length ≠ 48 then ⟨1, ⟨[], []⟩⟩ else if x.loose.length + 3 > 60 then ⟨2, ⟨[], []⟩⟩ else ⟨0, ⟨x.pages, x.loose ++ newL id data 3⟩⟩
theorem impl_PlaceDisk (H : HH) {r1 q1 r2 q2 r3 q3} {x : DDisk} {id : Int} {data : List Int} (hl : x.le 1048576) (hdl : data.length ≤ 1048576) (a1 : arrAt H r1 q1 = some (1, x.pages.map (encS 1 encU8))) (a2 : arrAt H r2 q2 = some (3, x.loose.map DLoose.enc)) (a3 : arrAt H r3 q3 = some (1, data.map encU8)) :
    PFun Try.prog 47 [.a [.sl r1 q1 1 0 x.pages.length, .sl r2 q2 3 0 x.loose.length], I id, .c (.sl r3 q3 1 0 data.length)] H (.a (placeF x id data).enc) := by
  have hl' := hl
  obtain ⟨⟨b1, b1p⟩, b2, b2p⟩ := hl'
  refine PFun.of [1, 2, 3, 6, 7, 8, 9, 12, 15, 20, 24, 31, 36, 37] Try.func47 rfl (by simp [Try.f47]) ?_
  intro d hd0 hfr hcl hout
  have hcd : ∀ n q, CleanH (hit [((d, n), q)]) H := fun n q => hcl.at
  have a1_n : ∀ n, ¬ (d, n) = r1 := fun n => nm_ne (ne_of_arr hfr a1)
  have a1_d : ¬ r1.1 = d := ne_of_arr hfr a1
  have a1_m : ∀ n, ¬ r1 = (d, n) := fun n => nm_ne' (ne_of_arr hfr a1)
  have a2_n : ∀ n, ¬ (d, n) = r2 := fun n => nm_ne (ne_of_arr hfr a2)
  have a2_d : ¬ r2.1 = d := ne_of_arr hfr a2
  have a2_m : ∀ n, ¬ r2 = (d, n) := fun n => nm_ne' (ne_of_arr hfr a2)
  have a3_n : ∀ n, ¬ (d, n) = r3 := fun n => nm_ne (ne_of_arr hfr a3)
  have a3_d : ¬ r3.1 = d := ne_of_arr hfr a3
  have a3_m : ∀ n, ¬ r3 = (d, n) := fun n => nm_ne' (ne_of_arr hfr a3)
  simp (maxSteps := 4000000) [hd0, hfr, hout, hcl, hcd, delA_none, a1, a1_n, a1_d, a1_m, a2, a2_n, a2_d, a2_m, a3, a3_n, a3_d, a3_m, Try.f47]
  refine (impl_DiskFault _ hl (by simp (maxSteps := 4000000) [hd0, hfr, hout, hcl, hcd, delA_none, a1, a1_n, a1_d, a1_m, a2, a2_n, a2_d, a2_m, a3, a3_n, a3_d, a3_m]) (by simp (maxSteps := 4000000) [hd0, hfr, hout, hcl, hcd, delA_none, a1, a1_n, a1_d, a1_m, a2, a2_n, a2_d, a2_m, a3, a3_n, a3_d, a3_m])).useCK ?_
  simp (maxSteps := 4000000) [hd0, hfr, hout, hcl, hcd, delA_none, a1, a1_n, a1_d, a1_m, a2, a2_n, a2_d, a2_m, a3, a3_n, a3_d, a3_m]
  by_cases h0 : diskF x = 0
  case neg => simp (maxSteps := 4000000) [hd0, hfr, hout, hcl, hcd, delA_none, a1, a1_n, a1_d, a1_m, a2, a2_n, a2_d, a2_m, a3, a3_n, a3_d, a3_m, h0, placeF, DDiskResult.enc]
  simp (maxSteps := 4000000) [hd0, hfr, hout, hcl, hcd, delA_none, a1, a1_n, a1_d, a1_m, a2, a2_n, a2_d, a2_m, a3, a3_n, a3_d, a3_m, h0]
  refine (impl_Disk_hasPage _ b1).useCK ?_
  simp (maxSteps := 4000000) [hd0, hfr, hout, hcl, hcd, delA_none, a1, a1_n, a1_d, a1_m, a2, a2_n, a2_d, a2_m, a3, a3_n, a3_d, a3_m]
  by_cases h1 : inR id 0 (x.pages.length - 1) = true
  case neg =>
    simp only [Bool.not_eq_true] at h1
    simp (maxSteps := 4000000) [hd0, hfr, hout, hcl, hcd, delA_none, a1, a1_n, a1_d, a1_m, a2, a2_n, a2_d, a2_m, a3, a3_n, a3_d, a3_m, h0, h1, placeF, DDiskResult.enc]
  rw [h1]
  by_cases h2 : data.length = 48
  case neg => simp (maxSteps := 4000000) [hd0, hfr, hout, hcl, hcd, delA_none, a1, a1_n, a1_d, a1_m, a2, a2_n, a2_d, a2_m, a3, a3_n, a3_d, a3_m, show ¬ (data.length : Int) = 48 by omega, h0, h1, h2, placeF, DDiskResult.enc]
  have w0 : IntKind.i64.wrap ((x.loose.length : Int) + 3) = x.loose.length + 3 := w64 (by omega) (by omega)
  by_cases h3 : x.loose.length + 3 > 60
  case pos => simp (maxSteps := 4000000) [hd0, hfr, hout, hcl, hcd, delA_none, a1, a1_n, a1_d, a1_m, a2, a2_n, a2_d, a2_m, a3, a3_n, a3_d, a3_m, show (data.length : Int) = 48 by omega, w0, show 60 < (x.loose.length : Int) + 3 by omega, h0, h1, h2, h3, placeF, DDiskResult.enc]
  simp (maxSteps := 4000000) [hd0, hfr, hout, hcl, hcd, delA_none, a1, a1_n, a1_d, a1_m, a2, a2_n, a2_d, a2_m, a3, a3_n, a3_d, a3_m, h2, w0, show ¬ 60 < (x.loose.length : Int) + 3 by omega]
  refine (impl_Disk_copied _ hl (by simp (maxSteps := 4000000) [hd0, hfr, hout, hcl, hcd, delA_none, a1, a1_n, a1_d, a1_m, a2, a2_n, a2_d, a2_m, a3, a3_n, a3_d, a3_m]) (by simp (maxSteps := 4000000) [hd0, hfr, hout, hcl, hcd, delA_none, a1, a1_n, a1_d, a1_m, a2, a2_n, a2_d, a2_m, a3, a3_n, a3_d, a3_m])).useCK ?_
  have hp : placeF x id data = ⟨0, ⟨x.pages, x.loose ++ newL id data 3⟩⟩ := by simp only [placeF, h0, h1, h2]; simp; omega
  rw [hp]
  clear hp
  simp (maxSteps := 4000000) [hd0, hfr, hout, hcl, hcd, delA_none, a1, a1_n, a1_d, a1_m, a2, a2_n, a2_d, a2_m, a3, a3_n, a3_d, a3_m, DDisk.enc]
  refine LoopK.intro (fun m s => ∃ k : Nat, k + m = 3 ∧ s = ⟨[(1, I id), (2, .c (.sl r3 q3 1 0 48)), (6, .c (.pt (d, 6) [] 3 0 0)), (8, .c (.pt (d, 8) [] 2 0 0)), (36, I k)],
      ((d, 8), .own 2 [[.own 1 (x.pages.map (encS 1 encU8)), .own 3 ((x.loose ++ newL id data k).map DLoose.enc)]]) :: ((d, 6), .own 3 [[.v (.int .i64 0), .own 1 [], .own 3 []]]) :: H, []⟩) (3 + 1)
    (LK.intro 3 [1, 2, 6, 8, 36] [3] (by omega) (by decide) (by simp (maxSteps := 4000000) [hd0, hfr, hout, hcl, hcd, delA_none, a1, a1_n, a1_d, a1_m, a2, a2_n, a2_d, a2_m, a3, a3_n, a3_d, a3_m]) ⟨0, by simp [newL]⟩) ?_
  rintro m s ⟨k, hkm, rfl⟩
  by_cases hk : k < 3
  · have w1 : IntKind.i64.wrap ((k : Int) + 1) = k + 1 := w64 (by omega) (by omega)
    obtain ⟨a, ha⟩ : ∃ a : Nat, a = 16 * k := ⟨_, rfl⟩
    obtain ⟨b, hb⟩ : ∃ b : Nat, b = a + 16 := ⟨_, rfl⟩
    have w2 : IntKind.i64.wrap (16 * (k : Int)) = (a : Int) := by rw [w64 (by omega) (by omega)]; omega
    have w3 : IntKind.i64.wrap (16 * ((k : Int) + 1)) = (b : Int) := by rw [w64 (by omega) (by omega)]; omega
    have hnx := newL_succ (id := id) (data := data) (k := k)
    rw [← ha] at hnx
    have hll : (newL id data k).length = k := by simp [newL]
    simp (maxSteps := 4000000) [hd0, hfr, hout, hcl, hcd, delA_none, a1, a1_n, a1_d, a1_m, a2, a2_n, a2_d, a2_m, a3, a3_n, a3_d, a3_m, show (k : Int) < 3 by omega]
    refine DrawK.intro 14 [1, 2, 6, 8, 36, 40, 52] rfl (by kernel_rfl) (by decide) ?_
    simp (maxSteps := 4000000) [hd0, hfr, hout, hcl, hcd, delA_none, a1, a1_n, a1_d, a1_m, a2, a2_n, a2_d, a2_m, a3, a3_n, a3_d, a3_m, w1, w2, w3]
    refine ⟨by omega, _, clone_seg _ hdl (by omega) (by simp (maxSteps := 4000000) [hd0, hfr, hout, hcl, hcd, delA_none, a1, a1_n, a1_d, a1_m, a2, a2_n, a2_d, a2_m, a3, a3_n, a3_d, a3_m]), ?_⟩
    rw [show b - a = 16 by omega]
    simp (maxSteps := 4000000) [hd0, hfr, hout, hcl, hcd, delA_none, a1, a1_n, a1_d, a1_m, a2, a2_n, a2_d, a2_m, a3, a3_n, a3_d, a3_m, hll, hnx]
    refine ⟨by kernel_rfl, by kernel_rfl, by omega, ?_⟩
    refine LK.intro (m - 1) [1, 2, 6, 8, 36] [] (by omega) (by decide) (by simp (maxSteps := 4000000) [hd0, hfr, hout, hcl, hcd, delA_none, a1, a1_n, a1_d, a1_m, a2, a2_n, a2_d, a2_m, a3, a3_n, a3_d, a3_m]) ⟨k + 1, by omega, by simp [hnx, DLoose.enc, w1]⟩
  · have : k = 3 := by omega
    subst this
    simp (maxSteps := 4000000) [hd0, hfr, hout, hcl, hcd, delA_none, a1, a1_n, a1_d, a1_m, a2, a2_n, a2_d, a2_m, a3, a3_n, a3_d, a3_m, DDiskResult.enc]
theorem spec_l2Page (H : HH) {r q c1 n v} {rows : List (List Cell)} (hn : n = rows.length) (hb : n ≤ 1048576) (ha : arrAt H r q = some (2, [[.own 1 rows, c1]])) : PFun Try.prog 122 [.c (.pt r q 2 0 0), I v] H (B (inR v 0 (n - 1))) := by
  subst hn
  refine PFun.of [0, 1, 4] Try.func122 rfl (by simp [Try.f122]) ?_
  intro d hd0 hfr hcl hout
  have hcd : ∀ n q, CleanH (hit [((d, n), q)]) H := fun n q => hcl.at
  have ha_n : ∀ n, ¬ (d, n) = r := fun n => nm_ne (ne_of_arr hfr ha)
  have ha_d : ¬ r.1 = d := ne_of_arr hfr ha
  have ha_m : ∀ n, ¬ r = (d, n) := fun n => nm_ne' (ne_of_arr hfr ha)
  simp (maxSteps := 4000000) [hd0, hfr, hout, hcl, hcd, delA_none, ha, ha_n, ha_d, ha_m, Try.f122]
  have w1 : IntKind.i64.wrap ((rows.length : Int) - 1) = rows.length - 1 := w64 (by omega) (by omega)
  simp (maxSteps := 4000000) [hd0, hfr, hout, hcl, hcd, delA_none, ha, ha_n, ha_d, ha_m, w1]
  refine (spec_l1In _ _ _ _).useCK ?_
  simp (maxSteps := 4000000) [hd0, hfr, hout, hcl, hcd, delA_none, ha, ha_n, ha_d, ha_m]
theorem spec_l2Page2 (H : HH) {r q r1 q1 c1 n v} (hb : n ≤ 1048576) (ha : arrAt H r q = some (2, [[.sl r1 q1 1 0 n, c1]])) : PFun Try.prog 122 [.c (.pt r q 2 0 0), I v] H (B (inR v 0 (n - 1))) := by
  refine PFun.of [0, 1, 4] Try.func122 rfl (by simp [Try.f122]) ?_
  intro d hd0 hfr hcl hout
  have hcd : ∀ n q, CleanH (hit [((d, n), q)]) H := fun n q => hcl.at
  have ha_n : ∀ n, ¬ (d, n) = r := fun n => nm_ne (ne_of_arr hfr ha)
  have ha_d : ¬ r.1 = d := ne_of_arr hfr ha
  have ha_m : ∀ n, ¬ r = (d, n) := fun n => nm_ne' (ne_of_arr hfr ha)
  simp (maxSteps := 4000000) [hd0, hfr, hout, hcl, hcd, delA_none, ha, ha_n, ha_d, ha_m, Try.f122]
  have w1 : IntKind.i64.wrap ((n : Int) - 1) = n - 1 := w64 (by omega) (by omega)
  simp (maxSteps := 4000000) [hd0, hfr, hout, hcl, hcd, delA_none, ha, ha_n, ha_d, ha_m, w1]
  refine (spec_l1In _ _ _ _).useCK ?_
  simp (maxSteps := 4000000) [hd0, hfr, hout, hcl, hcd, delA_none, ha, ha_n, ha_d, ha_m]
theorem spec_l2Place (H : HH) {r1 q1 r2 q2 r3 q3} {x : DDisk} {id : Int} {data : List Int} (hl : x.le 1048576) (h48 : data.length = 48) (a1 : arrAt H r1 q1 = some (1, x.pages.map (encS 1 encU8))) (a2 : arrAt H r2 q2 = some (3, x.loose.map DLoose.enc)) (a3 : arrAt H r3 q3 = some (1, data.map encU8)) :
    PFun Try.prog 123 [.a [.sl r1 q1 1 0 x.pages.length, .sl r2 q2 3 0 x.loose.length], I id, .c (.sl r3 q3 1 0 48)] H (if x.loose.length + 3 > 60 then .t [.a [.sl r1 q1 1 0 x.pages.length, .sl r2 q2 3 0 x.loose.length], I 2] else .t [.a (DDisk.mk x.pages (x.loose ++ newL id data 3)).enc, I 0]) := by
  have hl' := hl
  obtain ⟨⟨b1, b1p⟩, b2, b2p⟩ := hl'
  have w0 : IntKind.i64.wrap ((x.loose.length : Int) + 3) = x.loose.length + 3 := w64 (by omega) (by omega)
  by_cases h3 : x.loose.length + 3 > 60
  · rw [if_pos h3]
    refine PFun.of [1, 2, 3, 6, 7, 8, 9, 14, 19] Try.func123 rfl (by simp [Try.f123]) ?_
    intro d hd0 hfr hcl hout
    have hcd : ∀ n q, CleanH (hit [((d, n), q)]) H := fun n q => hcl.at
    have a1_n : ∀ n, ¬ (d, n) = r1 := fun n => nm_ne (ne_of_arr hfr a1)
    have a1_d : ¬ r1.1 = d := ne_of_arr hfr a1
    have a1_m : ∀ n, ¬ r1 = (d, n) := fun n => nm_ne' (ne_of_arr hfr a1)
    have a2_n : ∀ n, ¬ (d, n) = r2 := fun n => nm_ne (ne_of_arr hfr a2)
    have a2_d : ¬ r2.1 = d := ne_of_arr hfr a2
    have a2_m : ∀ n, ¬ r2 = (d, n) := fun n => nm_ne' (ne_of_arr hfr a2)
    have a3_n : ∀ n, ¬ (d, n) = r3 := fun n => nm_ne (ne_of_arr hfr a3)
    have a3_d : ¬ r3.1 = d := ne_of_arr hfr a3
    have a3_m : ∀ n, ¬ r3 = (d, n) := fun n => nm_ne' (ne_of_arr hfr a3)
    simp (maxSteps := 4000000) [hd0, hfr, hout, hcl, hcd, delA_none, a1, a1_n, a1_d, a1_m, a2, a2_n, a2_d, a2_m, a3, a3_n, a3_d, a3_m, Try.f123, w0, show 60 < (x.loose.length : Int) + 3 by omega]
  rw [if_neg h3]
  refine PFun.of [1, 2, 3, 6, 7, 8, 9, 14, 19] Try.func123 rfl (by simp [Try.f123]) ?_
  intro d hd0 hfr hcl hout
  have hcd : ∀ n q, CleanH (hit [((d, n), q)]) H := fun n q => hcl.at
  have a1_n : ∀ n, ¬ (d, n) = r1 := fun n => nm_ne (ne_of_arr hfr a1)
  have a1_d : ¬ r1.1 = d := ne_of_arr hfr a1
  have a1_m : ∀ n, ¬ r1 = (d, n) := fun n => nm_ne' (ne_of_arr hfr a1)
  have a2_n : ∀ n, ¬ (d, n) = r2 := fun n => nm_ne (ne_of_arr hfr a2)
  have a2_d : ¬ r2.1 = d := ne_of_arr hfr a2
  have a2_m : ∀ n, ¬ r2 = (d, n) := fun n => nm_ne' (ne_of_arr hfr a2)
  have a3_n : ∀ n, ¬ (d, n) = r3 := fun n => nm_ne (ne_of_arr hfr a3)
  have a3_d : ¬ r3.1 = d := ne_of_arr hfr a3
  have a3_m : ∀ n, ¬ r3 = (d, n) := fun n => nm_ne' (ne_of_arr hfr a3)
  simp (maxSteps := 4000000) [hd0, hfr, hout, hcl, hcd, delA_none, a1, a1_n, a1_d, a1_m, a2, a2_n, a2_d, a2_m, a3, a3_n, a3_d, a3_m, Try.f123, w0, show ¬ 60 < (x.loose.length : Int) + 3 by omega]
  refine (spec_l2Copy _ hl (by simp (maxSteps := 4000000) [hd0, hfr, hout, hcl, hcd, delA_none, a1, a1_n, a1_d, a1_m, a2, a2_n, a2_d, a2_m, a3, a3_n, a3_d, a3_m]) (by simp (maxSteps := 4000000) [hd0, hfr, hout, hcl, hcd, delA_none, a1, a1_n, a1_d, a1_m, a2, a2_n, a2_d, a2_m, a3, a3_n, a3_d, a3_m])).useCK ?_
  simp (maxSteps := 4000000) [hd0, hfr, hout, hcl, hcd, delA_none, a1, a1_n, a1_d, a1_m, a2, a2_n, a2_d, a2_m, a3, a3_n, a3_d, a3_m, DDisk.enc]
  refine LoopK.intro (fun m s => ∃ k : Nat, k + m = 3 ∧ s = ⟨[(1, I id), (2, .c (.sl r3 q3 1 0 48)), (6, .c (.pt (d, 6) [] 2 0 0)), (8, .c (.pt (d, 8) [] 2 0 0)), (9, I k)],
      ((d, 8), .own 2 [[.own 1 (x.pages.map (encS 1 encU8)), .own 3 ((x.loose ++ newL id data k).map DLoose.enc)]]) :: ((d, 6), .own 2 [[.own 1 [], .own 3 []]]) :: H, []⟩) (3 + 1)
    (LK.intro 3 [1, 2, 6, 8, 9] [3] (by omega) (by decide) (by simp (maxSteps := 4000000) [hd0, hfr, hout, hcl, hcd, delA_none, a1, a1_n, a1_d, a1_m, a2, a2_n, a2_d, a2_m, a3, a3_n, a3_d, a3_m]) ⟨0, by simp [newL]⟩) ?_
  rintro m s ⟨k, hkm, rfl⟩
  by_cases hk : k < 3
  · have w1 : IntKind.i64.wrap ((k : Int) + 1) = k + 1 := w64 (by omega) (by omega)
    obtain ⟨a, ha⟩ : ∃ a : Nat, a = 16 * k := ⟨_, rfl⟩
    obtain ⟨b, hb⟩ : ∃ b : Nat, b = a + 16 := ⟨_, rfl⟩
    have w2 : IntKind.i64.wrap ((k : Int) * 16) = (a : Int) := by rw [w64 (by omega) (by omega)]; omega
    have w3 : IntKind.i64.wrap (((k : Int) + 1) * 16) = (b : Int) := by rw [w64 (by omega) (by omega)]; omega
    have hnx := newL_succ (id := id) (data := data) (k := k)
    rw [← ha] at hnx
    have hll : (newL id data k).length = k := by simp [newL]
    have hseg : List.take (b - a) (List.drop a (data.map encU8)) = ((data.drop a).take 16).map encU8 := by rw [show b - a = 16 by omega]; simp
    have hno : ∀ row ∈ List.take 16 (List.drop a (data.map encU8)), ∀ c ∈ row, isOwn c = false := fun row hr c hc => U8_no row (List.mem_of_mem_drop (List.mem_of_mem_take hr)) c hc
    simp (maxSteps := 4000000) [hd0, hfr, hout, hcl, hcd, delA_none, a1, a1_n, a1_d, a1_m, a2, a2_n, a2_d, a2_m, a3, a3_n, a3_d, a3_m, show (k : Int) < 3 by omega]
    refine DrawK.intro 15 [1, 2, 6, 8, 9, 23, 36] rfl (by kernel_rfl) (by decide) ?_
    simp (maxSteps := 4000000) [hd0, hfr, hout, hcl, hcd, delA_none, a1, a1_n, a1_d, a1_m, a2, a2_n, a2_d, a2_m, a3, a3_n, a3_d, a3_m, w1, w2, w3, hseg, hll, hnx]
    refine ⟨⟨by omega, by omega⟩, by kernel_rfl, hno, ?_⟩
    repeat (first | (refine And.intro (by kernel_rfl) ?_) | (refine And.intro (by omega) ?_))
    refine LK.intro (m - 1) [1, 2, 6, 8, 9] [] (by omega) (by decide) (by simp (maxSteps := 4000000) [hd0, hfr, hout, hcl, hcd, delA_none, a1, a1_n, a1_d, a1_m, a2, a2_n, a2_d, a2_m, a3, a3_n, a3_d, a3_m]) ⟨k + 1, by omega, by simp [hnx, DLoose.enc, w1]⟩
  · have : k = 3 := by omega
    subst this
    simp (maxSteps := 4000000) [hd0, hfr, hout, hcl, hcd, delA_none, a1, a1_n, a1_d, a1_m, a2, a2_n, a2_d, a2_m, a3, a3_n, a3_d, a3_m]
theorem placeF_le {x : DDisk} {id : Int} {data : List Int} (hl : x.le 1048576) (hd : data.length ≤ 1048576) : (placeF x id data).le 1048576 := by
  unfold placeF
  repeat' split
  all_goals simp only [DDiskResult.le, DDisk.le, List.length_nil, List.not_mem_nil, false_implies, implies_true, and_true, Nat.zero_le]
  obtain ⟨⟨b1, b1p⟩, b2, b2p⟩ := hl
  refine ⟨⟨b1, b1p⟩, by simp [newL]; omega, fun l hm => ?_⟩
  rcases List.mem_append.1 hm with hm | hm
  · exact b2p l hm
  · obtain ⟨p, _, rfl⟩ := List.mem_map.1 hm
    simp [DLoose.le]; omega
theorem spec_PlaceDisk (H : HH) {r1 q1 r2 q2 r3 q3} {x : DDisk} {id : Int} {data : List Int} (hl : x.le 1048576) (hdl : data.length ≤ 1048576) (a1 : arrAt H r1 q1 = some (1, x.pages.map (encS 1 encU8))) (a2 : arrAt H r2 q2 = some (3, x.loose.map DLoose.enc)) (a3 : arrAt H r3 q3 = some (1, data.map encU8)) :
    PFun Try.prog 45 [.a [.sl r1 q1 1 0 x.pages.length, .sl r2 q2 3 0 x.loose.length], I id, .c (.sl r3 q3 1 0 data.length)] H (.a (placeF x id data).enc) := by
  have hl' := hl
  obtain ⟨⟨b1, b1p⟩, b2, b2p⟩ := hl'
  refine PFun.of [1, 2, 3, 6, 7, 8, 9, 13, 18, 22, 32] Try.func45 rfl (by simp [Try.f45]) ?_
  intro d hd0 hfr hcl hout
  have hcd : ∀ n q, CleanH (hit [((d, n), q)]) H := fun n q => hcl.at
  have a1_n : ∀ n, ¬ (d, n) = r1 := fun n => nm_ne (ne_of_arr hfr a1)
  have a1_d : ¬ r1.1 = d := ne_of_arr hfr a1
  have a1_m : ∀ n, ¬ r1 = (d, n) := fun n => nm_ne' (ne_of_arr hfr a1)
  have a2_n : ∀ n, ¬ (d, n) = r2 := fun n => nm_ne (ne_of_arr hfr a2)
  have a2_d : ¬ r2.1 = d := ne_of_arr hfr a2
  have a2_m : ∀ n, ¬ r2 = (d, n) := fun n => nm_ne' (ne_of_arr hfr a2)
  have a3_n : ∀ n, ¬ (d, n) = r3 := fun n => nm_ne (ne_of_arr hfr a3)
  have a3_d : ¬ r3.1 = d := ne_of_arr hfr a3
  have a3_m : ∀ n, ¬ r3 = (d, n) := fun n => nm_ne' (ne_of_arr hfr a3)
  simp (maxSteps := 4000000) [hd0, hfr, hout, hcl, hcd, delA_none, a1, a1_n, a1_d, a1_m, a2, a2_n, a2_d, a2_m, a3, a3_n, a3_d, a3_m, Try.f45]
  refine (spec_DiskFault _ hl (by simp (maxSteps := 4000000) [hd0, hfr, hout, hcl, hcd, delA_none, a1, a1_n, a1_d, a1_m, a2, a2_n, a2_d, a2_m, a3, a3_n, a3_d, a3_m]) (by simp (maxSteps := 4000000) [hd0, hfr, hout, hcl, hcd, delA_none, a1, a1_n, a1_d, a1_m, a2, a2_n, a2_d, a2_m, a3, a3_n, a3_d, a3_m])).useCK ?_
  simp (maxSteps := 4000000) [hd0, hfr, hout, hcl, hcd, delA_none, a1, a1_n, a1_d, a1_m, a2, a2_n, a2_d, a2_m, a3, a3_n, a3_d, a3_m]
  by_cases h0 : diskF x = 0
  case neg => simp (maxSteps := 4000000) [hd0, hfr, hout, hcl, hcd, delA_none, a1, a1_n, a1_d, a1_m, a2, a2_n, a2_d, a2_m, a3, a3_n, a3_d, a3_m, h0, placeF, DDiskResult.enc]
  simp (maxSteps := 4000000) [hd0, hfr, hout, hcl, hcd, delA_none, a1, a1_n, a1_d, a1_m, a2, a2_n, a2_d, a2_m, a3, a3_n, a3_d, a3_m, h0]
  refine (spec_l2Page2 _ (r1 := r1) (q1 := q1) (c1 := .sl r2 q2 3 0 x.loose.length) b1 (by simp (maxSteps := 4000000) [hd0, hfr, hout, hcl, hcd, delA_none, a1, a1_n, a1_d, a1_m, a2, a2_n, a2_d, a2_m, a3, a3_n, a3_d, a3_m])).useCK ?_
  simp (maxSteps := 4000000) [hd0, hfr, hout, hcl, hcd, delA_none, a1, a1_n, a1_d, a1_m, a2, a2_n, a2_d, a2_m, a3, a3_n, a3_d, a3_m]
  by_cases h1 : inR id 0 (x.pages.length - 1) = true
  case neg =>
    simp only [Bool.not_eq_true] at h1
    simp (maxSteps := 4000000) [hd0, hfr, hout, hcl, hcd, delA_none, a1, a1_n, a1_d, a1_m, a2, a2_n, a2_d, a2_m, a3, a3_n, a3_d, a3_m, h0, h1, placeF, DDiskResult.enc]
  rw [h1]
  by_cases h2 : data.length = 48
  case neg => simp (maxSteps := 4000000) [hd0, hfr, hout, hcl, hcd, delA_none, a1, a1_n, a1_d, a1_m, a2, a2_n, a2_d, a2_m, a3, a3_n, a3_d, a3_m, show ¬ (data.length : Int) = 48 by omega, h0, h1, h2, placeF, DDiskResult.enc]
  simp (maxSteps := 4000000) [hd0, hfr, hout, hcl, hcd, delA_none, a1, a1_n, a1_d, a1_m, a2, a2_n, a2_d, a2_m, a3, a3_n, a3_d, a3_m, h2]
  refine (spec_l2Place _ (id := id) hl h2 (by simp (maxSteps := 4000000) [hd0, hfr, hout, hcl, hcd, delA_none, a1, a1_n, a1_d, a1_m, a2, a2_n, a2_d, a2_m, a3, a3_n, a3_d, a3_m]) (by simp (maxSteps := 4000000) [hd0, hfr, hout, hcl, hcd, delA_none, a1, a1_n, a1_d, a1_m, a2, a2_n, a2_d, a2_m, a3, a3_n, a3_d, a3_m]) (by simp (maxSteps := 4000000) [hd0, hfr, hout, hcl, hcd, delA_none, a1, a1_n, a1_d, a1_m, a2, a2_n, a2_d, a2_m, a3, a3_n, a3_d, a3_m])).useCK ?_
  by_cases h3 : x.loose.length + 3 > 60
  · rw [if_pos h3]
    simp (maxSteps := 4000000) [hd0, hfr, hout, hcl, hcd, delA_none, a1, a1_n, a1_d, a1_m, a2, a2_n, a2_d, a2_m, a3, a3_n, a3_d, a3_m, h0, h1, h2, h3, placeF, DDiskResult.enc]
  · rw [if_neg h3]
    simp (maxSteps := 4000000) [hd0, hfr, hout, hcl, hcd, delA_none, a1, a1_n, a1_d, a1_m, a2, a2_n, a2_d, a2_m, a3, a3_n, a3_d, a3_m, h0, h1, h2, h3, placeF, DDiskResult.enc, DDisk.enc]
end Go.Proofs.Ythejobdlfomcjaa

namespace Go.Px
open Go.RowKit
set_option linter.unusedVariables false
set_option linter.unusedSimpArgs false
set_option linter.constructorNameAsVariable false
/-- what is owned in hand gets a name of its own -/
def refsD (d : Nat) : Nat → List Cell → List Cell
  | _, [] => []
  | k, .own z els :: t => .sl (d, k) [] z 0 els.length :: refsD d (k + 1) t
  | k, c :: t => c :: refsD d (k + 1) t
def rootsD (d : Nat) : Nat → List Cell → HH
  | _, [] => []
  | k, .own z els :: t => ((d, k), .own z els) :: rootsD d (k + 1) t
  | k, c :: t => rootsD d (k + 1) t
def cellsA : List T → List Cell
  | [] => []
  | .a l :: t => l ++ cellsA t
  | .c c :: t => c :: cellsA t
  | _ :: t => cellsA t
def refsA (d : Nat) : Nat → List T → List T
  | _, [] => []
  | k, .a l :: t => .a (refsD d k l) :: refsA d (k + l.length) t
  | k, .c (.own z els) :: t => .c (.sl (d, k) [] z 0 els.length) :: refsA d (k + 1) t
  | k, .c c :: t => .c c :: refsA d (k + 1) t
  | k, x :: t => x :: refsA d k t
def rootable : List T → Bool
  | [] => true
  | .a _ :: t => rootable t
  | .c _ :: t => rootable t
  | _ :: _ => false
theorem Holds.append {g R w β} : ∀ {H1 F1 H2 F2}, Holds g R w β H1 F1 → Holds g R w β H2 F2 → Holds g R w β (H1 ++ H2) (F1 ++ F2)
  | _, _, _, _, .nil, h => h
  | _, _, _, _, .sh h0 hr hb ht, h => .sh h0 hr hb (ht.append h)
  | _, _, _, _, .ow h0 hr ht, h => by rw [List.append_assoc]; exact .ow h0 hr (ht.append h)
theorem Holds.split {g R w β} : ∀ {H1 H2 F}, Holds g R w β (H1 ++ H2) F → ∃ F1 F2, F = F1 ++ F2 ∧ Holds g R w β H1 F1 ∧ Holds g R w β H2 F2
  | [], H2, F, h => ⟨[], F, rfl, .nil, h⟩
  | e :: H1, H2, F, h => by
    cases h with
    | sh h0 hr hb ht =>
      obtain ⟨F1, F2, rfl, h1, h2⟩ := ht.split
      exact ⟨F1, F2, rfl, .sh h0 hr hb h1, h2⟩
    | ow h0 hr ht =>
      obtain ⟨F1, F2, rfl, h1, h2⟩ := ht.split
      exact ⟨_, F2, by rw [← List.append_assoc], .ow h0 hr h1, h2⟩
theorem rootsD_holds {g : Nat} {R : Cell → Value → Prop} {w : World} {β : Nm → Value} {d : Nat} (hd : d ≠ 0) : ∀ {l : List Cell} {vs : List Value} {F : List Nat} {k : Nat}, VRep R w l vs F → (∀ j v, vs[j]? = some v → β (d, k + j) = v) → Holds g R w β (rootsD d k l) F
  | _, _, _, k, .nil, hβ => .nil
  | c :: t, _, _, k, @VRep.cons _ _ _ x F1 _ xs G hc ht, hβ => by
    have hx : β (d, k) = x := by simpa using hβ 0 x (by simp)
    have ih := rootsD_holds (g := g) hd (k := k + 1) ht (fun j v hj => by rw [← hβ (j + 1) v (by simpa using hj)]; congr 2; omega)
    by_cases ho : isOwn c = true
    · cases c with
      | own z els =>
        simp only [rootsD]
        exact .ow hd (by rw [hx]; exact hc) ih
      | _ => simp [isOwn] at ho
    · have hF := hc.bare (by simpa using ho)
      subst hF
      cases c with
      | own z els => simp [isOwn] at ho
      | _ => simpa [rootsD] using ih
theorem refsD_rep {R R' : Cell → Value → Prop} {w : World} {d : Nat} : ∀ {l : List Cell} {vs : List Value} {F : List Nat} {k : Nat}, VRep R w l vs F → (∀ c x, isRef c = true → R c x → R' c x) → (∀ (j : Nat) z els v, l[j]? = some (.own z els) → vs[j]? = some v → R' (.sl (d, k + j) [] z 0 els.length) v) →
    VRep R' w (refsD d k l) vs []
  | _, _, _, k, .nil, hR, hO => .nil
  | c :: t, _, _, k, @VRep.cons _ _ _ x F1 _ xs G hc ht, hR, hO => by
    have ih := refsD_rep (d := d) (k := k + 1) ht hR (fun j z els v hj hv => by have := hO (j + 1) z els v (by simpa using hj) (by simpa using hv); rwa [show k + 1 + j = k + (j + 1) by omega])
    cases c with
    | own z els =>
      simp only [refsD]
      exact VRep.cons (F := []) (.ref rfl hc.flat (by simpa using hO 0 z els x rfl rfl)) ih
    | v y => cases hc with
      | v _ h => simpa [refsD] using VRep.cons (.v _ h) ih
      | ref hi => simp [isRef] at hi
    | x => cases hc with
      | x _ h => simpa [refsD] using VRep.cons (.x _ h) ih
      | ref hi => simp [isRef] at hi
    | sl r q z i n => cases hc with
      | ref hi hf hv => simpa [refsD] using VRep.cons (.ref rfl hf (hR _ _ rfl hv)) ih
    | pt r q z i f => cases hc with
      | ref hi hf hv => simpa [refsD] using VRep.cons (.ref rfl hf (hR _ _ rfl hv)) ih
    | fn f cs => cases hc with
      | ref hi hf hv => simpa [refsD] using VRep.cons (.ref rfl hf (hR _ _ rfl hv)) ih
theorem refsA_rep {R : Cell → Value → Prop} {w : World} {d : Nat} : ∀ {args : List T} {vs : List Value} {FA : List Nat} {k : Nat}, rootable args = true → TReps R w args vs FA → ∃ V, VRep R w (cellsA args) V FA ∧
    ∀ R' : Cell → Value → Prop, (∀ c x, isRef c = true → R c x → R' c x) → (∀ (j : Nat) z els v, (cellsA args)[j]? = some (.own z els) → V[j]? = some v → R' (.sl (d, k + j) [] z 0 els.length) v) → TReps R' w (refsA d k args) vs []
  | [], _, _, k, _, .nil => ⟨[], .nil, fun _ _ _ => .nil⟩
  | .a l :: t, _, _, k, hr, @TReps.cons _ _ _ v F _ vs' G hx ht => by
    obtain ⟨vs, rfl, hl⟩ := trep_a hx
    obtain ⟨V, h1, h2⟩ := refsA_rep (d := d) (k := k + l.length) (by simpa [rootable] using hr) ht
    have hll := hl.length
    refine ⟨vs ++ V, hl.append h1, fun R' hR hO => ?_⟩
    simp only [refsA]
    have e1 := refsD_rep (d := d) (k := k) hl hR (fun j z els v hj hv => by
      have hlt := (List.getElem?_eq_some_iff.1 hj).1
      exact hO j z els v (by simp only [cellsA]; rw [List.getElem?_append_left hlt]; exact hj) (by rw [List.getElem?_append_left (by omega)]; exact hv))
    have e2 := h2 R' hR (fun j z els v hj hv => by
      have := hO (l.length + j) z els v (by simp only [cellsA]; rw [List.getElem?_append_right (by omega)]; simpa using hj) (by rw [List.getElem?_append_right (by omega), hll]; simpa using hv)
      rwa [show k + l.length + j = k + (l.length + j) by omega])
    exact TReps.cons (F := []) (.a e1) e2
  | .c c :: t, _, _, k, hr, @TReps.cons _ _ _ v F _ vs' G hx ht => by
    cases hx with
    | c hx =>
      obtain ⟨V, h1, h2⟩ := refsA_rep (d := d) (k := k + 1) (by simpa [rootable] using hr) ht
      have h0 : VRep R w [c] [v] F := by simpa using VRep.cons hx .nil
      refine ⟨v :: V, .cons hx h1, fun R' hR hO => ?_⟩
      have e1 := refsD_rep (d := d) (k := k) h0 hR (fun j z els u hj hv => by
        cases j with
        | zero => simp at hj hv; subst hj hv; exact hO 0 z els _ rfl rfl
        | succ j => simp at hj)
      have e2 := h2 R' hR (fun j z els u hj hv => by
        have := hO (j + 1) z els u (by simpa [cellsA] using hj) (by simpa using hv)
        rwa [show k + 1 + j = k + (j + 1) by omega])
      have key : ∀ c', refsD d k [c] = [c'] → TReps R' w (.c c' :: refsA d (k + 1) t) (v :: vs') [] := fun c' hc' => by
        rw [hc'] at e1
        obtain ⟨v', F1, k1, k2, k3⟩ := e1.nth (j := 0) rfl
        simp at k1 k3; subst k1; subst k3
        exact TReps.cons (F := []) (.c k2) e2
      cases c <;> exact key _ rfl
  | .t l :: t, _, _, k, hr, h => by simp [rootable] at hr
  | .u :: t, _, _, k, hr, h => by simp [rootable] at hr
theorem look_append {r : Nm} : ∀ {H1 H2 : HH}, look (H1 ++ H2) r = match look H1 r with | some c => some c | none => look H2 r
  | [], H2 => rfl
  | (s, c) :: t, H2 => by
    by_cases e : s = r
    · simp [look, e]
    · simp only [List.cons_append, look, e, if_false]; exact look_append
theorem look_rootsD_ne {d : Nat} {r : Nm} (hr : r.1 ≠ d) : ∀ {l : List Cell} {k : Nat}, look (rootsD d k l) r = none
  | [], k => rfl
  | c :: t, k => by
    have ih := look_rootsD_ne hr (l := t) (k := k + 1)
    cases c with
    | own z els => simp only [rootsD, look]; rw [if_neg (fun e => hr (by rw [← e])), ih]
    | _ => simpa [rootsD] using ih
theorem look_rootsD {d : Nat} : ∀ {l : List Cell} {k j : Nat} {z els}, l[j]? = some (.own z els) → look (rootsD d k l) (d, k + j) = some (.own z els)
  | [], k, j, z, els, h => by simp at h
  | c :: t, k, 0, z, els, h => by simp at h; subst h; simp [rootsD, look]
  | c :: t, k, j + 1, z, els, h => by
    have ih := look_rootsD (d := d) (l := t) (k := k + 1) (j := j) (by simpa using h)
    rw [show k + 1 + j = k + (j + 1) by omega] at ih
    cases c with
    | own z' els' =>
      simp only [rootsD, look]
      rw [if_neg (fun e => by have := (Prod.mk.injEq _ _ _ _ ▸ e : d = d ∧ k = k + (j + 1)).2; omega)]
      exact ih
    | _ => simpa [rootsD] using ih
theorem vp1_out {w : World} {β β' : Nm → Value} {H H' : HH} {d : Nat} (hβ : ∀ r, r.1 ≠ d → β' r = β r) (hl : ∀ r, r.1 ≠ d → look H' r = look H r) : ∀ c x, ¬ atD1 d c → VP1 w β H c x → VP1 w β' H' c x := by
  intro c x hn h
  cases c with
  | sl r q z i n => obtain ⟨c, els, hd, e1, e2, e3, e4⟩ := h; exact ⟨c, els, hd, (hl r hn).trans e1, e2, by rw [hβ r hn]; exact e3, e4⟩
  | pt r q z i f => obtain ⟨c, els, hd, e1, e2, e3, e4⟩ := h; exact ⟨c, els, hd, (hl r hn).trans e1, e2, by rw [hβ r hn]; exact e3, e4⟩
  | v y => exact h
  | own z els => exact h.elim
  | fn f cs => exact h.elim
  | x => exact h.elim
theorem vp_named {R : Cell → Value → Prop} {w : World} {β : Nm → Value} {H : HH} {nm : Nm} {z : Nat} {els : List (List Cell)} {v : Value} {F : List Nat} (h : Rep R w (.own z els) v F) (hl : look H nm = some (.own z els)) (hβ : β nm = v) : VP w β H (.sl nm [] z 0 els.length) v := by
  refine ⟨.own z els, els, v, hl, rfl, by simp [hdr, hβ], by simp, ?_⟩
  cases h with
  | ref hi => simp [isRef] at hi
  | nil z A => exact .inr ⟨rfl, A, rfl⟩
  | @own _ b off cap _ arr el fr F hz hb hfr hr hl hs hreps => exact .inl ⟨b, off, _, cap, cap, rfl, by simp, hl, by omega⟩
/-- A contract over references serves for what is owned in hand. -/
theorem PFun.root {P : Program} {f : FuncId} {args : List T} {H : HH} {x : T} (hr : rootable args = true) (hx : ∀ d, x.clean (atD d))
    (h : ∀ d, d ≠ 0 → (∀ n, look H (d, n) = none) → PFun P f (refsA d 0 args) (rootsD d 0 (cellsA args) ++ H) x) : PFun P f args H x := by
  intro g w β F FA vs hgl hh ht hn hlow
  obtain ⟨d, hd0, hfr⟩ := exists_fresh H
  have hfr' : ∀ n, look H (d, n) = none := fun n => by
    cases hl : look H (d, n) with
    | none => rfl
    | some c => exact absurd rfl (hfr _ (look_mem hl))
  obtain ⟨V, hV, hmk⟩ := refsA_rep (d := d) (k := 0) hr ht
  let β' : Nm → Value := fun r => if r.1 = d then V.getD r.2 undef else β r
  have hβd : ∀ (j : Nat) v, V[j]? = some v → β' (d, 0 + j) = v := fun j v hj => by
    show (if (d, 0 + j).1 = d then V.getD (0 + j) undef else _) = v
    rw [if_pos rfl, Nat.zero_add, List.getD_eq_getElem?_getD, hj]; rfl
  have hβ : ∀ r : Nm, r.1 ≠ d → β' r = β r := fun r hr => by show (if r.1 = d then _ else _) = _; rw [if_neg hr]
  have hlk : ∀ r : Nm, r.1 ≠ d → look (rootsD d 0 (cellsA args) ++ H) r = look H r := fun r hr => by rw [look_append, look_rootsD_ne hr]
  have hvp : ∀ c x, isRef c = true → VP w β H c x → VP w β' (rootsD d 0 (cellsA args) ++ H) c x := fun c x hc hv => vp_out hβ hlk c x hc (vp_fresh hfr c x hc hv) hv
  have hO : ∀ (j : Nat) z els v, (cellsA args)[j]? = some (.own z els) → V[j]? = some v → VP w β' (rootsD d 0 (cellsA args) ++ H) (.sl (d, 0 + j) [] z 0 els.length) v := fun j z els v hj hv => by
    obtain ⟨v', F1, k1, k2, k3⟩ := hV.nth hj
    rw [hv] at k1; cases k1
    exact vp_named k2 (by rw [look_append, look_rootsD hj]) (hβd j v hv)
  have hV' : VRep (VP w β' (rootsD d 0 (cellsA args) ++ H)) w (cellsA args) V FA := hV.mono (K := fun _ => False) (fun c _ => clean_false c) (fun c x hc _ hv => hvp c x hc hv) (fun _ _ => rfl)
  have hHo : Holds g (VP w β' (rootsD d 0 (cellsA args) ++ H)) w β' H F := hh.mono (K := fun _ => False) (fun en he => hβ en.1 (hfr en he)) (fun en _ => clean_false en.2) (fun c x hc _ hv => hvp c x hc hv) (fun _ _ => rfl) (fun _ _ => rfl)
  have hHold : Holds g (VP w β' (rootsD d 0 (cellsA args) ++ H)) w β' (rootsD d 0 (cellsA args) ++ H) (FA ++ F) := (rootsD_holds hd0 hV' hβd).append hHo
  have hargs := hmk _ hvp hO
  refine (h d hd0 hfr' g w β' (FA ++ F) [] vs hgl hHold hargs ?_ ?_).mono fun en w' hres => ?_
  · rw [List.append_nil]; exact (List.perm_append_comm.nodup_iff).1 hn
  · intro b hb
    rw [List.append_nil] at hb
    exact hlow b (List.perm_append_comm.subset hb)
  · obtain ⟨y, T1, H', lg, F', FT, rfl, ⟨rfl, rfl, rfl⟩, k1, k2, k3, k4, k5⟩ := hres
    obtain ⟨F1, F2, rfl, m1, m2⟩ := k1.split
    have hlk2 : ∀ r : Nm, r.1 ≠ d → look H r = look (rootsD d 0 (cellsA args) ++ H) r := fun r hr => (hlk r hr).symm
    have hβ2 : ∀ r : Nm, r.1 ≠ d → β r = β' r := fun r hr => (hβ r hr).symm
    have hback := vp_out (w := w') hβ2 hlk2
    have m3 : Holds g (VP w' β H) w' β H F2 := m2.mono (K := atD d) (fun en he => hβ2 en.1 (hfr en he)) (hh.cleans (vp_fresh hfr)) (fun c x hc hk hv => hback c x hc hk hv) (fun _ _ => rfl) (fun _ _ => rfl)
    have m4 : TRep (VP w' β H) w' T1 y FT := k2.mono (hx d) (fun c x hc hk hv => hback c x hc hk hv) (fun _ _ => rfl)
    refine ⟨y, T1, H, [], F2, FT, rfl, ⟨rfl, rfl, rfl⟩, m3, m4, ?_, ?_, fun c x hc hv => ?_⟩
    · exact List.Nodup.sublist (List.Sublist.append (List.sublist_append_right F1 F2) (.refl _)) k3
    · have := k4.sub (B' := F2 ++ FT) (fun b hb => by
        rcases List.mem_append.1 hb with hb | hb
        · simp [hb]
        · simp [hb])
      exact { this with same := fun b hb hnb => this.same b hb (fun hm => hnb (by rw [List.append_nil] at hm; exact List.perm_append_comm.subset hm)), new := fun b hb => (this.new b hb).imp (fun hm => by rw [List.append_nil] at hm; exact List.perm_append_comm.subset hm) id }
    · have hnD := out_notD hv hfr
      have h1 := vp1_out hβ hlk c x hnD hv
      exact vp1_out hβ2 hlk2 c x hnD (k5 c x hc h1)
theorem CleanRows_mk {K : Cell → Prop} {k : Int} {rows : List (List Cell)} (h : CleanRows K rows) : CleanRows K (mkRs k rows) ↔ True := iff_true_intro (mkRs_clean h)
attribute [simp] CleanRows_mk refsA refsD rootsD cellsA rootable
end Go.Px

namespace Go.Proofs.Ythejobdlfomcjaa
open Go Go.Px Go.RowKit Go.Proofs
set_option linter.unnecessarySimpa false
set_option linter.unusedVariables false
set_option linter.unusedSimpArgs false
set_option maxRecDepth 100000
attribute [-simp] Int.not_le Int.not_lt
def nW : DLoose := ⟨0, 0, []⟩
def keptL (x : DDisk) (ks : List Nat) : List DLoose := ks.map fun k => x.loose.getD k nW
def rowK (x : DDisk) (r : Nm) (q : Path) (k : Nat) : List Cell := [.v (.int .i64 (x.loose.getD k nW).page), .v (.int .i64 (x.loose.getD k nW).part), .sl r (q ++ [(k, 2)]) 1 0 (x.loose.getD k nW).data.length]
theorem impl_Disk_done2 (H : HH) {r1 q1 r2 q2 r3 q3} {x : DDisk} {ks : List Nat} (hl : x.le 1048576) (hll : ks.length ≤ 1048576) (hks : ∀ k ∈ ks, k < x.loose.length) (h48 : ∀ p ∈ x.pages, p.length = 48) (hw : ∀ w ∈ x.loose, Wok x.pages.length w)
    (a1 : arrAt H r1 q1 = some (1, x.pages.map (encS 1 encU8))) (a2 : arrAt H r2 q2 = some (3, x.loose.map DLoose.enc)) (a3 : arrAt H r3 q3 = some (3, ks.map (rowK x r2 q2))) :
    PFun Try.prog 101 [.a [.sl r1 q1 1 0 x.pages.length, .sl r2 q2 3 0 x.loose.length], .c (.sl r3 q3 3 0 ks.length)] H (.a (DDisk.mk (doF x.pages (keptL x ks)) []).enc) := by
  have hl' := hl
  obtain ⟨⟨b1, b1p⟩, b2, b2p⟩ := hl'
  have hwl : ∀ w ∈ keptL x ks, Wok x.pages.length w := by
    intro w hm
    obtain ⟨k, hk, rfl⟩ := List.mem_map.1 hm
    have := hks k hk
    simp only [List.getD_eq_getElem?_getD, List.getElem?_eq_getElem this, Option.getD_some]
    exact hw _ (List.getElem_mem this)
  have hlk : (keptL x ks).length = ks.length := by simp [keptL]
  refine PFun.of [1, 2, 4, 5, 7, 11, 12, 13, 14] Try.func101 rfl (by simp [Try.f101]) ?_
  intro d hd0 hfr hcl hout
  have hcd : ∀ n q, CleanH (hit [((d, n), q)]) H := fun n q => hcl.at
  have a1_n : ∀ n, ¬ (d, n) = r1 := fun n => nm_ne (ne_of_arr hfr a1)
  have a1_d : ¬ r1.1 = d := ne_of_arr hfr a1
  have a1_m : ∀ n, ¬ r1 = (d, n) := fun n => nm_ne' (ne_of_arr hfr a1)
  have a2_n : ∀ n, ¬ (d, n) = r2 := fun n => nm_ne (ne_of_arr hfr a2)
  have a2_d : ¬ r2.1 = d := ne_of_arr hfr a2
  have a2_m : ∀ n, ¬ r2 = (d, n) := fun n => nm_ne' (ne_of_arr hfr a2)
  have a3_n : ∀ n, ¬ (d, n) = r3 := fun n => nm_ne (ne_of_arr hfr a3)
  have a3_d : ¬ r3.1 = d := ne_of_arr hfr a3
  have a3_m : ∀ n, ¬ r3 = (d, n) := fun n => nm_ne' (ne_of_arr hfr a3)
  simp (maxSteps := 4000000) [hd0, hfr, hout, hcl, hcd, delA_none, a1, a1_n, a1_d, a1_m, a2, a2_n, a2_d, a2_m, a3, a3_n, a3_d, a3_m, Try.f101]
  refine (impl_Disk_copied _ hl (by simp (maxSteps := 4000000) [hd0, hfr, hout, hcl, hcd, delA_none, a1, a1_n, a1_d, a1_m, a2, a2_n, a2_d, a2_m, a3, a3_n, a3_d, a3_m]) (by simp (maxSteps := 4000000) [hd0, hfr, hout, hcl, hcd, delA_none, a1, a1_n, a1_d, a1_m, a2, a2_n, a2_d, a2_m, a3, a3_n, a3_d, a3_m])).useCK ?_
  simp (maxSteps := 4000000) [hd0, hfr, hout, hcl, hcd, delA_none, a1, a1_n, a1_d, a1_m, a2, a2_n, a2_d, a2_m, a3, a3_n, a3_d, a3_m, DDisk.enc]
  refine LoopK.intro (fun m s => ∃ i : Nat, i + m = ks.length ∧ s = ⟨[(4, .c (.pt (d, 4) [] 2 0 0)), (5, .c (.pt (d, 5) [] 2 0 0)), (11, .c (.sl r3 q3 3 0 ks.length)), (12, I ks.length), (13, I i)],
      ((d, 5), .own 2 [[.own 1 ((doF x.pages ((keptL x ks).take i)).map (encS 1 encU8)), .own 3 []]]) :: ((d, 4), .own 2 [[.own 1 [], .own 3 []]]) :: H, []⟩) (ks.length + 1)
    (LK.intro ks.length [4, 5, 11, 12, 13] [2] (by omega) (by decide) (by simp (maxSteps := 4000000) [hd0, hfr, hout, hcl, hcd, delA_none, a1, a1_n, a1_d, a1_m, a2, a2_n, a2_d, a2_m, a3, a3_n, a3_d, a3_m]) ⟨0, by simp [doF]⟩) ?_
  rintro m s ⟨i, him, rfl⟩
  by_cases hi' : i < ks.length
  · have w1 : IntKind.i64.wrap ((i : Int) + 1) = i + 1 := w64 (by omega) (by omega)
    have hil : i < (keptL x ks).length := by omega
    obtain ⟨v1, v2, v3, v4, v5⟩ := hwl _ (List.getElem_mem hil)
    have hkl := hks _ (List.getElem_mem hi')
    have hel : (keptL x ks)[i] = x.loose.getD ks[i] nW := by simp [keptL]
    have hdl : x.loose.getD ks[i] nW = x.loose[ks[i]] := by simp [List.getD_eq_getElem?_getD, List.getElem?_eq_getElem hkl]
    have hsub := arrAt_sub a2 (i := ks[i]) (f := 2) (row := x.loose[ks[i]].enc) (by simp [hkl]) rfl
    rw [← hdl, ← hel] at hsub
    have hrow : rowK x r2 q2 ks[i] = [.v (.int .i64 (keptL x ks)[i].page), .v (.int .i64 (keptL x ks)[i].part), .sl r2 (q2 ++ [(ks[i], 2)]) 1 0 (keptL x ks)[i].data.length] := by simp only [rowK, hel]
    obtain ⟨pg, hpg⟩ := Int.eq_ofNat_of_zero_le v1
    obtain ⟨pt, hpt⟩ := Int.eq_ofNat_of_zero_le v3
    have hlen := doF_len (ps := x.pages) (l := (keptL x ks).take i)
    have h48' := doF_48 (l := (keptL x ks).take i) h48 (fun w hm => hwl w (List.mem_of_mem_take hm))
    have hpl : pg < (doF x.pages ((keptL x ks).take i)).length := by omega
    have hp48 := h48' _ (List.getElem_mem hpl)
    have hnx := doF_take (ps := x.pages) hil
    clear hel hdl
    generalize hW : (keptL x ks)[i] = W at v1 v2 v3 v4 v5 hsub hrow hnx hpg hpt
    obtain ⟨k, hk⟩ : ∃ k, k = ks[i] := ⟨_, rfl⟩
    have w2 : IntKind.i64.wrap (16 * (pt : Int)) = 16 * (pt : Int) := w64 (by omega) (by omega)
    obtain ⟨at_, hat⟩ : ∃ a : Nat, a = 16 * pt := ⟨_, rfl⟩
    have w3 : IntKind.i64.wrap (16 * (pt : Int)) = (at_ : Int) := by rw [w2]; omega
    rw [hpg, hpt, Int.toNat_natCast, Int.toNat_natCast, doW, List.getD_eq_getElem?_getD, List.getElem?_eq_getElem hpl, Option.getD_some] at hnx
    rw [hpg, hpt, ← hk] at hrow
    have hsub' : arrAt H r2 (q2 ++ [(k, 2)]) = some (1, W.data.map encU8) := by rw [hk]; simpa [DLoose.enc] using hsub
    clear hsub
    simp (maxSteps := 4000000) [hd0, hfr, hout, hcl, hcd, delA_none, a1, a1_n, a1_d, a1_m, a2, a2_n, a2_d, a2_m, a3, a3_n, a3_d, a3_m, show (i : Int) < ks.length by omega, hi', ← hk, hrow]
    refine DrawK.intro 12 [4, 5, 11, 12, 13, 26, 28] rfl (by kernel_rfl) (by decide) ?_
    simp (maxSteps := 4000000) [hd0, hfr, hout, hcl, hcd, delA_none, a1, a1_n, a1_d, a1_m, a2, a2_n, a2_d, a2_m, a3, a3_n, a3_d, a3_m, w3, hi', hpl, encS, hp48, hsub']
    refine ⟨by omega, fun a _ c hc => by simp [encU8] at hc; subst hc; rfl, ?_⟩
    have htk : List.take (48 - at_) (List.map encU8 W.data).flatten = (List.map encU8 W.data).flatten := List.take_of_length_le (by rw [U8_flen]; omega)
    rw [htk]
    refine CopyTo_rows (rows := ((doF x.pages ((keptL x ks).take i))[pg]).map encU8) (by simp (maxSteps := 4000000) [hd0, hfr, hout, hcl, hcd, delA_none, a1, a1_n, a1_d, a1_m, a2, a2_n, a2_d, a2_m, a3, a3_n, a3_d, a3_m, hpl, encS]) U8_row U8_flat (by rw [U8_flen]; simp; omega) ?_
    rw [ov_rows2 (by omega) v5]
    rw [← hat] at hnx
    simp (maxSteps := 4000000) [hd0, hfr, hout, hcl, hcd, delA_none, a1, a1_n, a1_d, a1_m, a2, a2_n, a2_d, a2_m, a3, a3_n, a3_d, a3_m, hpl, encS, w1]
    refine LK.intro (m - 1) [4, 5, 11, 12, 13] [7] (by omega) (by decide) (by simp (maxSteps := 4000000) [hd0, hfr, hout, hcl, hcd, delA_none, a1, a1_n, a1_d, a1_m, a2, a2_n, a2_d, a2_m, a3, a3_n, a3_d, a3_m]) ⟨i + 1, by omega, by simp [hnx, encS]⟩
  · simp (maxSteps := 4000000) [hd0, hfr, hout, hcl, hcd, delA_none, a1, a1_n, a1_d, a1_m, a2, a2_n, a2_d, a2_m, a3, a3_n, a3_d, a3_m, show ¬ (i : Int) < ks.length by omega, DDisk.enc, List.take_of_length_le (show (keptL x ks).length ≤ i by omega)]
theorem impl_CrashDisk_1 (H : HH) {r q v r2 q2 n c0} (hn : n ≤ 1048576) (ha : arrAt H r q = some (2, [[c0, .sl r2 q2 3 0 n]])) : PFun Try.prog 129 [I v, .c (.pt r q 2 0 0)] H (B (!inR v 0 (n - 1))) := by
  refine PFun.of [0, 1, 3] Try.func129 rfl (by simp [Try.f129]) ?_
  intro d hd0 hfr hcl hout
  have hcd : ∀ n q, CleanH (hit [((d, n), q)]) H := fun n q => hcl.at
  have ha_n : ∀ n, ¬ (d, n) = r := fun n => nm_ne (ne_of_arr hfr ha)
  have ha_d : ¬ r.1 = d := ne_of_arr hfr ha
  have ha_m : ∀ n, ¬ r = (d, n) := fun n => nm_ne' (ne_of_arr hfr ha)
  simp (maxSteps := 4000000) [hd0, hfr, hout, hcl, hcd, delA_none, ha, ha_n, ha_d, ha_m, Try.f129]
  have w1 : IntKind.i64.wrap ((n : Int) - 1) = n - 1 := w64 (by omega) (by omega)
  simp (maxSteps := 4000000) [hd0, hfr, hout, hcl, hcd, delA_none, ha, ha_n, ha_d, ha_m, w1]
  refine (impl_within _ _ _ _).useCK ?_
  simp (maxSteps := 4000000) [hd0, hfr, hout, hcl, hcd, delA_none, ha, ha_n, ha_d, ha_m]
theorem impl_Disk_done2_own (H : HH) {r1 q1 r2 q2} {x : DDisk} {ks : List Nat} (hl : x.le 1048576) (hll : ks.length ≤ 1048576) (hks : ∀ k ∈ ks, k < x.loose.length) (h48 : ∀ p ∈ x.pages, p.length = 48) (hw : ∀ w ∈ x.loose, Wok x.pages.length w)
    (a1 : arrAt H r1 q1 = some (1, x.pages.map (encS 1 encU8))) (a2 : arrAt H r2 q2 = some (3, x.loose.map DLoose.enc)) :
    PFun Try.prog 101 [.a [.sl r1 q1 1 0 x.pages.length, .sl r2 q2 3 0 x.loose.length], .c (.own 3 (ks.map (rowK x r2 q2)))] H (.a (DDisk.mk (doF x.pages (keptL x ks)) []).enc) :=
  PFun.root rfl (fun d => DDisk.pure _ _) (fun d hd hf => by
    have n1 : ∀ n, ¬ (d, n) = r1 := fun n => nm_ne (ne_of_arr hf a1)
    have n2 : ∀ n, ¬ (d, n) = r2 := fun n => nm_ne (ne_of_arr hf a2)
    have := impl_Disk_done2 (((d, 2), .own 3 (ks.map (rowK x r2 q2))) :: H) (r1 := r1) (q1 := q1) (r2 := r2) (q2 := q2) (r3 := (d, 2)) (q3 := []) hl hll hks h48 hw (by simp [n1, a1]) (by simp [n2, a2]) (by simp)
    simpa using this)
def crashF (x : DDisk) (kept : List Int) : DDiskResult := if diskF x ≠ 0 then ⟨diskF x, ⟨[], []⟩⟩ else if (kept.any fun k => !inR k 0 (x.loose.length - 1)) = true then ⟨3, ⟨[], []⟩⟩ else if riseF none kept = false then ⟨1, ⟨[], []⟩⟩ else ⟨0, ⟨doF x.pages (keptL x (kept.map Int.toNat)), []⟩⟩
theorem kept_nat {n : Nat} : ∀ {kept : List Int}, (kept.any fun k => !inR k 0 (n - 1)) = false → ∃ ks : List Nat, kept = ks.map (fun k : Nat => (k : Int)) ∧ ∀ k ∈ ks, k < n
  | [], _ => ⟨[], rfl, by simp⟩
  | k :: l, h => by
    simp only [List.any_cons, Bool.or_eq_false_iff] at h
    obtain ⟨ks, rfl, hk⟩ := kept_nat h.2
    have h1 := h.1
    simp [inR] at h1
    obtain ⟨j, rfl⟩ := Int.eq_ofNat_of_zero_le h1.1
    exact ⟨j :: ks, by simp, fun i hi => by
      rcases List.mem_cons.1 hi with rfl | hi
      · omega
      · exact hk i hi⟩
theorem toNat_cast {ks : List Nat} : (ks.map (fun k : Nat => (k : Int))).map Int.toNat = ks := by induction ks <;> simp_all
theorem impl_CrashDisk (H : HH) {r1 q1 r2 q2 r3 q3} {x : DDisk} {kept : List Int} (hl : x.le 1048576) (hdl : kept.length ≤ 1048576) (a1 : arrAt H r1 q1 = some (1, x.pages.map (encS 1 encU8))) (a2 : arrAt H r2 q2 = some (3, x.loose.map DLoose.enc)) (a3 : arrAt H r3 q3 = some (1, kept.map encI)) :
    PFun Try.prog 52 [.a [.sl r1 q1 1 0 x.pages.length, .sl r2 q2 3 0 x.loose.length], .c (.sl r3 q3 1 0 kept.length)] H (.a (crashF x kept).enc) := by
  have hl' := hl
  obtain ⟨⟨b1, b1p⟩, b2, b2p⟩ := hl'
  refine PFun.of [1, 2, 4, 5, 6, 8, 11, 14, 18, 23, 27, 28, 29, 30] Try.func52 rfl (by simp [Try.f52]) ?_
  intro d hd0 hfr hcl hout
  have hcd : ∀ n q, CleanH (hit [((d, n), q)]) H := fun n q => hcl.at
  have a1_n : ∀ n, ¬ (d, n) = r1 := fun n => nm_ne (ne_of_arr hfr a1)
  have a1_d : ¬ r1.1 = d := ne_of_arr hfr a1
  have a1_m : ∀ n, ¬ r1 = (d, n) := fun n => nm_ne' (ne_of_arr hfr a1)
  have a2_n : ∀ n, ¬ (d, n) = r2 := fun n => nm_ne (ne_of_arr hfr a2)
  have a2_d : ¬ r2.1 = d := ne_of_arr hfr a2
  have a2_m : ∀ n, ¬ r2 = (d, n) := fun n => nm_ne' (ne_of_arr hfr a2)
  have a3_n : ∀ n, ¬ (d, n) = r3 := fun n => nm_ne (ne_of_arr hfr a3)
  have a3_d : ¬ r3.1 = d := ne_of_arr hfr a3
  have a3_m : ∀ n, ¬ r3 = (d, n) := fun n => nm_ne' (ne_of_arr hfr a3)
  simp (maxSteps := 4000000) [hd0, hfr, hout, hcl, hcd, delA_none, a1, a1_n, a1_d, a1_m, a2, a2_n, a2_d, a2_m, a3, a3_n, a3_d, a3_m, Try.f52]
  refine (impl_DiskFault _ hl (by simp (maxSteps := 4000000) [hd0, hfr, hout, hcl, hcd, delA_none, a1, a1_n, a1_d, a1_m, a2, a2_n, a2_d, a2_m, a3, a3_n, a3_d, a3_m]) (by simp (maxSteps := 4000000) [hd0, hfr, hout, hcl, hcd, delA_none, a1, a1_n, a1_d, a1_m, a2, a2_n, a2_d, a2_m, a3, a3_n, a3_d, a3_m])).useCK ?_
  simp (maxSteps := 4000000) [hd0, hfr, hout, hcl, hcd, delA_none, a1, a1_n, a1_d, a1_m, a2, a2_n, a2_d, a2_m, a3, a3_n, a3_d, a3_m]
  by_cases h0 : diskF x = 0
  case neg => simp (maxSteps := 4000000) [hd0, hfr, hout, hcl, hcd, delA_none, a1, a1_n, a1_d, a1_m, a2, a2_n, a2_d, a2_m, a3, a3_n, a3_d, a3_m, h0, crashF, DDiskResult.enc]
  obtain ⟨h48, hw, _⟩ := diskF_ok h0
  simp (maxSteps := 4000000) [hd0, hfr, hout, hcl, hcd, delA_none, a1, a1_n, a1_d, a1_m, a2, a2_n, a2_d, a2_m, a3, a3_n, a3_d, a3_m, h0, capR]
  have hC : ∀ H', arrAt H' (d, 2) [] = some (2, [[.sl r1 q1 1 0 x.pages.length, .sl r2 q2 3 0 x.loose.length]]) → arrAt H' r3 q3 = some (1, kept.map encI) → PFun Try.prog 86 [.c (.sl r3 q3 1 0 kept.length), .c (.fn 129 [.pt (d, 2) [] 2 0 0])] H' (B (kept.any fun k => !inR k 0 (x.loose.length - 1))) := fun H' hb1 hb3 =>
    slices_ContainsFunc_int64 H' (P := fun k => !inR k 0 (x.loose.length - 1)) hdl hb3 (by simp [isRef]) (by kernel_rfl) (fun v => impl_CrashDisk_1 H' b2 hb1)
  refine (hC _ (by simp (maxSteps := 4000000) [hd0, hfr, hout, hcl, hcd, delA_none, a1, a1_n, a1_d, a1_m, a2, a2_n, a2_d, a2_m, a3, a3_n, a3_d, a3_m]) (by simp (maxSteps := 4000000) [hd0, hfr, hout, hcl, hcd, delA_none, a1, a1_n, a1_d, a1_m, a2, a2_n, a2_d, a2_m, a3, a3_n, a3_d, a3_m])).useCK ?_
  by_cases h1 : (kept.any fun k => !inR k 0 (x.loose.length - 1)) = true
  case pos =>
    have hF : crashF x kept = ⟨3, ⟨[], []⟩⟩ := by unfold crashF; rw [if_neg (by simp [h0]), if_pos h1]
    rw [h1, hF]
    simp (maxSteps := 4000000) [hd0, hfr, hout, hcl, hcd, delA_none, a1, a1_n, a1_d, a1_m, a2, a2_n, a2_d, a2_m, a3, a3_n, a3_d, a3_m, DDiskResult.enc]
  simp only [Bool.not_eq_true] at h1
  rw [h1]
  simp (maxSteps := 4000000) [hd0, hfr, hout, hcl, hcd, delA_none, a1, a1_n, a1_d, a1_m, a2, a2_n, a2_d, a2_m, a3, a3_n, a3_d, a3_m]
  refine (impl_rise _ hdl (by simp (maxSteps := 4000000) [hd0, hfr, hout, hcl, hcd, delA_none, a1, a1_n, a1_d, a1_m, a2, a2_n, a2_d, a2_m, a3, a3_n, a3_d, a3_m])).useCK ?_
  by_cases h2 : riseF none kept = true
  case neg =>
    simp only [Bool.not_eq_true] at h2
    have hF : crashF x kept = ⟨1, ⟨[], []⟩⟩ := by unfold crashF; rw [if_neg (by simp [h0]), if_neg (by simp [h1]), if_pos h2]
    rw [h2, hF]
    simp (maxSteps := 4000000) [hd0, hfr, hout, hcl, hcd, delA_none, a1, a1_n, a1_d, a1_m, a2, a2_n, a2_d, a2_m, a3, a3_n, a3_d, a3_m, DDiskResult.enc]
  have hF : crashF x kept = ⟨0, ⟨doF x.pages (keptL x (kept.map Int.toNat)), []⟩⟩ := by unfold crashF; rw [if_neg (by simp [h0]), if_neg (by simp [h1]), if_neg (by simp [h2])]
  rw [h2, hF]
  clear hF
  obtain ⟨ks, rfl, hks⟩ := kept_nat h1
  rw [toNat_cast]
  simp only [List.length_map] at hdl
  clear h1 h2
  replace a3 : arrAt H r3 q3 = some (1, ks.map (fun k : Nat => encI (k : Int))) := by rw [a3]; simp
  simp (maxSteps := 4000000) [hd0, hfr, hout, hcl, hcd, delA_none, a1, a1_n, a1_d, a1_m, a2, a2_n, a2_d, a2_m, a3, a3_n, a3_d, a3_m]
  refine LoopK.intro (fun m s => ∃ i : Nat, i + m = ks.length ∧ s = ⟨[(2, .c (.pt (d, 2) [] 2 0 0)), (4, .c (.pt (d, 4) [] 3 0 0)), (6, .c (.sl (d, 6) [] 3 0 i)), (27, .c (.sl r3 q3 1 0 ks.length)), (28, I ks.length), (29, I i)],
      ((d, 6), .own 3 ((ks.take i).map (rowK x r2 q2))) :: ((d, 4), .own 3 [[.v (.int .i64 0), .own 1 [], .own 3 []]]) :: ((d, 2), .own 2 [[.sl r1 q1 1 0 x.pages.length, .sl r2 q2 3 0 x.loose.length]]) :: H, []⟩) (ks.length + 1)
    (LK.intro ks.length [2, 4, 6, 27, 28, 29] [] (by omega) (by decide) (by simp (maxSteps := 4000000) [hd0, hfr, hout, hcl, hcd, delA_none, a1, a1_n, a1_d, a1_m, a2, a2_n, a2_d, a2_m, a3, a3_n, a3_d, a3_m]) ⟨0, by simp⟩) ?_
  rintro m s ⟨i, him, rfl⟩
  by_cases hi' : i < ks.length
  · have w1 : IntKind.i64.wrap ((i : Int) + 1) = i + 1 := w64 (by omega) (by omega)
    have hkl := hks _ (List.getElem_mem hi')
    have hrow : rowK x r2 q2 ks[i] = [.v (.int .i64 x.loose[ks[i]].page), .v (.int .i64 x.loose[ks[i]].part), .sl r2 (q2 ++ [(ks[i], 2)]) 1 0 x.loose[ks[i]].data.length] := by simp [rowK, List.getD_eq_getElem?_getD, List.getElem?_eq_getElem hkl]
    have hnx := take_next (f := rowK x r2 q2) hi'
    have hcr : ∀ n, CleanRows (hit [((d, n), [])]) (List.take i (List.map (rowK x r2 q2) ks)) := fun n row hm c hc => by
      obtain ⟨k, _, rfl⟩ := List.mem_map.1 (List.mem_of_mem_take hm)
      simp only [rowK, List.mem_cons, List.not_mem_nil, or_false] at hc
      rcases hc with rfl | rfl | rfl <;> simp (maxSteps := 4000000) [hd0, hfr, hout, hcl, hcd, delA_none, a1, a1_n, a1_d, a1_m, a2, a2_n, a2_d, a2_m, a3, a3_n, a3_d, a3_m]
    simp (maxSteps := 4000000) [hd0, hfr, hout, hcl, hcd, delA_none, a1, a1_n, a1_d, a1_m, a2, a2_n, a2_d, a2_m, a3, a3_n, a3_d, a3_m, show (i : Int) < ks.length by omega, hi', encI, hkl, DLoose.enc, w1, hcr, Nat.min_eq_left (show i ≤ ks.length by omega)]
    repeat (first | (refine And.intro (by kernel_rfl) ?_) | (refine And.intro (by omega) ?_))
    refine LK.intro (m - 1) [2, 4, 6, 27, 28, 29] [] (by omega) (by decide) (by simp (maxSteps := 4000000) [hd0, hfr, hout, hcl, hcd, delA_none, a1, a1_n, a1_d, a1_m, a2, a2_n, a2_d, a2_m, a3, a3_n, a3_d, a3_m]) ⟨i + 1, by omega, by simp [hnx, hrow]⟩
  · have : i = ks.length := by omega
    subst this
    simp (maxSteps := 4000000) [hd0, hfr, hout, hcl, hcd, delA_none, a1, a1_n, a1_d, a1_m, a2, a2_n, a2_d, a2_m, a3, a3_n, a3_d, a3_m]
    refine (impl_Disk_done2 _ (r3 := (d, 6)) (q3 := []) hl hdl hks h48 hw (by simp (maxSteps := 4000000) [hd0, hfr, hout, hcl, hcd, delA_none, a1, a1_n, a1_d, a1_m, a2, a2_n, a2_d, a2_m, a3, a3_n, a3_d, a3_m]) (by simp (maxSteps := 4000000) [hd0, hfr, hout, hcl, hcd, delA_none, a1, a1_n, a1_d, a1_m, a2, a2_n, a2_d, a2_m, a3, a3_n, a3_d, a3_m]) (by simp (maxSteps := 4000000) [hd0, hfr, hout, hcl, hcd, delA_none, a1, a1_n, a1_d, a1_m, a2, a2_n, a2_d, a2_m, a3, a3_n, a3_d, a3_m])).useCK ?_
    simp (maxSteps := 4000000) [hd0, hfr, hout, hcl, hcd, delA_none, a1, a1_n, a1_d, a1_m, a2, a2_n, a2_d, a2_m, a3, a3_n, a3_d, a3_m, DDisk.enc, DDiskResult.enc]
    refine ⟨fun k _ => ?_, fun k _ => ?_⟩ <;> simp (maxSteps := 4000000) [hd0, hfr, hout, hcl, hcd, delA_none, a1, a1_n, a1_d, a1_m, a2, a2_n, a2_d, a2_m, a3, a3_n, a3_d, a3_m, rowK]

theorem spec_CrashDisk (H : HH) {r1 q1 r2 q2 r3 q3} {x : DDisk} {kept : List Int} (hl : x.le 1048576) (hdl : kept.length ≤ 1048576) (a1 : arrAt H r1 q1 = some (1, x.pages.map (encS 1 encU8))) (a2 : arrAt H r2 q2 = some (3, x.loose.map DLoose.enc)) (a3 : arrAt H r3 q3 = some (1, kept.map encI)) :
    PFun Try.prog 50 [.a [.sl r1 q1 1 0 x.pages.length, .sl r2 q2 3 0 x.loose.length], .c (.sl r3 q3 1 0 kept.length)] H (.a (crashF x kept).enc) := by
  have hl' := hl
  obtain ⟨⟨b1, b1p⟩, b2, b2p⟩ := hl'
  refine PFun.of [1, 2, 4, 5, 6, 7, 8, 9, 13, 19, 31, 36, 48, 55] Try.func50 rfl (by simp [Try.f50]) ?_
  intro d hd0 hfr hcl hout
  have hcd : ∀ n q, CleanH (hit [((d, n), q)]) H := fun n q => hcl.at
  have a1_n : ∀ n, ¬ (d, n) = r1 := fun n => nm_ne (ne_of_arr hfr a1)
  have a1_d : ¬ r1.1 = d := ne_of_arr hfr a1
  have a1_m : ∀ n, ¬ r1 = (d, n) := fun n => nm_ne' (ne_of_arr hfr a1)
  have a2_n : ∀ n, ¬ (d, n) = r2 := fun n => nm_ne (ne_of_arr hfr a2)
  have a2_d : ¬ r2.1 = d := ne_of_arr hfr a2
  have a2_m : ∀ n, ¬ r2 = (d, n) := fun n => nm_ne' (ne_of_arr hfr a2)
  have a3_n : ∀ n, ¬ (d, n) = r3 := fun n => nm_ne (ne_of_arr hfr a3)
  have a3_d : ¬ r3.1 = d := ne_of_arr hfr a3
  have a3_m : ∀ n, ¬ r3 = (d, n) := fun n => nm_ne' (ne_of_arr hfr a3)
  simp (maxSteps := 4000000) [hd0, hfr, hout, hcl, hcd, delA_none, a1, a1_n, a1_d, a1_m, a2, a2_n, a2_d, a2_m, a3, a3_n, a3_d, a3_m, Try.f50]
  refine (spec_DiskFault _ hl (by simp (maxSteps := 4000000) [hd0, hfr, hout, hcl, hcd, delA_none, a1, a1_n, a1_d, a1_m, a2, a2_n, a2_d, a2_m, a3, a3_n, a3_d, a3_m]) (by simp (maxSteps := 4000000) [hd0, hfr, hout, hcl, hcd, delA_none, a1, a1_n, a1_d, a1_m, a2, a2_n, a2_d, a2_m, a3, a3_n, a3_d, a3_m])).useCK ?_
  simp (maxSteps := 4000000) [hd0, hfr, hout, hcl, hcd, delA_none, a1, a1_n, a1_d, a1_m, a2, a2_n, a2_d, a2_m, a3, a3_n, a3_d, a3_m]
  by_cases h0 : diskF x = 0
  case neg => simp (maxSteps := 4000000) [hd0, hfr, hout, hcl, hcd, delA_none, a1, a1_n, a1_d, a1_m, a2, a2_n, a2_d, a2_m, a3, a3_n, a3_d, a3_m, h0, crashF, DDiskResult.enc]
  obtain ⟨h48, hw, _⟩ := diskF_ok h0
  have wl : IntKind.i64.wrap ((x.loose.length : Int) - 1) = x.loose.length - 1 := w64 (by omega) (by omega)
  simp (maxSteps := 4000000) [hd0, hfr, hout, hcl, hcd, delA_none, a1, a1_n, a1_d, a1_m, a2, a2_n, a2_d, a2_m, a3, a3_n, a3_d, a3_m, h0]
  refine LoopK.intro (fun m s => ∃ i : Nat, i + m = kept.length ∧ (kept.any fun k => !inR k 0 (x.loose.length - 1)) = ((kept.drop i).any fun k => !inR k 0 (x.loose.length - 1)) ∧ s = ⟨[(1, .c (.sl r3 q3 1 0 kept.length)), (2, .c (.pt (d, 2) [] 2 0 0)), (4, .c (.pt (d, 4) [] 3 0 0)), (6, I i)],
      ((d, 4), .own 3 [[.v (.int .i64 0), .own 1 [], .own 3 []]]) :: ((d, 2), .own 2 [[.sl r1 q1 1 0 x.pages.length, .sl r2 q2 3 0 x.loose.length]]) :: H, []⟩) (kept.length + 1)
    (LK.intro kept.length [1, 2, 4, 6] [] (by omega) (by decide) (by simp (maxSteps := 4000000) [hd0, hfr, hout, hcl, hcd, delA_none, a1, a1_n, a1_d, a1_m, a2, a2_n, a2_d, a2_m, a3, a3_n, a3_d, a3_m]) ⟨0, by simp⟩) ?_
  rintro m s ⟨i, him, hP, rfl⟩
  by_cases hi' : i < kept.length
  · rw [List.drop_eq_getElem_cons hi', List.any_cons] at hP
    have w1 : IntKind.i64.wrap ((i : Int) + 1) = i + 1 := w64 (by omega) (by omega)
    simp (maxSteps := 4000000) [hd0, hfr, hout, hcl, hcd, delA_none, a1, a1_n, a1_d, a1_m, a2, a2_n, a2_d, a2_m, a3, a3_n, a3_d, a3_m, show (i : Int) < kept.length by omega]
    refine DrawK.intro 10 [1, 2, 4, 6, 31] rfl (by kernel_rfl) (by decide) ?_
    simp (maxSteps := 4000000) [hd0, hfr, hout, hcl, hcd, delA_none, a1, a1_n, a1_d, a1_m, a2, a2_n, a2_d, a2_m, a3, a3_n, a3_d, a3_m, hi', encI, wl]
    refine ⟨_, spec_l1In _ _ _ _, ?_⟩
    by_cases c1 : inR kept[i] 0 (x.loose.length - 1) = true
    · rw [c1]
      simp (maxSteps := 4000000) [hd0, hfr, hout, hcl, hcd, delA_none, a1, a1_n, a1_d, a1_m, a2, a2_n, a2_d, a2_m, a3, a3_n, a3_d, a3_m, w1]
      refine LK.intro (m - 1) [1, 2, 4, 6] [] (by omega) (by decide) (by simp (maxSteps := 4000000) [hd0, hfr, hout, hcl, hcd, delA_none, a1, a1_n, a1_d, a1_m, a2, a2_n, a2_d, a2_m, a3, a3_n, a3_d, a3_m]) ⟨i + 1, by omega, by simpa [c1] using hP, by simp⟩
    · simp only [Bool.not_eq_true] at c1
      have hF : crashF x kept = ⟨3, ⟨[], []⟩⟩ := by unfold crashF; rw [if_neg (by simp [h0]), if_pos (by rw [hP]; simp [c1])]
      rw [c1, hF]
      simp (maxSteps := 4000000) [hd0, hfr, hout, hcl, hcd, delA_none, a1, a1_n, a1_d, a1_m, a2, a2_n, a2_d, a2_m, a3, a3_n, a3_d, a3_m, DDiskResult.enc]
  rw [List.drop_eq_nil_of_le (by omega), List.any_nil] at hP
  simp (maxSteps := 4000000) [hd0, hfr, hout, hcl, hcd, delA_none, a1, a1_n, a1_d, a1_m, a2, a2_n, a2_d, a2_m, a3, a3_n, a3_d, a3_m, show ¬ (i : Int) < kept.length by omega]
  clear him hi'
  refine LoopK.intro (fun m s => ∃ i : Nat, i + m = kept.length + 1 ∧ 1 ≤ i ∧ riseF (prv id kept i) (kept.drop i) = riseF none kept ∧ s = ⟨[(1, .c (.sl r3 q3 1 0 kept.length)), (2, .c (.pt (d, 2) [] 2 0 0)), (4, .c (.pt (d, 4) [] 3 0 0)), (7, I i)],
      ((d, 4), .own 3 [[.v (.int .i64 0), .own 1 [], .own 3 []]]) :: ((d, 2), .own 2 [[.sl r1 q1 1 0 x.pages.length, .sl r2 q2 3 0 x.loose.length]]) :: H, []⟩) (kept.length + 1)
    (LK.intro kept.length [1, 2, 4, 7] [] (by omega) (by decide) (by simp (maxSteps := 4000000) [hd0, hfr, hout, hcl, hcd, delA_none, a1, a1_n, a1_d, a1_m, a2, a2_n, a2_d, a2_m, a3, a3_n, a3_d, a3_m]) ⟨1, by omega, by omega, riseF_start, by simp⟩) ?_
  clear m i
  rintro m s ⟨i, him, hi1, hinv, rfl⟩
  by_cases hi' : i < kept.length
  · rw [List.drop_eq_getElem_cons hi'] at hinv
    simp only [riseF] at hinv
    have w1 : IntKind.i64.wrap ((i : Int) + 1) = i + 1 := w64 (by omega) (by omega)
    have hend := prv_succ (f := id) hi'
    have h3 : i - 1 < kept.length := by omega
    rw [prv_pos (by omega) h3] at hinv
    have w2 : IntKind.i64.wrap ((i : Int) - 1) = (i - 1 : Nat) := by rw [w64 (by omega) (by omega)]; omega
    simp (maxSteps := 4000000) [hd0, hfr, hout, hcl, hcd, delA_none, a1, a1_n, a1_d, a1_m, a2, a2_n, a2_d, a2_m, a3, a3_n, a3_d, a3_m, show (i : Int) < kept.length by omega]
    refine DrawK.intro 10 [1, 2, 4, 7, 48] rfl (by kernel_rfl) (by decide) ?_
    by_cases h4 : kept[i] ≤ kept[i-1]
    · simp [nab, h4] at hinv
      have hF : crashF x kept = ⟨1, ⟨[], []⟩⟩ := by unfold crashF; rw [if_neg (by simp [h0]), if_neg (by simp [hP]), if_pos hinv]
      rw [hF]
      simp (maxSteps := 4000000) [hd0, hfr, hout, hcl, hcd, delA_none, a1, a1_n, a1_d, a1_m, a2, a2_n, a2_d, a2_m, a3, a3_n, a3_d, a3_m, w2, h3, hi', encI, h4, DDiskResult.enc]
    · simp [nab, h4] at hinv
      simp (maxSteps := 4000000) [hd0, hfr, hout, hcl, hcd, delA_none, a1, a1_n, a1_d, a1_m, a2, a2_n, a2_d, a2_m, a3, a3_n, a3_d, a3_m, w1, w2, h3, hi', encI, h4]
      refine LK.intro (m - 1) [1, 2, 4, 7] [] (by omega) (by decide) (by simp (maxSteps := 4000000) [hd0, hfr, hout, hcl, hcd, delA_none, a1, a1_n, a1_d, a1_m, a2, a2_n, a2_d, a2_m, a3, a3_n, a3_d, a3_m]) ⟨i + 1, by omega, by omega, by rw [hend]; exact hinv, by simp⟩
  rw [List.drop_eq_nil_of_le (by omega)] at hinv
  simp only [riseF] at hinv
  have hF : crashF x kept = ⟨0, ⟨doF x.pages (keptL x (kept.map Int.toNat)), []⟩⟩ := by unfold crashF; rw [if_neg (by simp [h0]), if_neg (by simp [hP]), if_neg (by simp [← hinv])]
  rw [hF]
  simp (maxSteps := 4000000) [hd0, hfr, hout, hcl, hcd, delA_none, a1, a1_n, a1_d, a1_m, a2, a2_n, a2_d, a2_m, a3, a3_n, a3_d, a3_m, show ¬ (i : Int) < kept.length by omega]
  clear him hi1 hi' hinv hF
  obtain ⟨ks, rfl, hks⟩ := kept_nat hP
  rw [toNat_cast]
  simp only [List.length_map] at hdl
  clear hP
  replace a3 : arrAt H r3 q3 = some (1, ks.map (fun k : Nat => encI (k : Int))) := by rw [a3]; simp
  refine (spec_l2Copy _ hl (by simp (maxSteps := 4000000) [hd0, hfr, hout, hcl, hcd, delA_none, a1, a1_n, a1_d, a1_m, a2, a2_n, a2_d, a2_m, a3, a3_n, a3_d, a3_m]) (by simp (maxSteps := 4000000) [hd0, hfr, hout, hcl, hcd, delA_none, a1, a1_n, a1_d, a1_m, a2, a2_n, a2_d, a2_m, a3, a3_n, a3_d, a3_m])).useCK ?_
  simp (maxSteps := 4000000) [hd0, hfr, hout, hcl, hcd, delA_none, a1, a1_n, a1_d, a1_m, a2, a2_n, a2_d, a2_m, a3, a3_n, a3_d, a3_m, DDisk.enc]
  have hlk : (keptL x ks).length = ks.length := by simp [keptL]
  have hwl : ∀ w ∈ keptL x ks, Wok x.pages.length w := by
    intro w hm
    obtain ⟨k, hk, rfl⟩ := List.mem_map.1 hm
    have := hks k hk
    simp only [List.getD_eq_getElem?_getD, List.getElem?_eq_getElem this, Option.getD_some]
    exact hw _ (List.getElem_mem this)
  refine LoopK.intro (fun m s => ∃ i : Nat, i + m = ks.length ∧ s = ⟨[(1, .c (.sl r3 q3 1 0 ks.length)), (2, .c (.pt (d, 2) [] 2 0 0)), (4, .c (.pt (d, 4) [] 3 0 0)), (8, .c (.pt (d, 8) [] 2 0 0)), (9, I i)],
      ((d, 8), .own 2 [[.own 1 ((doF x.pages ((keptL x ks).take i)).map (encS 1 encU8)), .own 3 (x.loose.map DLoose.enc)]]) :: ((d, 4), .own 3 [[.v (.int .i64 0), .own 1 [], .own 3 []]]) :: ((d, 2), .own 2 [[.sl r1 q1 1 0 x.pages.length, .sl r2 q2 3 0 x.loose.length]]) :: H, []⟩) (ks.length + 1)
    (LK.intro ks.length [1, 2, 4, 8, 9] [] (by omega) (by decide) (by simp (maxSteps := 4000000) [hd0, hfr, hout, hcl, hcd, delA_none, a1, a1_n, a1_d, a1_m, a2, a2_n, a2_d, a2_m, a3, a3_n, a3_d, a3_m]) ⟨0, by simp [doF]⟩) ?_
  clear m i
  rintro m s ⟨i, him, rfl⟩
  by_cases hi' : i < ks.length
  · have w1 : IntKind.i64.wrap ((i : Int) + 1) = i + 1 := w64 (by omega) (by omega)
    have hil : i < (keptL x ks).length := by omega
    have hkl := hks _ (List.getElem_mem hi')
    have hel : (keptL x ks)[i] = x.loose[ks[i]] := by simp [keptL, List.getD_eq_getElem?_getD, List.getElem?_eq_getElem hkl]
    have hv := hwl _ (List.getElem_mem hil)
    have hnx := doF_take (ps := x.pages) hil
    rw [hel] at hv hnx
    obtain ⟨v1, v2, v3, v4, v5⟩ := hv
    obtain ⟨pg, hpg⟩ := Int.eq_ofNat_of_zero_le v1
    obtain ⟨pt, hpt⟩ := Int.eq_ofNat_of_zero_le v3
    have hlen := doF_len (ps := x.pages) (l := (keptL x ks).take i)
    have h48' := doF_48 (l := (keptL x ks).take i) h48 (fun w hm => hwl w (List.mem_of_mem_take hm))
    have hpl : pg < (doF x.pages ((keptL x ks).take i)).length := by omega
    have hp48 := h48' _ (List.getElem_mem hpl)
    have hsub := arrAt_sub a2 (i := ks[i]) (f := 2) (row := x.loose[ks[i]].enc) (by simp [hkl]) rfl
    rw [hpg, hpt, Int.toNat_natCast, Int.toNat_natCast] at hnx
    simp (maxSteps := 4000000) [hd0, hfr, hout, hcl, hcd, delA_none, a1, a1_n, a1_d, a1_m, a2, a2_n, a2_d, a2_m, a3, a3_n, a3_d, a3_m, show (i : Int) < ks.length by omega]
    refine DrawK.intro 8 [1, 2, 4, 8, 9, 65] rfl (by kernel_rfl) (by decide) ?_
    simp (maxSteps := 4000000) [hd0, hfr, hout, hcl, hcd, delA_none, a1, a1_n, a1_d, a1_m, a2, a2_n, a2_d, a2_m, a3, a3_n, a3_d, a3_m, hi', encI, hkl, DLoose.enc, hpg, hpt, v5]
    refine (spec_l2Do _ (r := (d, 8)) (q := []) (c1 := .own 3 (x.loose.map DLoose.enc)) (pages := doF x.pages ((keptL x ks).take i)) (data := x.loose[ks[i]].data) (pg := pg) (pt := pt) (by omega) hpl hp48 (by omega) v5 (by simp (maxSteps := 4000000) [hd0, hfr, hout, hcl, hcd, delA_none, a1, a1_n, a1_d, a1_m, a2, a2_n, a2_d, a2_m, a3, a3_n, a3_d, a3_m]) (by simp (maxSteps := 4000000) [hd0, hfr, hout, hcl, hcd, delA_none, a1, a1_n, a1_d, a1_m, a2, a2_n, a2_d, a2_m, a3, a3_n, a3_d, a3_m, hsub]) (a2_n 8) hd0 (fun K => by rw [Clean_ownR]; simp)).useCK ?_
    simp (maxSteps := 4000000) [hd0, hfr, hout, hcl, hcd, delA_none, a1, a1_n, a1_d, a1_m, a2, a2_n, a2_d, a2_m, a3, a3_n, a3_d, a3_m, w1]
    refine LK.intro (m - 1) [1, 2, 4, 8, 9] [] (by omega) (by decide) (by simp (maxSteps := 4000000) [hd0, hfr, hout, hcl, hcd, delA_none, a1, a1_n, a1_d, a1_m, a2, a2_n, a2_d, a2_m, a3, a3_n, a3_d, a3_m]) ⟨i + 1, by omega, by simp [hnx]⟩
  · simp (maxSteps := 4000000) [hd0, hfr, hout, hcl, hcd, delA_none, a1, a1_n, a1_d, a1_m, a2, a2_n, a2_d, a2_m, a3, a3_n, a3_d, a3_m, show ¬ (i : Int) < ks.length by omega, DDisk.enc, DDiskResult.enc, List.take_of_length_le (show (keptL x ks).length ≤ i by omega)]
theorem crashF_le {x : DDisk} {kept : List Int} (hl : x.le 1048576) : (crashF x kept).le 1048576 := by
  unfold crashF
  split
  · simp [DDiskResult.le, DDisk.le]
  split
  · simp [DDiskResult.le, DDisk.le]
  split
  · simp [DDiskResult.le, DDisk.le]
  rename_i h h1 h2
  obtain ⟨h48, hw, g1, g2, g3⟩ := diskF_ok (by simpa using h)
  simp only [Bool.not_eq_true] at h1
  obtain ⟨ks, rfl, hks⟩ := kept_nat h1
  rw [toNat_cast]
  have hwl : ∀ w ∈ keptL x ks, Wok x.pages.length w := by
    intro w hm
    obtain ⟨k, hk, rfl⟩ := List.mem_map.1 hm
    have := hks k hk
    simp only [List.getD_eq_getElem?_getD, List.getElem?_eq_getElem this, Option.getD_some]
    exact hw _ (List.getElem_mem this)
  have := doF_48 (l := keptL x ks) h48 hwl
  simp only [DDiskResult.le, DDisk.le]
  exact ⟨⟨by rw [doF_len]; omega, fun p hp => by rw [this p hp]; omega⟩, by simp, by simp⟩
end Go.Proofs.Ythejobdlfomcjaa

namespace Go.Proofs.Ythejobdlfomcjaa
open Go Go.Px Go.RowKit Go.Proofs
set_option linter.unnecessarySimpa false
set_option linter.unusedVariables false
set_option linter.unusedSimpArgs false
set_option maxRecDepth 100000
attribute [-simp] Int.not_le Int.not_lt
theorem laws_FnExactCrashDisk (H : HH) {r0_0 q0_0} {r0_1 q0_1} {r1_0 q1_0} {x0 : DDisk} {x1 : List (Int)} (w0 : x0.wf) (w1 : (x1.length ≤ maxLen ∧ ∀ y ∈ x1, (Lit.int .i64 y).wf = true)) (hm0 : x0.le 9223372036854775807) (hm1 : x1.length ≤ 9223372036854775807)
    (a0_0 : arrAt H r0_0 q0_0 = some (1, x0.pages.map (encS 1 encU8))) (a0_1 : arrAt H r0_1 q0_1 = some (3, x0.loose.map DLoose.enc)) (a1_0 : arrAt H r1_0 q1_0 = some (1, x1.map encI)) :
    PFun Try.prog 8 [.a [.sl r0_0 q0_0 1 0 x0.pages.length, .sl r0_1 q0_1 3 0 x0.loose.length], .c (.sl r1_0 q1_0 1 0 x1.length)] H (B true) := by
  refine PFun.of [1, 2, 4, 5, 6, 7, 8, 9, 10, 11, 12, 13, 16, 21, 37, 42, 47, 61, 69, 72, 81, 86, 89] Try.func8 rfl (by simp [Try.f8]) ?_
  intro d hd0 hfr hcl hout
  have hcd : ∀ n q, CleanH (hit [((d, n), q)]) H := fun n q => hcl.at
  have a0_0_n : ∀ n, ¬ (d, n) = r0_0 := fun n => nm_ne (ne_of_arr hfr a0_0)
  have a0_0_d : ¬ r0_0.1 = d := ne_of_arr hfr a0_0
  have a0_0_m : ∀ n, ¬ r0_0 = (d, n) := fun n => nm_ne' (ne_of_arr hfr a0_0)
  have a0_1_n : ∀ n, ¬ (d, n) = r0_1 := fun n => nm_ne (ne_of_arr hfr a0_1)
  have a0_1_d : ¬ r0_1.1 = d := ne_of_arr hfr a0_1
  have a0_1_m : ∀ n, ¬ r0_1 = (d, n) := fun n => nm_ne' (ne_of_arr hfr a0_1)
  have a1_0_n : ∀ n, ¬ (d, n) = r1_0 := fun n => nm_ne (ne_of_arr hfr a1_0)
  have a1_0_d : ¬ r1_0.1 = d := ne_of_arr hfr a1_0
  have a1_0_m : ∀ n, ¬ r1_0 = (d, n) := fun n => nm_ne' (ne_of_arr hfr a1_0)
  simp (maxSteps := 4000000) [hd0, hfr, hout, hcl, hcd, delA_none, a0_0, a0_0_n, a0_0_d, a0_0_m, a0_1, a0_1_n, a0_1_d, a0_1_m, a1_0, a1_0_n, a1_0_d, a1_0_m, Try.f8]
  by_cases g1 : 1048576 < (x1.length : Int)
  case pos => simp (maxSteps := 4000000) [hd0, hfr, hout, hcl, hcd, delA_none, a0_0, a0_0_n, a0_0_d, a0_0_m, a0_1, a0_1_n, a0_1_d, a0_1_m, a1_0, a1_0_n, a1_0_d, a1_0_m, g1]
  have hl1 : x1.length ≤ 1048576 := by omega
  simp (maxSteps := 4000000) [hd0, hfr, hout, hcl, hcd, delA_none, a0_0, a0_0_n, a0_0_d, a0_0_m, a0_1, a0_1_n, a0_1_d, a0_1_m, a1_0, a1_0_n, a1_0_d, a1_0_m, g1]
  have hok0 := DDisk.ok.2 hm0
  refine (laws_szDisk _ (row := x0.enc) hok0 (by simp only [DDisk.enc, Refs_v, Refs_own, Refs_nil, List.length_map]; exact ⟨_, _, _, rfl, by simp (maxSteps := 4000000) [hd0, hfr, hout, hcl, hcd, delA_none, a0_0, a0_0_n, a0_0_d, a0_0_m, a0_1, a0_1_n, a0_1_d, a0_1_m, a1_0, a1_0_n, a1_0_d, a1_0_m], ⟨_, _, _, rfl, by simp (maxSteps := 4000000) [hd0, hfr, hout, hcl, hcd, delA_none, a0_0, a0_0_n, a0_0_d, a0_0_m, a0_1, a0_1_n, a0_1_d, a0_1_m, a1_0, a1_0_n, a1_0_d, a1_0_m], rfl⟩⟩) (by omega) (by omega)).useCK ?_
  by_cases s0 : (cntR x0.enc : Int) ≤ 1048576
  case neg => rw [szV_neg s0]; simp (maxSteps := 4000000) [hd0, hfr, hout, hcl, hcd, delA_none, a0_0, a0_0_n, a0_0_d, a0_0_m, a0_1, a0_1_n, a0_1_d, a0_1_m, a1_0, a1_0_n, a1_0_d, a1_0_m]
  rw [szV_pos s0]
  obtain ⟨L1, hL1⟩ : ∃ L : Int, L = 1048576 - (cntR x0.enc : Int) := ⟨_, rfl⟩
  rw [← hL1]
  simp (maxSteps := 4000000) [hd0, hfr, hout, hcl, hcd, delA_none, a0_0, a0_0_n, a0_0_d, a0_0_m, a0_1, a0_1_n, a0_1_d, a0_1_m, a1_0, a1_0_n, a1_0_d, a1_0_m, show ¬ (L1 < 0) by omega]
  have hok02 : okDisk 1048576 x0.enc := okDisk_le hok0 (by omega)
  have hl0 : x0.le 1048576 := DDisk.ok.1 hok02
  have hT0 : ∀ H {r0_0 q0_0} {r0_1 q0_1}, arrAt H r0_0 q0_0 = some (1, x0.pages.map (encS 1 encU8)) → arrAt H r0_1 q0_1 = some (3, x0.loose.map DLoose.enc) → PFun Try.prog 21 [.a [.sl r0_0 q0_0 1 0 x0.pages.length, .sl r0_1 q0_1 3 0 x0.loose.length]] H (.a [.own 1 (x0.pages.map (encS 1 encU8)), .own 3 (x0.loose.map DLoose.enc)]) := fun H r0_0 q0_0 r0_1 q0_1 h0 h1 =>
    laws_toDisk H (row := x0.enc) hok02 (by simp only [DDisk.enc, Refs_v, Refs_own, Refs_nil, List.length_map]; exact ⟨_, _, _, rfl, h0, ⟨_, _, _, rfl, h1, rfl⟩⟩)
  have hok12 : ∀ r ∈ x1.map encI, okI64 r := (fun r hr => by obtain ⟨y, _, rfl⟩ := List.mem_map.1 hr; exact encI_ok y)
  have hT1 : ∀ H {r1_0 q1_0}, arrAt H r1_0 q1_0 = some (1, x1.map encI) → PFun Try.prog 51 [.c (.sl r1_0 q1_0 1 0 x1.length)] H (.c (.own 1 (x1.map encI))) := fun H r1_0 q1_0 h0 => by
    simpa using laws_toInt64S H (rows := x1.map encI) (by simpa using hl1) hok12 h0
  obtain ⟨y, hy⟩ : ∃ y, y = crashF x0 x1 := ⟨_, rfl⟩
  have hyl : y.le 1048576 := by rw [hy]; exact crashF_le hl0
  have hSr : ∀ H {r0_0 q0_0} {r0_1 q0_1} {r1_0 q1_0}, arrAt H r0_0 q0_0 = some (1, x0.pages.map (encS 1 encU8)) → arrAt H r0_1 q0_1 = some (3, x0.loose.map DLoose.enc) → arrAt H r1_0 q1_0 = some (1, x1.map encI) → PFun Try.prog 50 [.a [.sl r0_0 q0_0 1 0 x0.pages.length, .sl r0_1 q0_1 3 0 x0.loose.length], .c (.sl r1_0 q1_0 1 0 x1.length)] H (.a y.enc) := fun H r0_0 q0_0 r0_1 q0_1 r1_0 q1_0 h0 h1 h2 => by rw [hy]; exact spec_CrashDisk _ hl0 hl1 h0 h1 h2
  have hIr : ∀ H {r0_0 q0_0} {r0_1 q0_1} {r1_0 q1_0}, arrAt H r0_0 q0_0 = some (1, x0.pages.map (encS 1 encU8)) → arrAt H r0_1 q0_1 = some (3, x0.loose.map DLoose.enc) → arrAt H r1_0 q1_0 = some (1, x1.map encI) → PFun Try.prog 52 [.a [.sl r0_0 q0_0 1 0 x0.pages.length, .sl r0_1 q0_1 3 0 x0.loose.length], .c (.sl r1_0 q1_0 1 0 x1.length)] H (.a y.enc) := fun H r0_0 q0_0 r0_1 q0_1 r1_0 q1_0 h0 h1 h2 => by rw [hy]; exact impl_CrashDisk _ hl0 hl1 h0 h1 h2
  have hS : ∀ H, PFun Try.prog 50 [.a [.own 1 (x0.pages.map (encS 1 encU8)), .own 3 (x0.loose.map DLoose.enc)], .c (.own 1 (x1.map encI))] H (.a y.enc) := fun H => PFun.root rfl (fun d => y.pure _) (fun d hd hf => by simpa using hSr _ (r0_0 := (d, 0)) (q0_0 := []) (r0_1 := (d, 1)) (q0_1 := []) (r1_0 := (d, 2)) (q1_0 := []) (by simp) (by simp) (by simp))
  have hI : ∀ H, PFun Try.prog 52 [.a [.own 1 (x0.pages.map (encS 1 encU8)), .own 3 (x0.loose.map DLoose.enc)], .c (.own 1 (x1.map encI))] H (.a y.enc) := fun H => PFun.root rfl (fun d => y.pure _) (fun d hd hf => by simpa using hIr _ (r0_0 := (d, 0)) (q0_0 := []) (r0_1 := (d, 1)) (q0_1 := []) (r1_0 := (d, 2)) (q1_0 := []) (by simp) (by simp) (by simp))
  clear hy
  have hyok : okDiskResult 1048576 y.enc := DDiskResult.ok.2 hyl
  have hylv := okDiskResult_lvsb hyok
  have hE : ∀ H {n m : Nat}, arrAt H (d, n) [] = some (3, [y.enc]) → arrAt H (d, m) [] = some (3, [y.enc]) → PFun Try.prog 23 [.a [.v (.int .i64 y.code), .sl (d, n) [(0, 1)] 1 0 y.disk.pages.length, .sl (d, n) [(0, 2)] 3 0 y.disk.loose.length], .a [.v (.int .i64 y.code), .sl (d, m) [(0, 1)] 1 0 y.disk.pages.length, .sl (d, m) [(0, 2)] 3 0 y.disk.loose.length]] H (B true) := fun H n m h1 h2 =>
    laws_eqDiskResult H (row := y.enc) hyok (by simp only [DDiskResult.enc, Refs_v, Refs_own, Refs_nil, List.length_map]; exact ⟨_, rfl, ⟨_, _, _, rfl, arrAt_sub h1 (i := 0) (f := 1) rfl rfl, ⟨_, _, _, rfl, arrAt_sub h1 (i := 0) (f := 2) rfl rfl, rfl⟩⟩⟩) (by simp only [DDiskResult.enc, Refs_v, Refs_own, Refs_nil, List.length_map]; exact ⟨_, rfl, ⟨_, _, _, rfl, arrAt_sub h2 (i := 0) (f := 1) rfl rfl, ⟨_, _, _, rfl, arrAt_sub h2 (i := 0) (f := 2) rfl rfl, rfl⟩⟩⟩)
  refine (hT0 _ (by simp (maxSteps := 4000000) [hd0, hfr, hout, hcl, hcd, delA_none, a0_0, a0_0_n, a0_0_d, a0_0_m, a0_1, a0_1_n, a0_1_d, a0_1_m, a1_0, a1_0_n, a1_0_d, a1_0_m]) (by simp (maxSteps := 4000000) [hd0, hfr, hout, hcl, hcd, delA_none, a0_0, a0_0_n, a0_0_d, a0_0_m, a0_1, a0_1_n, a0_1_d, a0_1_m, a1_0, a1_0_n, a1_0_d, a1_0_m])).useCK ?_
  simp (maxSteps := 4000000) [hd0, hfr, hout, hcl, hcd, delA_none, a0_0, a0_0_n, a0_0_d, a0_0_m, a0_1, a0_1_n, a0_1_d, a0_1_m, a1_0, a1_0_n, a1_0_d, a1_0_m]
  refine (hT1 _ (by simp (maxSteps := 4000000) [hd0, hfr, hout, hcl, hcd, delA_none, a0_0, a0_0_n, a0_0_d, a0_0_m, a0_1, a0_1_n, a0_1_d, a0_1_m, a1_0, a1_0_n, a1_0_d, a1_0_m])).useCK ?_
  simp (maxSteps := 4000000) [hd0, hfr, hout, hcl, hcd, delA_none, a0_0, a0_0_n, a0_0_d, a0_0_m, a0_1, a0_1_n, a0_1_d, a0_1_m, a1_0, a1_0_n, a1_0_d, a1_0_m]
  refine (hS _).useCK ?_
  simp (maxSteps := 4000000) [hd0, hfr, hout, hcl, hcd, delA_none, a0_0, a0_0_n, a0_0_d, a0_0_m, a0_1, a0_1_n, a0_1_d, a0_1_m, a1_0, a1_0_n, a1_0_d, a1_0_m, DDiskResult.enc]
  refine (hT0 _ (by simp (maxSteps := 4000000) [hd0, hfr, hout, hcl, hcd, delA_none, a0_0, a0_0_n, a0_0_d, a0_0_m, a0_1, a0_1_n, a0_1_d, a0_1_m, a1_0, a1_0_n, a1_0_d, a1_0_m]) (by simp (maxSteps := 4000000) [hd0, hfr, hout, hcl, hcd, delA_none, a0_0, a0_0_n, a0_0_d, a0_0_m, a0_1, a0_1_n, a0_1_d, a0_1_m, a1_0, a1_0_n, a1_0_d, a1_0_m])).useCK ?_
  simp (maxSteps := 4000000) [hd0, hfr, hout, hcl, hcd, delA_none, a0_0, a0_0_n, a0_0_d, a0_0_m, a0_1, a0_1_n, a0_1_d, a0_1_m, a1_0, a1_0_n, a1_0_d, a1_0_m]
  refine (hT1 _ (by simp (maxSteps := 4000000) [hd0, hfr, hout, hcl, hcd, delA_none, a0_0, a0_0_n, a0_0_d, a0_0_m, a0_1, a0_1_n, a0_1_d, a0_1_m, a1_0, a1_0_n, a1_0_d, a1_0_m])).useCK ?_
  simp (maxSteps := 4000000) [hd0, hfr, hout, hcl, hcd, delA_none, a0_0, a0_0_n, a0_0_d, a0_0_m, a0_1, a0_1_n, a0_1_d, a0_1_m, a1_0, a1_0_n, a1_0_d, a1_0_m]
  refine (hIr _ (by simp (maxSteps := 4000000) [hd0, hfr, hout, hcl, hcd, delA_none, a0_0, a0_0_n, a0_0_d, a0_0_m, a0_1, a0_1_n, a0_1_d, a0_1_m, a1_0, a1_0_n, a1_0_d, a1_0_m]) (by simp (maxSteps := 4000000) [hd0, hfr, hout, hcl, hcd, delA_none, a0_0, a0_0_n, a0_0_d, a0_0_m, a0_1, a0_1_n, a0_1_d, a0_1_m, a1_0, a1_0_n, a1_0_d, a1_0_m]) (by simp (maxSteps := 4000000) [hd0, hfr, hout, hcl, hcd, delA_none, a0_0, a0_0_n, a0_0_d, a0_0_m, a0_1, a0_1_n, a0_1_d, a0_1_m, a1_0, a1_0_n, a1_0_d, a1_0_m])).useCK ?_
  simp (maxSteps := 4000000) [hd0, hfr, hout, hcl, hcd, delA_none, a0_0, a0_0_n, a0_0_d, a0_0_m, a0_1, a0_1_n, a0_1_d, a0_1_m, a1_0, a1_0_n, a1_0_d, a1_0_m, DDiskResult.enc]
  refine (hE _ (by simp (maxSteps := 4000000) [hd0, hfr, hout, hcl, hcd, delA_none, a0_0, a0_0_n, a0_0_d, a0_0_m, a0_1, a0_1_n, a0_1_d, a0_1_m, a1_0, a1_0_n, a1_0_d, a1_0_m, DDiskResult.enc]) (by simp (maxSteps := 4000000) [hd0, hfr, hout, hcl, hcd, delA_none, a0_0, a0_0_n, a0_0_d, a0_0_m, a0_1, a0_1_n, a0_1_d, a0_1_m, a1_0, a1_0_n, a1_0_d, a1_0_m, DDiskResult.enc])).useCK ?_
  simp (maxSteps := 4000000) [hd0, hfr, hout, hcl, hcd, delA_none, a0_0, a0_0_n, a0_0_d, a0_0_m, a0_1, a0_1_n, a0_1_d, a0_1_m, a1_0, a1_0_n, a1_0_d, a1_0_m]
  refine DrawK.intro 5 [1, 2, 6, 7, 8, 9, 42] rfl (by kernel_rfl) (by decide) ?_
  simp (maxSteps := 4000000) [hd0, hfr, hout, hcl, hcd, delA_none, a0_0, a0_0_n, a0_0_d, a0_0_m, a0_1, a0_1_n, a0_1_d, a0_1_m, a1_0, a1_0_n, a1_0_d, a1_0_m]
  refine ⟨_, hT0 _ (by simp (maxSteps := 4000000) [hd0, hfr, hout, hcl, hcd, delA_none, a0_0, a0_0_n, a0_0_d, a0_0_m, a0_1, a0_1_n, a0_1_d, a0_1_m, a1_0, a1_0_n, a1_0_d, a1_0_m]) (by simp (maxSteps := 4000000) [hd0, hfr, hout, hcl, hcd, delA_none, a0_0, a0_0_n, a0_0_d, a0_0_m, a0_1, a0_1_n, a0_1_d, a0_1_m, a1_0, a1_0_n, a1_0_d, a1_0_m]), ?_⟩
  simp (maxSteps := 4000000) [hd0, hfr, hout, hcl, hcd, delA_none, a0_0, a0_0_n, a0_0_d, a0_0_m, a0_1, a0_1_n, a0_1_d, a0_1_m, a1_0, a1_0_n, a1_0_d, a1_0_m]
  refine And.intro (by kernel_rfl) ?_
  have hEx0 : ∀ H, arrAt H (d, 7) [] = some (2, [x0.enc]) → PFun Try.prog 24 [.a [.sl (d, 7) [(0, 0)] 1 0 x0.pages.length, .sl (d, 7) [(0, 1)] 3 0 x0.loose.length], .a [.own 1 (x0.pages.map (encS 1 encU8)), .own 3 (x0.loose.map DLoose.enc)]] H (B true) := fun H h => by
    refine PFun.root rfl (fun d => by simp) (fun d2 hd hf => ?_)
    have n1 : ∀ n, ¬ (d2, n) = (d, 7) := fun n => nm_ne (ne_of_arr hf h)
    have := laws_eqDisk (((d2, 2), .own 1 (x0.pages.map (encS 1 encU8))) :: ((d2, 3), .own 3 (x0.loose.map DLoose.enc)) :: H) (row := x0.enc) (cs := [.sl (d, 7) [(0, 0)] 1 0 x0.pages.length, .sl (d, 7) [(0, 1)] 3 0 x0.loose.length]) (cs' := [.sl (d2, 2) [] 1 0 x0.pages.length, .sl (d2, 3) [] 3 0 x0.loose.length]) hok02 (by simp only [DDisk.enc, Refs_v, Refs_own, Refs_nil, List.length_map]; exact ⟨_, _, _, rfl, (by simp only [arrAt_cons, n1, if_false]; exact arrAt_sub h (i := 0) (f := 0) rfl rfl), ⟨_, _, _, rfl, (by simp only [arrAt_cons, n1, if_false]; exact arrAt_sub h (i := 0) (f := 1) rfl rfl), rfl⟩⟩) (by simp only [DDisk.enc, Refs_v, Refs_own, Refs_nil, List.length_map]; exact ⟨_, _, _, rfl, by simp, ⟨_, _, _, rfl, by simp, rfl⟩⟩)
    simpa using this
  refine ⟨_, hEx0 _ (by simp (maxSteps := 4000000) [hd0, hfr, hout, hcl, hcd, delA_none, a0_0, a0_0_n, a0_0_d, a0_0_m, a0_1, a0_1_n, a0_1_d, a0_1_m, a1_0, a1_0_n, a1_0_d, a1_0_m, DDisk.enc]), ?_⟩
  simp (maxSteps := 4000000) [hd0, hfr, hout, hcl, hcd, delA_none, a0_0, a0_0_n, a0_0_d, a0_0_m, a0_1, a0_1_n, a0_1_d, a0_1_m, a1_0, a1_0_n, a1_0_d, a1_0_m]
  refine (hT1 _ (by simp (maxSteps := 4000000) [hd0, hfr, hout, hcl, hcd, delA_none, a0_0, a0_0_n, a0_0_d, a0_0_m, a0_1, a0_1_n, a0_1_d, a0_1_m, a1_0, a1_0_n, a1_0_d, a1_0_m])).useCK ?_
  simp (maxSteps := 4000000) [hd0, hfr, hout, hcl, hcd, delA_none, a0_0, a0_0_n, a0_0_d, a0_0_m, a0_1, a0_1_n, a0_1_d, a0_1_m, a1_0, a1_0_n, a1_0_d, a1_0_m]
  have hEx1 : ∀ H, arrAt H (d, 8) [] = some (1, x1.map encI) → PFun Try.prog 53 [.c (.sl (d, 8) [] 1 0 x1.length), .c (.own 1 (x1.map encI))] H (B true) := fun H h => by
    refine PFun.root rfl (fun d => by simp) (fun d2 hd hf => ?_)
    have n1 : ∀ n, ¬ (d2, n) = (d, 8) := fun n => nm_ne (ne_of_arr hf h)
    have := laws_eqInt64S (((d2, 1), .own 1 (x1.map encI)) :: H) (r := (d, 8)) (q := []) (r2 := (d2, 1)) (q2 := []) (rows := x1.map encI) (by simpa using hl1) hok12 (by simp [n1, h]) (by simp)
    simpa using this
  refine (hEx1 _ (by simp (maxSteps := 4000000) [hd0, hfr, hout, hcl, hcd, delA_none, a0_0, a0_0_n, a0_0_d, a0_0_m, a0_1, a0_1_n, a0_1_d, a0_1_m, a1_0, a1_0_n, a1_0_d, a1_0_m])).useCK ?_
  simp (maxSteps := 4000000) [hd0, hfr, hout, hcl, hcd, delA_none, a0_0, a0_0_n, a0_0_d, a0_0_m, a0_1, a0_1_n, a0_1_d, a0_1_m, a1_0, a1_0_n, a1_0_d, a1_0_m]
  have hlv0 := okDisk_lvsb hok02
  have hM0 : ∀ H, arrAt H (d, 7) [] = some (2, [x0.enc]) → PUpd Try.prog 25 [.a [.sl (d, 7) [(0, 0)] 1 0 x0.pages.length, .sl (d, 7) [(0, 1)] 3 0 x0.loose.length], I (1)] H (I (1 + lvS x0.enc)) (setA H (d, 7) [] (.own 2 [mkS (1) x0.enc])) := fun H h => by
    have := laws_markDisk H (r := (d, 7)) (q := []) (z := 2) (i := 0) (f := 0) (rows := [x0.enc]) (pre := []) (seg := x0.enc) (post := []) (k := 1) hok02 (by omega) (by omega) h hd0 (by simp) rfl
    simpa [ldcs, ldc, DDisk.enc] using this
  have hmx0 : mkS (1) x0.enc = [.own 1 (mkRs (1) (x0.pages.map (encS 1 encU8))), .own 3 (mkRs (1 + lvRs (x0.pages.map (encS 1 encU8))) (x0.loose.map DLoose.enc))] := by simp [DDisk.enc, mkS]
  refine (hM0 _ (by simp (maxSteps := 4000000) [hd0, hfr, hout, hcl, hcd, delA_none, a0_0, a0_0_n, a0_0_d, a0_0_m, a0_1, a0_1_n, a0_1_d, a0_1_m, a1_0, a1_0_n, a1_0_d, a1_0_m, DDisk.enc])).useCK ?_
  simp (maxSteps := 4000000) [hd0, hfr, hout, hcl, hcd, delA_none, a0_0, a0_0_n, a0_0_d, a0_0_m, a0_1, a0_1_n, a0_1_d, a0_1_m, a1_0, a1_0_n, a1_0_d, a1_0_m, hmx0, show ¬ (1 + (lvS x0.enc : Int) < 0) by omega]
  have hlv1 : lvRs (x1.map encI) ≤ 1048576 := by have := lvRs_bound (rows := x1.map encI) (n := 1) (fun r hr => by obtain ⟨y, _, rfl⟩ := List.mem_map.1 hr; simp [encI, lvR_cons, lvC_v, lvR_nil]); simp at this; omega
  have hM1 : ∀ H, arrAt H (d, 8) [] = some (1, x1.map encI) → PUpd Try.prog 54 [.c (.sl (d, 8) [] 1 0 x1.length), I (1 + lvS x0.enc)] H (I (1 + lvS x0.enc + lvRs (x1.map encI))) (setA H (d, 8) [] (.own 1 (mkRs (1 + lvS x0.enc) (x1.map encI)))) := fun H h => by
    have := laws_markInt64S H (r := (d, 8)) (q := []) (rows := x1.map encI) (k := 1 + lvS x0.enc) (by simpa using hl1) hok12 (by omega) (by omega) h hd0
    simpa using this
  refine (hM1 _ (by simp (maxSteps := 4000000) [hd0, hfr, hout, hcl, hcd, delA_none, a0_0, a0_0_n, a0_0_d, a0_0_m, a0_1, a0_1_n, a0_1_d, a0_1_m, a1_0, a1_0_n, a1_0_d, a1_0_m])).useCK ?_
  simp (maxSteps := 4000000) [hd0, hfr, hout, hcl, hcd, delA_none, a0_0, a0_0_n, a0_0_d, a0_0_m, a0_1, a0_1_n, a0_1_d, a0_1_m, a1_0, a1_0_n, a1_0_d, a1_0_m, show ¬ (1 + (lvS x0.enc : Int) + (lvRs (x1.map encI) : Int) < 0) by omega]
  refine (hE _ (by simp (maxSteps := 4000000) [hd0, hfr, hout, hcl, hcd, delA_none, a0_0, a0_0_n, a0_0_d, a0_0_m, a0_1, a0_1_n, a0_1_d, a0_1_m, a1_0, a1_0_n, a1_0_d, a1_0_m, DDiskResult.enc]) (by simp (maxSteps := 4000000) [hd0, hfr, hout, hcl, hcd, delA_none, a0_0, a0_0_n, a0_0_d, a0_0_m, a0_1, a0_1_n, a0_1_d, a0_1_m, a1_0, a1_0_n, a1_0_d, a1_0_m, DDiskResult.enc])).useCK ?_
  simp (maxSteps := 4000000) [hd0, hfr, hout, hcl, hcd, delA_none, a0_0, a0_0_n, a0_0_d, a0_0_m, a0_1, a0_1_n, a0_1_d, a0_1_m, a1_0, a1_0_n, a1_0_d, a1_0_m]
  have hMR : ∀ H, arrAt H (d, 9) [] = some (3, [y.enc]) → PUpd Try.prog 26 [.a [.v (.int .i64 y.code), .sl (d, 9) [(0, 1)] 1 0 y.disk.pages.length, .sl (d, 9) [(0, 2)] 3 0 y.disk.loose.length], I 1] H (I (1 + lvS y.enc)) (setA H (d, 9) [] (.own 3 [mkS 1 y.enc])) := fun H h => by
    have := laws_markDiskResult H (r := (d, 9)) (q := []) (z := 3) (i := 0) (f := 0) (rows := [y.enc]) (pre := []) (seg := y.enc) (post := []) (k := 1) hyok (by omega) (by omega) h hd0 (by simp) rfl
    simpa [ldcs, ldc, DDiskResult.enc] using this
  have hmy : mkS 1 y.enc = [.v (.int .i64 y.code), .own 1 (mkRs (1) (y.disk.pages.map (encS 1 encU8))), .own 3 (mkRs (1 + lvRs (y.disk.pages.map (encS 1 encU8))) (y.disk.loose.map DLoose.enc))] := by simp [DDiskResult.enc, mkS]
  refine (hMR _ (by simp (maxSteps := 4000000) [hd0, hfr, hout, hcl, hcd, delA_none, a0_0, a0_0_n, a0_0_d, a0_0_m, a0_1, a0_1_n, a0_1_d, a0_1_m, a1_0, a1_0_n, a1_0_d, a1_0_m, DDiskResult.enc])).useCK ?_
  simp (maxSteps := 4000000) [hd0, hfr, hout, hcl, hcd, delA_none, a0_0, a0_0_n, a0_0_d, a0_0_m, a0_1, a0_1_n, a0_1_d, a0_1_m, a1_0, a1_0_n, a1_0_d, a1_0_m, hmy, mkRs_length]
  have hH : ∀ H, arrAt H (d, 9) [] = some (3, [mkS 1 y.enc]) → PFun Try.prog 27 [.a [.v (.int .i64 y.code), .sl (d, 9) [(0, 1)] 1 0 y.disk.pages.length, .sl (d, 9) [(0, 2)] 3 0 y.disk.loose.length], I 1] H (I (1 + lvS y.enc)) := fun H h =>
    laws_heldDiskResult H (row := y.enc) hyok (by omega) (by omega) (by rw [hmy] at h ⊢; simp only [Refs_v, Refs_own, Refs_nil, List.length_map, mkRs_length]; exact ⟨_, rfl, ⟨_, _, _, rfl, arrAt_sub h (i := 0) (f := 1) rfl rfl, ⟨_, _, _, rfl, arrAt_sub h (i := 0) (f := 2) rfl rfl, rfl⟩⟩⟩)
  refine (hH _ (by simp (maxSteps := 4000000) [hd0, hfr, hout, hcl, hcd, delA_none, a0_0, a0_0_n, a0_0_d, a0_0_m, a0_1, a0_1_n, a0_1_d, a0_1_m, a1_0, a1_0_n, a1_0_d, a1_0_m, hmy])).useCK ?_
  simp (maxSteps := 4000000) [hd0, hfr, hout, hcl, hcd, delA_none, a0_0, a0_0_n, a0_0_d, a0_0_m, a0_1, a0_1_n, a0_1_d, a0_1_m, a1_0, a1_0_n, a1_0_d, a1_0_m, hmy, mkRs_length, show ¬ (1 + (lvS y.enc : Int) < 0) by omega]
  refine (hT0 _ (by simp (maxSteps := 4000000) [hd0, hfr, hout, hcl, hcd, delA_none, a0_0, a0_0_n, a0_0_d, a0_0_m, a0_1, a0_1_n, a0_1_d, a0_1_m, a1_0, a1_0_n, a1_0_d, a1_0_m]) (by simp (maxSteps := 4000000) [hd0, hfr, hout, hcl, hcd, delA_none, a0_0, a0_0_n, a0_0_d, a0_0_m, a0_1, a0_1_n, a0_1_d, a0_1_m, a1_0, a1_0_n, a1_0_d, a1_0_m])).useCK ?_
  simp (maxSteps := 4000000) [hd0, hfr, hout, hcl, hcd, delA_none, a0_0, a0_0_n, a0_0_d, a0_0_m, a0_1, a0_1_n, a0_1_d, a0_1_m, a1_0, a1_0_n, a1_0_d, a1_0_m, hmy, mkRs_length]
  refine (hT1 _ (by simp (maxSteps := 4000000) [hd0, hfr, hout, hcl, hcd, delA_none, a0_0, a0_0_n, a0_0_d, a0_0_m, a0_1, a0_1_n, a0_1_d, a0_1_m, a1_0, a1_0_n, a1_0_d, a1_0_m])).useCK ?_
  simp (maxSteps := 4000000) [hd0, hfr, hout, hcl, hcd, delA_none, a0_0, a0_0_n, a0_0_d, a0_0_m, a0_1, a0_1_n, a0_1_d, a0_1_m, a1_0, a1_0_n, a1_0_d, a1_0_m, hmy, mkRs_length]
  refine (hI _).useCK ?_
  simp (maxSteps := 4000000) [hd0, hfr, hout, hcl, hcd, delA_none, a0_0, a0_0_n, a0_0_d, a0_0_m, a0_1, a0_1_n, a0_1_d, a0_1_m, a1_0, a1_0_n, a1_0_d, a1_0_m, hmy, mkRs_length, DDiskResult.enc]
  refine (hE _ (by simp (maxSteps := 4000000) [hd0, hfr, hout, hcl, hcd, delA_none, a0_0, a0_0_n, a0_0_d, a0_0_m, a0_1, a0_1_n, a0_1_d, a0_1_m, a1_0, a1_0_n, a1_0_d, a1_0_m, DDiskResult.enc]) (by simp (maxSteps := 4000000) [hd0, hfr, hout, hcl, hcd, delA_none, a0_0, a0_0_n, a0_0_d, a0_0_m, a0_1, a0_1_n, a0_1_d, a0_1_m, a1_0, a1_0_n, a1_0_d, a1_0_m, DDiskResult.enc])).useCK ?_
  simp (maxSteps := 4000000) [hd0, hfr, hout, hcl, hcd, delA_none, a0_0, a0_0_n, a0_0_d, a0_0_m, a0_1, a0_1_n, a0_1_d, a0_1_m, a1_0, a1_0_n, a1_0_d, a1_0_m, hmy, mkRs_length, mkRs_length]
  refine (hH _ (by simp (maxSteps := 4000000) [hd0, hfr, hout, hcl, hcd, delA_none, a0_0, a0_0_n, a0_0_d, a0_0_m, a0_1, a0_1_n, a0_1_d, a0_1_m, a1_0, a1_0_n, a1_0_d, a1_0_m, hmy])).useCK ?_
  simp (maxSteps := 4000000) [hd0, hfr, hout, hcl, hcd, delA_none, a0_0, a0_0_n, a0_0_d, a0_0_m, a0_1, a0_1_n, a0_1_d, a0_1_m, a1_0, a1_0_n, a1_0_d, a1_0_m, hmy, mkRs_length, show ¬ (1 + (lvS y.enc : Int) < 0) by omega]
  try simp [DDiskResult.enc]
end Go.Proofs.Ythejobdlfomcjaa

namespace Go.Px
set_option linter.unusedSimpArgs false
open Go.RowKit Go.Deep
set_option linter.unusedVariables false
/-- Values that are read as cells, whatever references mean. -/
def In (w : World) (L : List Cell) (V : List Value) : Prop := ∃ F, (∀ R, VRep R w L V F) ∧ ∀ b ∈ F, b < w.heap.size
theorem In.nil {w} : In w [] [] := ⟨[], fun _ => .nil, by simp⟩
theorem In.append {w L V L' V'} (h : In w L V) (h' : In w L' V') : In w (L ++ L') (V ++ V') := by
  obtain ⟨F, h1, h2⟩ := h
  obtain ⟨F', h3, h4⟩ := h'
  exact ⟨F ++ F', fun R => (h1 R).append (h3 R), fun b hb => (List.mem_append.1 hb).elim (h2 b) (h4 b)⟩
theorem In.length {w L V} (h : In w L V) : V.length = L.length := by
  obtain ⟨F, h1, _⟩ := h
  exact (h1 fun _ _ => True).length
theorem look_roots {l : List Cell} : ∀ {k j : Nat} {z els}, l[j]? = some (.own z els) → look (roots k l) (0, k + j) = some (.own z els) := by
  induction l with
  | nil => intro k j z els h; simp at h
  | cons c t ih =>
    intro k j z els h
    cases j with
    | zero => simp at h; subst h; simp [roots, look]
    | succ j =>
      have := ih (k := k + 1) (j := j) (by simpa using h)
      rw [show k + 1 + j = k + (j + 1) by omega] at this
      cases c with
      | own z' els' =>
        simp only [roots, look]
        rw [if_neg (fun e => by have := congrArg Prod.snd e; simp at this)]
        exact this
      | _ => simpa [roots] using this
/-- What came in, as named objects; and the references of each argument. -/
theorem In.open {w : World} {L : List Cell} {V : List Value} (h : In w L V) : ∃ β : Nm → Value, Holds w.heap.size (VP w β (roots 0 L)) w β (roots 0 L) [] ∧
    ∀ L0 L1 L2 V0 V1 V2, L = L0 ++ L1 ++ L2 → V = V0 ++ V1 ++ V2 → In w L0 V0 → In w L1 V1 → noRef L1 = true → VRep (VP w β (roots 0 L)) w (refs L0.length L1) V1 [] := by
  have hlen := h.length
  obtain ⟨F, h1, h2⟩ := h
  refine ⟨fun r => V.getD r.2 undef, roots_holds (h1 _) h2 (fun j v hj => ?_), fun L0 L1 L2 V0 V1 V2 hL hV i0 i1 hn => ?_⟩
  · show V.getD (0 + j) undef = v
    rw [Nat.zero_add, List.getD_eq_getElem?_getD, hj]; rfl
  · have l0 := i0.length
    have l1 := i1.length
    obtain ⟨F1, k1, k2⟩ := i1
    refine refs_rep (R := fun _ _ => True) (R' := fun _ _ => True) hn (k1 _) (fun j v hj => ?_) (fun j z els hj => ?_)
    · show V.getD (L0.length + j) undef = v
      have hlt := (List.getElem?_eq_some_iff.1 hj).1
      rw [List.getD_eq_getElem?_getD, hV, List.append_assoc, List.getElem?_append_right (by omega), List.getElem?_append_left (by omega), ← l0, Nat.add_sub_cancel_left, hj]; rfl
    · have hlt := (List.getElem?_eq_some_iff.1 hj).1
      have : L[L0.length + j]? = some (.own z els) := by
        rw [hL, List.append_assoc, List.getElem?_append_right (by omega), List.getElem?_append_left (by omega), Nat.add_sub_cancel_left, hj]
      have := look_roots (k := 0) this
      rwa [Nat.zero_add] at this
theorem Px.Op.in_ {α : Type} {P : Program} {t : TypeId} {n : Nat} {enc : α → List Cell} {q : α → Prop} (h : Px.Op P t n enc q) {H : Type} {e : TypeId × Value → H} {w : World} {base : Nat} {held : Bool} {fuel : Nat} {cs : List Value} {x : DataW H × List MemPlace}
    (hx : DataW.trod e P w base (fun _ => true) held fuel t cs = some x) (hz : w.noneFrozen x.2) : ∃ v : α, In w (enc v) cs ∧ q v := by
  obtain ⟨v, F, h1, h2, h3, h4⟩ := h H e w base held fuel cs x hx hz
  exact ⟨v, ⟨F, h1, h3⟩, h4⟩
theorem VRep.single {R w c v F} (h : VRep R w [c] [v] F) : Rep R w c v F := by
  cases h with | cons a b => cases b; simpa using a
end Go.Px
