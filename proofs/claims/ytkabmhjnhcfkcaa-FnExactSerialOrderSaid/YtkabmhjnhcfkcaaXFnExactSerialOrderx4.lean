/- The machine's side of one law: functions as plain Lean functions, and that the calls do what these say. Written by a program of this session; no condition beyond those that each theorem names. -/
import Derived.Test.YtkabmhjnhcfkcaaXFnExactSerialOrderx0
import Derived.Test.YtkabmhjnhcfkcaaXFnExactSerialOrderx3
namespace Go.Proofs.Ytkabmhjnhcfkcaa.XFnExactSerialOrder
open Go.RowKit Go.Proofs.YtkabmhjnhcfkcaaW.PrintWords Go.Proofs.YtkabmhjnhcfkcaaW.PrintLast Go.Proofs.YtkabmhjnhcfkcaaW.PrintMore
attribute [local go_sem] max2_int min2_int max_two min_two max_three min_three max_four min_four   -- for this text's walks alone
set_option linter.unusedVariables false
set_option linter.unusedSimpArgs false

/-! ### spec_HistoryFault: function 28 -/
mutual
def spec_HistoryFault.l0 : Nat → List (S48) → Int → Option (Int)
  | 0, _, _ => none
  | k + 1, x0, x3 => if x3 < (x0.length : Int) then (if 0 ≤ x3 then ((spec_l1In.f ((rd_T48 x0 x3).f0) 1 5).bind fun t143 => (if t143 = true then ((spec_l1In.f ((rd_T48 x0 x3).f1) 2 999).bind fun t144 => (if t144 = true then ((spec_l1Key.f ((rd_T48 x0 x3).f2)).bind fun t145 => (if t145 = true then ((spec_l1In.f ((rd_T48 x0 x3).f3) 0 999).bind fun t146 => (spec_HistoryFault.j1 k x0 x3 (!t146) ((rd_T48 x0 x3).f0) ((rd_T48 x0 x3).f1) ((rd_T48 x0 x3).f2) ((rd_T48 x0 x3).f3))) else (spec_HistoryFault.j1 k x0 x3 true ((rd_T48 x0 x3).f0) ((rd_T48 x0 x3).f1) ((rd_T48 x0 x3).f2) ((rd_T48 x0 x3).f3)))) else (spec_HistoryFault.j1 k x0 x3 true ((rd_T48 x0 x3).f0) ((rd_T48 x0 x3).f1) ((rd_T48 x0 x3).f2) ((rd_T48 x0 x3).f3)))) else (spec_HistoryFault.j1 k x0 x3 true ((rd_T48 x0 x3).f0) ((rd_T48 x0 x3).f1) ((rd_T48 x0 x3).f2) ((rd_T48 x0 x3).f3)))) else (none)) else (some 0)
def spec_HistoryFault.j1 : Nat → List (S48) → Int → Bool → Int → Int → Int → Int → Option (Int)
  | 0, _, _, _, _, _, _, _ => none
  | k + 1, x0, x3, x40, x143000, x143001, x143002, x143003 => if x40 = true then (some 3) else (if x143000 = 2 then (spec_HistoryFault.j2 k x0 x3 false x143000 x143001 x143002 x143003) else (if x143003 = 0 then (if x143000 = 3 then (spec_HistoryFault.j2 k x0 x3 false x143000 x143001 x143002 x143003) else (spec_HistoryFault.j2 k x0 x3 (x143002 != 0) x143000 x143001 x143002 x143003)) else (spec_HistoryFault.j2 k x0 x3 true x143000 x143001 x143002 x143003)))
def spec_HistoryFault.j2 : Nat → List (S48) → Int → Bool → Int → Int → Int → Int → Option (Int)
  | 0, _, _, _, _, _, _, _ => none
  | k + 1, x0, x3, x63, x143000, x143001, x143002, x143003 => if x63 = true then (some 1) else (if 0 ≤ x3 then (if x3 ≤ (x0.length : Int) then ((spec_l10State.f k (x0.take (x3 : Int).toNat) x143001).bind fun t151 => (if x143000 = 1 then (if t151 = 0 then (spec_HistoryFault.l0 k x0 (wrap64 (x3 + 1))) else (some 10)) else (if t151 = 1 then (spec_HistoryFault.l0 k x0 (wrap64 (x3 + 1))) else (some 10)))) else (none)) else (none))
end
def spec_HistoryFault.f (k : Nat) (l0 : List (S48)) : Option (Int) := if (l0.length : Int) > 400 then (some 2) else (spec_HistoryFault.l0 k l0 0)
theorem spec_HistoryFault.mono_l : ∀ k, (∀ y0 y1, LeO (spec_HistoryFault.l0 k y0 y1) (spec_HistoryFault.l0 (k + 1) y0 y1)) ∧ (∀ y0 y1 y2 y3 y4 y5 y6, LeO (spec_HistoryFault.j1 k y0 y1 y2 y3 y4 y5 y6) (spec_HistoryFault.j1 (k + 1) y0 y1 y2 y3 y4 y5 y6)) ∧ (∀ y0 y1 y2 y3 y4 y5 y6, LeO (spec_HistoryFault.j2 k y0 y1 y2 y3 y4 y5 y6) (spec_HistoryFault.j2 (k + 1) y0 y1 y2 y3 y4 y5 y6))
  | 0 => ⟨fun _ _ r h => by simp [spec_HistoryFault.l0] at h, fun _ _ _ _ _ _ _ r h => by simp [spec_HistoryFault.j1] at h, fun _ _ _ _ _ _ _ r h => by simp [spec_HistoryFault.j2] at h⟩
  | k + 1 => by
    obtain ⟨ih0, ih1, ih2⟩ := spec_HistoryFault.mono_l k
    refine ⟨?_, ?_, ?_⟩
    · intro y0 y1
      unfold spec_HistoryFault.l0
      repeat' first
      | (with_reducible exact ih0 _ _)
      | (with_reducible exact ih1 _ _ _ _ _ _ _)
      | (with_reducible exact ih2 _ _ _ _ _ _ _)
      | (with_reducible exact spec_l10State.mono _ _ _)
      | (with_reducible exact LeO.refl _)
      | (with_reducible exact LeO.none _)
      | (with_reducible refine LeO.ite ?_ ?_)
      | (with_reducible refine LeO.bind ?_ (fun _ => ?_))
      | exact ih0 _ _
      | exact ih1 _ _ _ _ _ _ _
      | exact ih2 _ _ _ _ _ _ _
      | exact spec_l10State.mono _ _ _
      | exact LeO.none _
      | refine LeO.ite ?_ ?_
      | refine LeO.bind ?_ (fun _ => ?_)
    · intro y0 y1 y2 y3 y4 y5 y6
      unfold spec_HistoryFault.j1
      repeat' first
      | (with_reducible exact ih0 _ _)
      | (with_reducible exact ih1 _ _ _ _ _ _ _)
      | (with_reducible exact ih2 _ _ _ _ _ _ _)
      | (with_reducible exact spec_l10State.mono _ _ _)
      | (with_reducible exact LeO.refl _)
      | (with_reducible exact LeO.none _)
      | (with_reducible refine LeO.ite ?_ ?_)
      | (with_reducible refine LeO.bind ?_ (fun _ => ?_))
      | exact ih0 _ _
      | exact ih1 _ _ _ _ _ _ _
      | exact ih2 _ _ _ _ _ _ _
      | exact spec_l10State.mono _ _ _
      | exact LeO.none _
      | refine LeO.ite ?_ ?_
      | refine LeO.bind ?_ (fun _ => ?_)
    · intro y0 y1 y2 y3 y4 y5 y6
      unfold spec_HistoryFault.j2
      repeat' first
      | (with_reducible exact ih0 _ _)
      | (with_reducible exact ih1 _ _ _ _ _ _ _)
      | (with_reducible exact ih2 _ _ _ _ _ _ _)
      | (with_reducible exact spec_l10State.mono _ _ _)
      | (with_reducible exact LeO.refl _)
      | (with_reducible exact LeO.none _)
      | (with_reducible refine LeO.ite ?_ ?_)
      | (with_reducible refine LeO.bind ?_ (fun _ => ?_))
      | exact ih0 _ _
      | exact ih1 _ _ _ _ _ _ _
      | exact ih2 _ _ _ _ _ _ _
      | exact spec_l10State.mono _ _ _
      | exact LeO.none _
      | refine LeO.ite ?_ ?_
      | refine LeO.bind ?_ (fun _ => ?_)
theorem spec_HistoryFault.mono : ∀ a0 k, LeO (spec_HistoryFault.f k a0) (spec_HistoryFault.f (k + 1) a0) := by
  intro a0 k
  obtain ⟨ih0, ih1, ih2⟩ := spec_HistoryFault.mono_l k
  unfold spec_HistoryFault.f
  repeat' first
      | (with_reducible exact ih0 _ _)
      | (with_reducible exact ih1 _ _ _ _ _ _ _)
      | (with_reducible exact ih2 _ _ _ _ _ _ _)
      | (with_reducible exact spec_l10State.mono _ _ _)
      | (with_reducible exact LeO.refl _)
      | (with_reducible exact LeO.none _)
      | (with_reducible refine LeO.ite ?_ ?_)
      | (with_reducible refine LeO.bind ?_ (fun _ => ?_))
      | exact ih0 _ _
      | exact ih1 _ _ _ _ _ _ _
      | exact ih2 _ _ _ _ _ _ _
      | exact spec_l10State.mono _ _ _
      | exact LeO.none _
      | refine LeO.ite ?_ ?_
      | refine LeO.bind ?_ (fun _ => ?_)
set_option maxHeartbeats 8000000 in
set_option maxRecDepth 100000 in
theorem spec_HistoryFault.calls (k : Nat) (A0 : Option Addr) (c0 : Nat) (l0 : List (S48)) (r : Int) (w : World) (hr0 : Kd.C k48 w A0 l0.length l0) (hc0 : l0.length ≤ c0) (h : spec_HistoryFault.f k l0 = some r) :
    Calls Try.prog 28 #[.slice A0 l0.length c0] w fun e w' => e = .returned (.int .i64 r) ∧ Below w.heap.size w w' := by
  have hu48 := Try.underlying48
  have HR0 := Aside0.mk hr0
  have HC0 := Aside0.mk hc0
  clear hr0 hc0
  have HB := Aside0.mk (Below.refl w.heap.size w)
  have H : (if (l0.length : Int) > 400 then (some 2) else (spec_HistoryFault.l0 k l0 0)) = some r := h
  clear h
  by_cases c2 : (l0.length : Int) > 400
  · rw [if_pos c2] at H
    have c2b0 : decide (400 < (l0.length : Int)) = true := decide_eq_true c2
    have c2b1 : decide (400 < l0.length) = true := decide_eq_true (by omega)
    clear c2
    obtain rfl := Option.some.inj H
    go_enter Try.func28, Try.ntmps28
    go_wp2
    repeat (go_quiet (fail); try go_wp2)
    go_ret
    exact ⟨by first | rfl | (simp [errW_none, errW_some] <;> rfl) | (simp [*, errW_none, errW_some] <;> rfl), by repeat (first | (with_reducible first | exact HB.out | apply below_alloc | apply pw_below_drewN | apply below_drew1) | exact HB.out)⟩
  · rw [if_neg c2] at H
    have c2b0 : decide (400 < (l0.length : Int)) = false := decide_eq_false c2
    have c2b1 : decide (400 < l0.length) = false := decide_eq_false (by omega)
    clear c2
    have H' := Aside0.mk H
    clear H
    go_enter Try.func28, Try.ntmps28
    go_wp2
    repeat (go_quiet (fail); try go_wp2)
    go_loopg [3] k (fun kq v3 w' => ∃ (x3_1 : Int), v3 = .int .i64 x3_1 ∧ Aside0 (spec_HistoryFault.l0 kq l0 x3_1 = some r) ∧ Aside0 (kq ≤ k) ∧ Aside0 (Below w.heap.size w w'))
    case atStart => exact ⟨(0), (by first | rfl | (simp; done) | (simp [*]; done)), H', ⟨Nat.le_refl _⟩, ⟨by repeat (first | (with_reducible first | exact HB.out | apply below_alloc | apply pw_below_drewN | apply below_drew1) | exact HB.out)⟩⟩
    case round =>
      clear H'
      try clear c2
      try clear c2b0
      try clear c2b1
      try clear p2
      obtain ⟨x3_1, rfl, HA, HK1, HB⟩ := hrel
      cases gk with
      | zero => exact absurd HA.out (by simp [spec_HistoryFault.l0])
      | succ k1 =>
        have H := HA.out
        clear HA
        simp only [spec_HistoryFault.l0] at H
        by_cases c3 : x3_1 < (l0.length : Int)
        · rw [if_pos c3] at H
          have c3b0 : decide (x3_1 < (l0.length : Int)) = true := decide_eq_true c3
          clear c3
          by_cases c4 : 0 ≤ x3_1
          · rw [if_pos c4] at H
            have c4b0 : decide (0 ≤ x3_1) = true := decide_eq_true c4
            clear c4
            have HC5 := Aside0.mk H
            clear H
            have p141 : 0 ≤ (x3_1 : Int) := od
            have q141 : x3_1 < (l0.length : Int) := od
            obtain ⟨ad141, e141, hx141_0, hx141_1, hx141_2, hx141_3⟩ := at_T48 HR0.out x3_1 p141 q141
            cases e141
            replace hx141_0 := (HB.out.cell (World.block_lt_of_cell? w _ hx141_0)).trans hx141_0
            replace hx141_1 := (HB.out.cell (World.block_lt_of_cell? w _ hx141_1)).trans hx141_1
            replace hx141_2 := (HB.out.cell (World.block_lt_of_cell? w _ hx141_2)).trans hx141_2
            replace hx141_3 := (HB.out.cell (World.block_lt_of_cell? w _ hx141_3)).trans hx141_3
            replace p141 := eq_true p141
            replace q141 := eq_true q141
            go_upto_region 7 with (first | ((with_reducible refine gate_dst (N := 4) rfl ?_); refine box_event ?hg (N := 4) ?hd (cs := #[.int .i64 0, .int .i64 0, .int .i64 0, .int .i64 0]) (t := 48) ?hr ?_; (case hd => rfl); (case hg => rfl); (case hr => first | (go_simp; done) | (go_simp; rfl)); intro gb142 hg w6 hbox hb; have n0_ := Aside0.mk (below_step bo hb); have n1_ := Aside0.mk (hbox); have n2_ := Aside0.mk ((by rw [hg]; exact (below_size bo) : w.heap.size ≤ gb142)); have n3_ := Aside0.mk ((by rw [hg]; exact (below_size bo) : w.heap.size ≤ gb142)); clear HB; have HB := n0_; have BK142 := n1_; have GW142 := n2_; have GE142 := n3_; clear n0_ n1_ n2_ n3_; clear hb hbox hg; have hcz7_0 : w6.cell? ⟨gb142, 0, none⟩ = some (.int .i64 0) := (blk_cell BK142.out 0).trans rfl; have hcz7_1 : w6.cell? ⟨gb142, 1, none⟩ = some (.int .i64 0) := (blk_cell BK142.out 1).trans rfl; have hcz7_2 : w6.cell? ⟨gb142, 2, none⟩ = some (.int .i64 0) := (blk_cell BK142.out 2).trans rfl; have hcz7_3 : w6.cell? ⟨gb142, 3, none⟩ = some (.int .i64 0) := (blk_cell BK142.out 3).trans rfl; have hfz7_0 := blk_frozen BK142.out 0; have hfz7_1 := blk_frozen BK142.out 1; have hfz7_2 := blk_frozen BK142.out 2; have hfz7_3 := blk_frozen BK142.out 3))
            repeat (go_quiet (first | ((with_reducible refine gate_dst (N := 4) rfl ?_); refine box_event ?hg (N := 4) ?hd (cs := #[.int .i64 0, .int .i64 0, .int .i64 0, .int .i64 0]) (t := 48) ?hr ?_; (case hd => rfl); (case hg => rfl); (case hr => first | (go_simp; done) | (go_simp; rfl)); intro gb142 hg w6 hbox hb; have n0_ := Aside0.mk (below_step bo hb); have n1_ := Aside0.mk (hbox); have n2_ := Aside0.mk ((by rw [hg]; exact (below_size bo) : w.heap.size ≤ gb142)); have n3_ := Aside0.mk ((by rw [hg]; exact (below_size bo) : w.heap.size ≤ gb142)); clear HB; have HB := n0_; have BK142 := n1_; have GW142 := n2_; have GE142 := n3_; clear n0_ n1_ n2_ n3_; clear hb hbox hg; have hcz7_0 : w6.cell? ⟨gb142, 0, none⟩ = some (.int .i64 0) := (blk_cell BK142.out 0).trans rfl; have hcz7_1 : w6.cell? ⟨gb142, 1, none⟩ = some (.int .i64 0) := (blk_cell BK142.out 1).trans rfl; have hcz7_2 : w6.cell? ⟨gb142, 2, none⟩ = some (.int .i64 0) := (blk_cell BK142.out 2).trans rfl; have hcz7_3 : w6.cell? ⟨gb142, 3, none⟩ = some (.int .i64 0) := (blk_cell BK142.out 3).trans rfl; have hfz7_0 := blk_frozen BK142.out 0; have hfz7_1 := blk_frozen BK142.out 1; have hfz7_2 := blk_frozen BK142.out 2; have hfz7_3 := blk_frozen BK142.out 3)); go_upto_region 7 with (first | ((with_reducible refine gate_dst (N := 4) rfl ?_); refine box_event ?hg (N := 4) ?hd (cs := #[.int .i64 0, .int .i64 0, .int .i64 0, .int .i64 0]) (t := 48) ?hr ?_; (case hd => rfl); (case hg => rfl); (case hr => first | (go_simp; done) | (go_simp; rfl)); intro gb142 hg w6 hbox hb; have n0_ := Aside0.mk (below_step bo hb); have n1_ := Aside0.mk (hbox); have n2_ := Aside0.mk ((by rw [hg]; exact (below_size bo) : w.heap.size ≤ gb142)); have n3_ := Aside0.mk ((by rw [hg]; exact (below_size bo) : w.heap.size ≤ gb142)); clear HB; have HB := n0_; have BK142 := n1_; have GW142 := n2_; have GE142 := n3_; clear n0_ n1_ n2_ n3_; clear hb hbox hg; have hcz7_0 : w6.cell? ⟨gb142, 0, none⟩ = some (.int .i64 0) := (blk_cell BK142.out 0).trans rfl; have hcz7_1 : w6.cell? ⟨gb142, 1, none⟩ = some (.int .i64 0) := (blk_cell BK142.out 1).trans rfl; have hcz7_2 : w6.cell? ⟨gb142, 2, none⟩ = some (.int .i64 0) := (blk_cell BK142.out 2).trans rfl; have hcz7_3 : w6.cell? ⟨gb142, 3, none⟩ = some (.int .i64 0) := (blk_cell BK142.out 3).trans rfl; have hfz7_0 := blk_frozen BK142.out 0; have hfz7_1 := blk_frozen BK142.out 1; have hfz7_2 := blk_frozen BK142.out 2; have hfz7_3 := blk_frozen BK142.out 3)))
            (try simp only [Act.put, List.setIfInBounds_toArray, List.set_cons_zero, List.set_cons_succ])
            go_cut [40] (fun v40 wc => ∃ (kq : Nat) (x40_4 : Bool), v40 = .bool x40_4 ∧ Aside0 (spec_HistoryFault.j1 kq l0 x3_1 x40_4 ((rd_T48 l0 x3_1).f0) ((rd_T48 l0 x3_1).f1) ((rd_T48 l0 x3_1).f2) ((rd_T48 l0 x3_1).f3) = some r) ∧ Aside0 (kq ≤ k1) ∧ Aside0 (wc.heap[gb142]? = some (.cells #[.int .i64 ((rd_T48 l0 x3_1).f0), .int .i64 ((rd_T48 l0 x3_1).f1), .int .i64 ((rd_T48 l0 x3_1).f2), .int .i64 ((rd_T48 l0 x3_1).f3)] 48 (0, 0))) ∧ Aside0 (Below w.heap.size w wc))
            case first =>
              have H := HC5.out
              clear HC5
              replace H := Option.bind_eq_some_iff.mp H
              obtain ⟨t143, A80, H⟩ := H
              replace H : (if t143 = true then ((spec_l1In.f ((rd_T48 l0 x3_1).f1) 2 999).bind fun t144 => (if t144 = true then ((spec_l1Key.f ((rd_T48 l0 x3_1).f2)).bind fun t145 => (if t145 = true then ((spec_l1In.f ((rd_T48 l0 x3_1).f3) 0 999).bind fun t146 => (spec_HistoryFault.j1 k1 l0 x3_1 (!t146) ((rd_T48 l0 x3_1).f0) ((rd_T48 l0 x3_1).f1) ((rd_T48 l0 x3_1).f2) ((rd_T48 l0 x3_1).f3))) else (spec_HistoryFault.j1 k1 l0 x3_1 true ((rd_T48 l0 x3_1).f0) ((rd_T48 l0 x3_1).f1) ((rd_T48 l0 x3_1).f2) ((rd_T48 l0 x3_1).f3)))) else (spec_HistoryFault.j1 k1 l0 x3_1 true ((rd_T48 l0 x3_1).f0) ((rd_T48 l0 x3_1).f1) ((rd_T48 l0 x3_1).f2) ((rd_T48 l0 x3_1).f3)))) else (spec_HistoryFault.j1 k1 l0 x3_1 true ((rd_T48 l0 x3_1).f0) ((rd_T48 l0 x3_1).f1) ((rd_T48 l0 x3_1).f2) ((rd_T48 l0 x3_1).f3))) = some r := H
              have A8 := Aside0.mk A80
              clear A80
              by_cases c9 : t143 = true
              · subst c9
                have H1 : ((spec_l1In.f ((rd_T48 l0 x3_1).f1) 2 999).bind fun t144 => (if t144 = true then ((spec_l1Key.f ((rd_T48 l0 x3_1).f2)).bind fun t145 => (if t145 = true then ((spec_l1In.f ((rd_T48 l0 x3_1).f3) 0 999).bind fun t146 => (spec_HistoryFault.j1 k1 l0 x3_1 (!t146) ((rd_T48 l0 x3_1).f0) ((rd_T48 l0 x3_1).f1) ((rd_T48 l0 x3_1).f2) ((rd_T48 l0 x3_1).f3))) else (spec_HistoryFault.j1 k1 l0 x3_1 true ((rd_T48 l0 x3_1).f0) ((rd_T48 l0 x3_1).f1) ((rd_T48 l0 x3_1).f2) ((rd_T48 l0 x3_1).f3)))) else (spec_HistoryFault.j1 k1 l0 x3_1 true ((rd_T48 l0 x3_1).f0) ((rd_T48 l0 x3_1).f1) ((rd_T48 l0 x3_1).f2) ((rd_T48 l0 x3_1).f3)))) = some r := by rw [if_pos rfl] at H; exact H
                clear H
                have H := H1
                clear H1
                replace H := Option.bind_eq_some_iff.mp H
                obtain ⟨t144, A100, H⟩ := H
                replace H : (if t144 = true then ((spec_l1Key.f ((rd_T48 l0 x3_1).f2)).bind fun t145 => (if t145 = true then ((spec_l1In.f ((rd_T48 l0 x3_1).f3) 0 999).bind fun t146 => (spec_HistoryFault.j1 k1 l0 x3_1 (!t146) ((rd_T48 l0 x3_1).f0) ((rd_T48 l0 x3_1).f1) ((rd_T48 l0 x3_1).f2) ((rd_T48 l0 x3_1).f3))) else (spec_HistoryFault.j1 k1 l0 x3_1 true ((rd_T48 l0 x3_1).f0) ((rd_T48 l0 x3_1).f1) ((rd_T48 l0 x3_1).f2) ((rd_T48 l0 x3_1).f3)))) else (spec_HistoryFault.j1 k1 l0 x3_1 true ((rd_T48 l0 x3_1).f0) ((rd_T48 l0 x3_1).f1) ((rd_T48 l0 x3_1).f2) ((rd_T48 l0 x3_1).f3))) = some r := H
                have A10 := Aside0.mk A100
                clear A100
                by_cases c11 : t144 = true
                · subst c11
                  have H1 : ((spec_l1Key.f ((rd_T48 l0 x3_1).f2)).bind fun t145 => (if t145 = true then ((spec_l1In.f ((rd_T48 l0 x3_1).f3) 0 999).bind fun t146 => (spec_HistoryFault.j1 k1 l0 x3_1 (!t146) ((rd_T48 l0 x3_1).f0) ((rd_T48 l0 x3_1).f1) ((rd_T48 l0 x3_1).f2) ((rd_T48 l0 x3_1).f3))) else (spec_HistoryFault.j1 k1 l0 x3_1 true ((rd_T48 l0 x3_1).f0) ((rd_T48 l0 x3_1).f1) ((rd_T48 l0 x3_1).f2) ((rd_T48 l0 x3_1).f3)))) = some r := by rw [if_pos rfl] at H; exact H
                  clear H
                  have H := H1
                  clear H1
                  replace H := Option.bind_eq_some_iff.mp H
                  obtain ⟨t145, A120, H⟩ := H
                  replace H : (if t145 = true then ((spec_l1In.f ((rd_T48 l0 x3_1).f3) 0 999).bind fun t146 => (spec_HistoryFault.j1 k1 l0 x3_1 (!t146) ((rd_T48 l0 x3_1).f0) ((rd_T48 l0 x3_1).f1) ((rd_T48 l0 x3_1).f2) ((rd_T48 l0 x3_1).f3))) else (spec_HistoryFault.j1 k1 l0 x3_1 true ((rd_T48 l0 x3_1).f0) ((rd_T48 l0 x3_1).f1) ((rd_T48 l0 x3_1).f2) ((rd_T48 l0 x3_1).f3))) = some r := H
                  have A12 := Aside0.mk A120
                  clear A120
                  by_cases c13 : t145 = true
                  · subst c13
                    have H1 : ((spec_l1In.f ((rd_T48 l0 x3_1).f3) 0 999).bind fun t146 => (spec_HistoryFault.j1 k1 l0 x3_1 (!t146) ((rd_T48 l0 x3_1).f0) ((rd_T48 l0 x3_1).f1) ((rd_T48 l0 x3_1).f2) ((rd_T48 l0 x3_1).f3))) = some r := by rw [if_pos rfl] at H; exact H
                    clear H
                    have H := H1
                    clear H1
                    replace H := Option.bind_eq_some_iff.mp H
                    obtain ⟨t146, A140, H⟩ := H
                    replace H : (spec_HistoryFault.j1 k1 l0 x3_1 (!t146) ((rd_T48 l0 x3_1).f0) ((rd_T48 l0 x3_1).f1) ((rd_T48 l0 x3_1).f2) ((rd_T48 l0 x3_1).f3)) = some r := H
                    have A14 := Aside0.mk A140
                    clear A140
                    have H' := Aside0.mk H
                    clear H
                    have hcz15_0 : w6.cell? ⟨gb142, 0, none⟩ = some (.int .i64 0) := (blk_cell BK142.out 0).trans rfl
                    have hcz15_1 : w6.cell? ⟨gb142, 1, none⟩ = some (.int .i64 0) := (blk_cell BK142.out 1).trans rfl
                    have hcz15_2 : w6.cell? ⟨gb142, 2, none⟩ = some (.int .i64 0) := (blk_cell BK142.out 2).trans rfl
                    have hcz15_3 : w6.cell? ⟨gb142, 3, none⟩ = some (.int .i64 0) := (blk_cell BK142.out 3).trans rfl
                    have hfz15_0 := blk_frozen BK142.out 0
                    have hfz15_1 := blk_frozen BK142.out 1
                    have hfz15_2 := blk_frozen BK142.out 2
                    have hfz15_3 := blk_frozen BK142.out 3
                    go_wp2_with (first | (go_at_call 63; (with_reducible refine (spec_l1In.calls ((rd_T48 l0 x3_1).f0) 1 5 true _ A8.out).mono ?_); rintro e w' ⟨rfl, ⟨nd, rfl⟩⟩; (try first | exact ⟨rfl, _, World.drewN_drewN _ _ _⟩ | exact ⟨rfl, _, Eq.trans (World.drewN_drewN _ _ _) (congrArg (World.drewN _) (Nat.add_assoc _ _ _))⟩)) | (go_at_call 63; (with_reducible refine (spec_l1In.calls ((rd_T48 l0 x3_1).f1) 2 999 true _ A10.out).mono ?_); rintro e w' ⟨rfl, ⟨nd, rfl⟩⟩; (try first | exact ⟨rfl, _, World.drewN_drewN _ _ _⟩ | exact ⟨rfl, _, Eq.trans (World.drewN_drewN _ _ _) (congrArg (World.drewN _) (Nat.add_assoc _ _ _))⟩)) | (go_at_call 64; (with_reducible refine (spec_l1Key.calls ((rd_T48 l0 x3_1).f2) true _ A12.out).mono ?_); rintro e w' ⟨rfl, ⟨nd, rfl⟩⟩; (try first | exact ⟨rfl, _, World.drewN_drewN _ _ _⟩ | exact ⟨rfl, _, Eq.trans (World.drewN_drewN _ _ _) (congrArg (World.drewN _) (Nat.add_assoc _ _ _))⟩)) | (go_at_call 63; (with_reducible refine (spec_l1In.calls ((rd_T48 l0 x3_1).f3) 0 999 t146 _ A14.out).mono ?_); rintro e w' ⟨rfl, ⟨nd, rfl⟩⟩; (try first | exact ⟨rfl, _, World.drewN_drewN _ _ _⟩ | exact ⟨rfl, _, Eq.trans (World.drewN_drewN _ _ _) (congrArg (World.drewN _) (Nat.add_assoc _ _ _))⟩)))
                    repeat (go_quiet (first | (go_at_call 63; (with_reducible refine (spec_l1In.calls ((rd_T48 l0 x3_1).f0) 1 5 true _ A8.out).mono ?_); rintro e w' ⟨rfl, ⟨nd, rfl⟩⟩; (try first | exact ⟨rfl, _, World.drewN_drewN _ _ _⟩ | exact ⟨rfl, _, Eq.trans (World.drewN_drewN _ _ _) (congrArg (World.drewN _) (Nat.add_assoc _ _ _))⟩)) | (go_at_call 63; (with_reducible refine (spec_l1In.calls ((rd_T48 l0 x3_1).f1) 2 999 true _ A10.out).mono ?_); rintro e w' ⟨rfl, ⟨nd, rfl⟩⟩; (try first | exact ⟨rfl, _, World.drewN_drewN _ _ _⟩ | exact ⟨rfl, _, Eq.trans (World.drewN_drewN _ _ _) (congrArg (World.drewN _) (Nat.add_assoc _ _ _))⟩)) | (go_at_call 64; (with_reducible refine (spec_l1Key.calls ((rd_T48 l0 x3_1).f2) true _ A12.out).mono ?_); rintro e w' ⟨rfl, ⟨nd, rfl⟩⟩; (try first | exact ⟨rfl, _, World.drewN_drewN _ _ _⟩ | exact ⟨rfl, _, Eq.trans (World.drewN_drewN _ _ _) (congrArg (World.drewN _) (Nat.add_assoc _ _ _))⟩)) | (go_at_call 63; (with_reducible refine (spec_l1In.calls ((rd_T48 l0 x3_1).f3) 0 999 t146 _ A14.out).mono ?_); rintro e w' ⟨rfl, ⟨nd, rfl⟩⟩; (try first | exact ⟨rfl, _, World.drewN_drewN _ _ _⟩ | exact ⟨rfl, _, Eq.trans (World.drewN_drewN _ _ _) (congrArg (World.drewN _) (Nat.add_assoc _ _ _))⟩))); try go_wp2_with (first | (go_at_call 63; (with_reducible refine (spec_l1In.calls ((rd_T48 l0 x3_1).f0) 1 5 true _ A8.out).mono ?_); rintro e w' ⟨rfl, ⟨nd, rfl⟩⟩; (try first | exact ⟨rfl, _, World.drewN_drewN _ _ _⟩ | exact ⟨rfl, _, Eq.trans (World.drewN_drewN _ _ _) (congrArg (World.drewN _) (Nat.add_assoc _ _ _))⟩)) | (go_at_call 63; (with_reducible refine (spec_l1In.calls ((rd_T48 l0 x3_1).f1) 2 999 true _ A10.out).mono ?_); rintro e w' ⟨rfl, ⟨nd, rfl⟩⟩; (try first | exact ⟨rfl, _, World.drewN_drewN _ _ _⟩ | exact ⟨rfl, _, Eq.trans (World.drewN_drewN _ _ _) (congrArg (World.drewN _) (Nat.add_assoc _ _ _))⟩)) | (go_at_call 64; (with_reducible refine (spec_l1Key.calls ((rd_T48 l0 x3_1).f2) true _ A12.out).mono ?_); rintro e w' ⟨rfl, ⟨nd, rfl⟩⟩; (try first | exact ⟨rfl, _, World.drewN_drewN _ _ _⟩ | exact ⟨rfl, _, Eq.trans (World.drewN_drewN _ _ _) (congrArg (World.drewN _) (Nat.add_assoc _ _ _))⟩)) | (go_at_call 63; (with_reducible refine (spec_l1In.calls ((rd_T48 l0 x3_1).f3) 0 999 t146 _ A14.out).mono ?_); rintro e w' ⟨rfl, ⟨nd, rfl⟩⟩; (try first | exact ⟨rfl, _, World.drewN_drewN _ _ _⟩ | exact ⟨rfl, _, Eq.trans (World.drewN_drewN _ _ _) (congrArg (World.drewN _) (Nat.add_assoc _ _ _))⟩))))
                    go_meet
                    case rel => exact ⟨_, (!t146), (by first | rfl | (simp; done) | (simp [*]; done)), H', ⟨by have := HK1.out; first | omega | exact Nat.le_refl _⟩, ⟨by (with_reducible repeat (first | refine blk_drewN ?_ _ | refine blk_drew ?_ | refine blk_alloc ?_ _)); refine blk_put (cs := #[.int .i64 ((rd_T48 l0 x3_1).f0), .int .i64 ((rd_T48 l0 x3_1).f1), .int .i64 ((rd_T48 l0 x3_1).f2), .int .i64 0]) ?_ 3 _ rfl; (with_reducible repeat (first | refine blk_drewN ?_ _ | refine blk_drew ?_ | refine blk_alloc ?_ _)); refine blk_put (cs := #[.int .i64 ((rd_T48 l0 x3_1).f0), .int .i64 ((rd_T48 l0 x3_1).f1), .int .i64 0, .int .i64 0]) ?_ 2 _ rfl; (with_reducible repeat (first | refine blk_drewN ?_ _ | refine blk_drew ?_ | refine blk_alloc ?_ _)); refine blk_put (cs := #[.int .i64 ((rd_T48 l0 x3_1).f0), .int .i64 0, .int .i64 0, .int .i64 0]) ?_ 1 _ rfl; (with_reducible repeat (first | refine blk_drewN ?_ _ | refine blk_drew ?_ | refine blk_alloc ?_ _)); refine blk_put (cs := #[.int .i64 0, .int .i64 0, .int .i64 0, .int .i64 0]) ?_ 0 _ rfl; (with_reducible repeat (first | refine blk_drewN ?_ _ | refine blk_drew ?_ | refine blk_alloc ?_ _)); exact BK142.out⟩, ⟨by repeat (first | (with_reducible first | exact HB.out | apply below_alloc | apply pw_below_drewN | apply below_drew1 | refine below_set ?_ GE142.out) | exact HB.out)⟩⟩
                  · replace c13 := Bool.eq_false_iff.mpr c13
                    subst c13
                    have H1 : (spec_HistoryFault.j1 k1 l0 x3_1 true ((rd_T48 l0 x3_1).f0) ((rd_T48 l0 x3_1).f1) ((rd_T48 l0 x3_1).f2) ((rd_T48 l0 x3_1).f3)) = some r := by rw [if_neg (show ¬ (false = true) by decide)] at H; exact H
                    clear H
                    have H := H1
                    clear H1
                    have H' := Aside0.mk H
                    clear H
                    have hcz16_0 : w6.cell? ⟨gb142, 0, none⟩ = some (.int .i64 0) := (blk_cell BK142.out 0).trans rfl
                    have hcz16_1 : w6.cell? ⟨gb142, 1, none⟩ = some (.int .i64 0) := (blk_cell BK142.out 1).trans rfl
                    have hcz16_2 : w6.cell? ⟨gb142, 2, none⟩ = some (.int .i64 0) := (blk_cell BK142.out 2).trans rfl
                    have hcz16_3 : w6.cell? ⟨gb142, 3, none⟩ = some (.int .i64 0) := (blk_cell BK142.out 3).trans rfl
                    have hfz16_0 := blk_frozen BK142.out 0
                    have hfz16_1 := blk_frozen BK142.out 1
                    have hfz16_2 := blk_frozen BK142.out 2
                    have hfz16_3 := blk_frozen BK142.out 3
                    go_wp2_with (first | (go_at_call 63; (with_reducible refine (spec_l1In.calls ((rd_T48 l0 x3_1).f0) 1 5 true _ A8.out).mono ?_); rintro e w' ⟨rfl, ⟨nd, rfl⟩⟩; (try first | exact ⟨rfl, _, World.drewN_drewN _ _ _⟩ | exact ⟨rfl, _, Eq.trans (World.drewN_drewN _ _ _) (congrArg (World.drewN _) (Nat.add_assoc _ _ _))⟩)) | (go_at_call 63; (with_reducible refine (spec_l1In.calls ((rd_T48 l0 x3_1).f1) 2 999 true _ A10.out).mono ?_); rintro e w' ⟨rfl, ⟨nd, rfl⟩⟩; (try first | exact ⟨rfl, _, World.drewN_drewN _ _ _⟩ | exact ⟨rfl, _, Eq.trans (World.drewN_drewN _ _ _) (congrArg (World.drewN _) (Nat.add_assoc _ _ _))⟩)) | (go_at_call 64; (with_reducible refine (spec_l1Key.calls ((rd_T48 l0 x3_1).f2) false _ A12.out).mono ?_); rintro e w' ⟨rfl, ⟨nd, rfl⟩⟩; (try first | exact ⟨rfl, _, World.drewN_drewN _ _ _⟩ | exact ⟨rfl, _, Eq.trans (World.drewN_drewN _ _ _) (congrArg (World.drewN _) (Nat.add_assoc _ _ _))⟩)))
                    repeat (go_quiet (first | (go_at_call 63; (with_reducible refine (spec_l1In.calls ((rd_T48 l0 x3_1).f0) 1 5 true _ A8.out).mono ?_); rintro e w' ⟨rfl, ⟨nd, rfl⟩⟩; (try first | exact ⟨rfl, _, World.drewN_drewN _ _ _⟩ | exact ⟨rfl, _, Eq.trans (World.drewN_drewN _ _ _) (congrArg (World.drewN _) (Nat.add_assoc _ _ _))⟩)) | (go_at_call 63; (with_reducible refine (spec_l1In.calls ((rd_T48 l0 x3_1).f1) 2 999 true _ A10.out).mono ?_); rintro e w' ⟨rfl, ⟨nd, rfl⟩⟩; (try first | exact ⟨rfl, _, World.drewN_drewN _ _ _⟩ | exact ⟨rfl, _, Eq.trans (World.drewN_drewN _ _ _) (congrArg (World.drewN _) (Nat.add_assoc _ _ _))⟩)) | (go_at_call 64; (with_reducible refine (spec_l1Key.calls ((rd_T48 l0 x3_1).f2) false _ A12.out).mono ?_); rintro e w' ⟨rfl, ⟨nd, rfl⟩⟩; (try first | exact ⟨rfl, _, World.drewN_drewN _ _ _⟩ | exact ⟨rfl, _, Eq.trans (World.drewN_drewN _ _ _) (congrArg (World.drewN _) (Nat.add_assoc _ _ _))⟩))); try go_wp2_with (first | (go_at_call 63; (with_reducible refine (spec_l1In.calls ((rd_T48 l0 x3_1).f0) 1 5 true _ A8.out).mono ?_); rintro e w' ⟨rfl, ⟨nd, rfl⟩⟩; (try first | exact ⟨rfl, _, World.drewN_drewN _ _ _⟩ | exact ⟨rfl, _, Eq.trans (World.drewN_drewN _ _ _) (congrArg (World.drewN _) (Nat.add_assoc _ _ _))⟩)) | (go_at_call 63; (with_reducible refine (spec_l1In.calls ((rd_T48 l0 x3_1).f1) 2 999 true _ A10.out).mono ?_); rintro e w' ⟨rfl, ⟨nd, rfl⟩⟩; (try first | exact ⟨rfl, _, World.drewN_drewN _ _ _⟩ | exact ⟨rfl, _, Eq.trans (World.drewN_drewN _ _ _) (congrArg (World.drewN _) (Nat.add_assoc _ _ _))⟩)) | (go_at_call 64; (with_reducible refine (spec_l1Key.calls ((rd_T48 l0 x3_1).f2) false _ A12.out).mono ?_); rintro e w' ⟨rfl, ⟨nd, rfl⟩⟩; (try first | exact ⟨rfl, _, World.drewN_drewN _ _ _⟩ | exact ⟨rfl, _, Eq.trans (World.drewN_drewN _ _ _) (congrArg (World.drewN _) (Nat.add_assoc _ _ _))⟩))))
                    go_meet
                    case rel => exact ⟨_, (true), (by first | rfl | (simp; done) | (simp [*]; done)), H', ⟨by have := HK1.out; first | omega | exact Nat.le_refl _⟩, ⟨by (with_reducible repeat (first | refine blk_drewN ?_ _ | refine blk_drew ?_ | refine blk_alloc ?_ _)); refine blk_put (cs := #[.int .i64 ((rd_T48 l0 x3_1).f0), .int .i64 ((rd_T48 l0 x3_1).f1), .int .i64 ((rd_T48 l0 x3_1).f2), .int .i64 0]) ?_ 3 _ rfl; (with_reducible repeat (first | refine blk_drewN ?_ _ | refine blk_drew ?_ | refine blk_alloc ?_ _)); refine blk_put (cs := #[.int .i64 ((rd_T48 l0 x3_1).f0), .int .i64 ((rd_T48 l0 x3_1).f1), .int .i64 0, .int .i64 0]) ?_ 2 _ rfl; (with_reducible repeat (first | refine blk_drewN ?_ _ | refine blk_drew ?_ | refine blk_alloc ?_ _)); refine blk_put (cs := #[.int .i64 ((rd_T48 l0 x3_1).f0), .int .i64 0, .int .i64 0, .int .i64 0]) ?_ 1 _ rfl; (with_reducible repeat (first | refine blk_drewN ?_ _ | refine blk_drew ?_ | refine blk_alloc ?_ _)); refine blk_put (cs := #[.int .i64 0, .int .i64 0, .int .i64 0, .int .i64 0]) ?_ 0 _ rfl; (with_reducible repeat (first | refine blk_drewN ?_ _ | refine blk_drew ?_ | refine blk_alloc ?_ _)); exact BK142.out⟩, ⟨by repeat (first | (with_reducible first | exact HB.out | apply below_alloc | apply pw_below_drewN | apply below_drew1 | refine below_set ?_ GE142.out) | exact HB.out)⟩⟩
                · replace c11 := Bool.eq_false_iff.mpr c11
                  subst c11
                  have H1 : (spec_HistoryFault.j1 k1 l0 x3_1 true ((rd_T48 l0 x3_1).f0) ((rd_T48 l0 x3_1).f1) ((rd_T48 l0 x3_1).f2) ((rd_T48 l0 x3_1).f3)) = some r := by rw [if_neg (show ¬ (false = true) by decide)] at H; exact H
                  clear H
                  have H := H1
                  clear H1
                  have H' := Aside0.mk H
                  clear H
                  have hcz17_0 : w6.cell? ⟨gb142, 0, none⟩ = some (.int .i64 0) := (blk_cell BK142.out 0).trans rfl
                  have hcz17_1 : w6.cell? ⟨gb142, 1, none⟩ = some (.int .i64 0) := (blk_cell BK142.out 1).trans rfl
                  have hcz17_2 : w6.cell? ⟨gb142, 2, none⟩ = some (.int .i64 0) := (blk_cell BK142.out 2).trans rfl
                  have hcz17_3 : w6.cell? ⟨gb142, 3, none⟩ = some (.int .i64 0) := (blk_cell BK142.out 3).trans rfl
                  have hfz17_0 := blk_frozen BK142.out 0
                  have hfz17_1 := blk_frozen BK142.out 1
                  have hfz17_2 := blk_frozen BK142.out 2
                  have hfz17_3 := blk_frozen BK142.out 3
                  go_wp2_with (first | (go_at_call 63; (with_reducible refine (spec_l1In.calls ((rd_T48 l0 x3_1).f0) 1 5 true _ A8.out).mono ?_); rintro e w' ⟨rfl, ⟨nd, rfl⟩⟩; (try first | exact ⟨rfl, _, World.drewN_drewN _ _ _⟩ | exact ⟨rfl, _, Eq.trans (World.drewN_drewN _ _ _) (congrArg (World.drewN _) (Nat.add_assoc _ _ _))⟩)) | (go_at_call 63; (with_reducible refine (spec_l1In.calls ((rd_T48 l0 x3_1).f1) 2 999 false _ A10.out).mono ?_); rintro e w' ⟨rfl, ⟨nd, rfl⟩⟩; (try first | exact ⟨rfl, _, World.drewN_drewN _ _ _⟩ | exact ⟨rfl, _, Eq.trans (World.drewN_drewN _ _ _) (congrArg (World.drewN _) (Nat.add_assoc _ _ _))⟩)))
                  repeat (go_quiet (first | (go_at_call 63; (with_reducible refine (spec_l1In.calls ((rd_T48 l0 x3_1).f0) 1 5 true _ A8.out).mono ?_); rintro e w' ⟨rfl, ⟨nd, rfl⟩⟩; (try first | exact ⟨rfl, _, World.drewN_drewN _ _ _⟩ | exact ⟨rfl, _, Eq.trans (World.drewN_drewN _ _ _) (congrArg (World.drewN _) (Nat.add_assoc _ _ _))⟩)) | (go_at_call 63; (with_reducible refine (spec_l1In.calls ((rd_T48 l0 x3_1).f1) 2 999 false _ A10.out).mono ?_); rintro e w' ⟨rfl, ⟨nd, rfl⟩⟩; (try first | exact ⟨rfl, _, World.drewN_drewN _ _ _⟩ | exact ⟨rfl, _, Eq.trans (World.drewN_drewN _ _ _) (congrArg (World.drewN _) (Nat.add_assoc _ _ _))⟩))); try go_wp2_with (first | (go_at_call 63; (with_reducible refine (spec_l1In.calls ((rd_T48 l0 x3_1).f0) 1 5 true _ A8.out).mono ?_); rintro e w' ⟨rfl, ⟨nd, rfl⟩⟩; (try first | exact ⟨rfl, _, World.drewN_drewN _ _ _⟩ | exact ⟨rfl, _, Eq.trans (World.drewN_drewN _ _ _) (congrArg (World.drewN _) (Nat.add_assoc _ _ _))⟩)) | (go_at_call 63; (with_reducible refine (spec_l1In.calls ((rd_T48 l0 x3_1).f1) 2 999 false _ A10.out).mono ?_); rintro e w' ⟨rfl, ⟨nd, rfl⟩⟩; (try first | exact ⟨rfl, _, World.drewN_drewN _ _ _⟩ | exact ⟨rfl, _, Eq.trans (World.drewN_drewN _ _ _) (congrArg (World.drewN _) (Nat.add_assoc _ _ _))⟩))))
                  go_meet
                  case rel => exact ⟨_, (true), (by first | rfl | (simp; done) | (simp [*]; done)), H', ⟨by have := HK1.out; first | omega | exact Nat.le_refl _⟩, ⟨by (with_reducible repeat (first | refine blk_drewN ?_ _ | refine blk_drew ?_ | refine blk_alloc ?_ _)); refine blk_put (cs := #[.int .i64 ((rd_T48 l0 x3_1).f0), .int .i64 ((rd_T48 l0 x3_1).f1), .int .i64 ((rd_T48 l0 x3_1).f2), .int .i64 0]) ?_ 3 _ rfl; (with_reducible repeat (first | refine blk_drewN ?_ _ | refine blk_drew ?_ | refine blk_alloc ?_ _)); refine blk_put (cs := #[.int .i64 ((rd_T48 l0 x3_1).f0), .int .i64 ((rd_T48 l0 x3_1).f1), .int .i64 0, .int .i64 0]) ?_ 2 _ rfl; (with_reducible repeat (first | refine blk_drewN ?_ _ | refine blk_drew ?_ | refine blk_alloc ?_ _)); refine blk_put (cs := #[.int .i64 ((rd_T48 l0 x3_1).f0), .int .i64 0, .int .i64 0, .int .i64 0]) ?_ 1 _ rfl; (with_reducible repeat (first | refine blk_drewN ?_ _ | refine blk_drew ?_ | refine blk_alloc ?_ _)); refine blk_put (cs := #[.int .i64 0, .int .i64 0, .int .i64 0, .int .i64 0]) ?_ 0 _ rfl; (with_reducible repeat (first | refine blk_drewN ?_ _ | refine blk_drew ?_ | refine blk_alloc ?_ _)); exact BK142.out⟩, ⟨by repeat (first | (with_reducible first | exact HB.out | apply below_alloc | apply pw_below_drewN | apply below_drew1 | refine below_set ?_ GE142.out) | exact HB.out)⟩⟩
              · replace c9 := Bool.eq_false_iff.mpr c9
                subst c9
                have H1 : (spec_HistoryFault.j1 k1 l0 x3_1 true ((rd_T48 l0 x3_1).f0) ((rd_T48 l0 x3_1).f1) ((rd_T48 l0 x3_1).f2) ((rd_T48 l0 x3_1).f3)) = some r := by rw [if_neg (show ¬ (false = true) by decide)] at H; exact H
                clear H
                have H := H1
                clear H1
                have H' := Aside0.mk H
                clear H
                have hcz18_0 : w6.cell? ⟨gb142, 0, none⟩ = some (.int .i64 0) := (blk_cell BK142.out 0).trans rfl
                have hcz18_1 : w6.cell? ⟨gb142, 1, none⟩ = some (.int .i64 0) := (blk_cell BK142.out 1).trans rfl
                have hcz18_2 : w6.cell? ⟨gb142, 2, none⟩ = some (.int .i64 0) := (blk_cell BK142.out 2).trans rfl
                have hcz18_3 : w6.cell? ⟨gb142, 3, none⟩ = some (.int .i64 0) := (blk_cell BK142.out 3).trans rfl
                have hfz18_0 := blk_frozen BK142.out 0
                have hfz18_1 := blk_frozen BK142.out 1
                have hfz18_2 := blk_frozen BK142.out 2
                have hfz18_3 := blk_frozen BK142.out 3
                go_wp2_with (first | (go_at_call 63; (with_reducible refine (spec_l1In.calls ((rd_T48 l0 x3_1).f0) 1 5 false _ A8.out).mono ?_); rintro e w' ⟨rfl, ⟨nd, rfl⟩⟩; (try first | exact ⟨rfl, _, World.drewN_drewN _ _ _⟩ | exact ⟨rfl, _, Eq.trans (World.drewN_drewN _ _ _) (congrArg (World.drewN _) (Nat.add_assoc _ _ _))⟩)))
                repeat (go_quiet (first | (go_at_call 63; (with_reducible refine (spec_l1In.calls ((rd_T48 l0 x3_1).f0) 1 5 false _ A8.out).mono ?_); rintro e w' ⟨rfl, ⟨nd, rfl⟩⟩; (try first | exact ⟨rfl, _, World.drewN_drewN _ _ _⟩ | exact ⟨rfl, _, Eq.trans (World.drewN_drewN _ _ _) (congrArg (World.drewN _) (Nat.add_assoc _ _ _))⟩))); try go_wp2_with (first | (go_at_call 63; (with_reducible refine (spec_l1In.calls ((rd_T48 l0 x3_1).f0) 1 5 false _ A8.out).mono ?_); rintro e w' ⟨rfl, ⟨nd, rfl⟩⟩; (try first | exact ⟨rfl, _, World.drewN_drewN _ _ _⟩ | exact ⟨rfl, _, Eq.trans (World.drewN_drewN _ _ _) (congrArg (World.drewN _) (Nat.add_assoc _ _ _))⟩))))
                go_meet
                case rel => exact ⟨_, (true), (by first | rfl | (simp; done) | (simp [*]; done)), H', ⟨by have := HK1.out; first | omega | exact Nat.le_refl _⟩, ⟨by (with_reducible repeat (first | refine blk_drewN ?_ _ | refine blk_drew ?_ | refine blk_alloc ?_ _)); refine blk_put (cs := #[.int .i64 ((rd_T48 l0 x3_1).f0), .int .i64 ((rd_T48 l0 x3_1).f1), .int .i64 ((rd_T48 l0 x3_1).f2), .int .i64 0]) ?_ 3 _ rfl; (with_reducible repeat (first | refine blk_drewN ?_ _ | refine blk_drew ?_ | refine blk_alloc ?_ _)); refine blk_put (cs := #[.int .i64 ((rd_T48 l0 x3_1).f0), .int .i64 ((rd_T48 l0 x3_1).f1), .int .i64 0, .int .i64 0]) ?_ 2 _ rfl; (with_reducible repeat (first | refine blk_drewN ?_ _ | refine blk_drew ?_ | refine blk_alloc ?_ _)); refine blk_put (cs := #[.int .i64 ((rd_T48 l0 x3_1).f0), .int .i64 0, .int .i64 0, .int .i64 0]) ?_ 1 _ rfl; (with_reducible repeat (first | refine blk_drewN ?_ _ | refine blk_drew ?_ | refine blk_alloc ?_ _)); refine blk_put (cs := #[.int .i64 0, .int .i64 0, .int .i64 0, .int .i64 0]) ?_ 0 _ rfl; (with_reducible repeat (first | refine blk_drewN ?_ _ | refine blk_drew ?_ | refine blk_alloc ?_ _)); exact BK142.out⟩, ⟨by repeat (first | (with_reducible first | exact HB.out | apply below_alloc | apply pw_below_drewN | apply below_drew1 | refine below_set ?_ GE142.out) | exact HB.out)⟩⟩
            case rest =>
              clear HC5
              try clear c1
              try clear p1
              try clear q1
              try clear hx1
              try clear c2
              try clear c2b0
              try clear c2b1
              try clear p2
              try clear c3
              try clear c3b0
              try clear c4
              try clear c4b0
              try clear c9
              try clear c11
              try clear c13
              try clear p14
              try clear q14
              try clear hx14
              try clear hcz15_0
              try clear hcz15_1
              try clear hcz15_2
              try clear hcz15_3
              try clear hcz16_0
              try clear hcz16_1
              try clear hcz16_2
              try clear hcz16_3
              try clear hcz17_0
              try clear hcz17_1
              try clear hcz17_2
              try clear hcz17_3
              try clear hcz18_0
              try clear hcz18_1
              try clear hcz18_2
              try clear hcz18_3
              try clear hcz7_0
              try clear hcz7_1
              try clear hcz7_2
              try clear hcz7_3
              try clear hfz15_0
              try clear hfz15_1
              try clear hfz15_2
              try clear hfz15_3
              try clear hfz16_0
              try clear hfz16_1
              try clear hfz16_2
              try clear hfz16_3
              try clear hfz17_0
              try clear hfz17_1
              try clear hfz17_2
              try clear hfz17_3
              try clear hfz18_0
              try clear hfz18_1
              try clear hfz18_2
              try clear hfz18_3
              try clear hfz7_0
              try clear hfz7_1
              try clear hfz7_2
              try clear hfz7_3
              try clear hx141_0
              try clear hx141_1
              try clear hx141_2
              try clear hx141_3
              try clear p141
              try clear p2
              try clear q141
              obtain ⟨kq, x40_4, rfl, HA, HJ4, BK142, HB⟩ := hcut
              cases kq with
              | zero => exact absurd HA.out (by simp [spec_HistoryFault.j1])
              | succ kj4 =>
                have H := HA.out
                clear HA
                simp only [spec_HistoryFault.j1] at H
                by_cases c19 : x40_4 = true
                · subst c19
                  have H1 : (some 3) = some r := by rw [if_pos rfl] at H; exact H
                  clear H
                  have H := H1
                  clear H1
                  obtain rfl := Option.some.inj H
                  go_wp2
                  repeat (go_quiet (fail); try go_wp2)
                  go_ret
                  exact ⟨by first | rfl | (simp [errW_none, errW_some] <;> rfl) | (simp [*, errW_none, errW_some] <;> rfl), by repeat (first | (with_reducible first | exact HB.out | apply below_alloc | apply pw_below_drewN | apply below_drew1 | refine below_set ?_ GE142.out) | exact HB.out)⟩
                · replace c19 := Bool.eq_false_iff.mpr c19
                  subst c19
                  have H1 : (if ((rd_T48 l0 x3_1).f0) = 2 then (spec_HistoryFault.j2 kj4 l0 x3_1 false ((rd_T48 l0 x3_1).f0) ((rd_T48 l0 x3_1).f1) ((rd_T48 l0 x3_1).f2) ((rd_T48 l0 x3_1).f3)) else (if ((rd_T48 l0 x3_1).f3) = 0 then (if ((rd_T48 l0 x3_1).f0) = 3 then (spec_HistoryFault.j2 kj4 l0 x3_1 false ((rd_T48 l0 x3_1).f0) ((rd_T48 l0 x3_1).f1) ((rd_T48 l0 x3_1).f2) ((rd_T48 l0 x3_1).f3)) else (spec_HistoryFault.j2 kj4 l0 x3_1 (((rd_T48 l0 x3_1).f2) != 0) ((rd_T48 l0 x3_1).f0) ((rd_T48 l0 x3_1).f1) ((rd_T48 l0 x3_1).f2) ((rd_T48 l0 x3_1).f3))) else (spec_HistoryFault.j2 kj4 l0 x3_1 true ((rd_T48 l0 x3_1).f0) ((rd_T48 l0 x3_1).f1) ((rd_T48 l0 x3_1).f2) ((rd_T48 l0 x3_1).f3)))) = some r := by rw [if_neg (show ¬ (false = true) by decide)] at H; exact H
                  clear H
                  have H := H1
                  clear H1
                  have HC20 := Aside0.mk H
                  clear H
                  go_upto_region 9 with (fail)
                  repeat (go_quiet (fail); go_upto_region 9 with (fail))
                  go_cut [63] (fun v63 wc => ∃ (kq : Nat) (x63_19 : Bool), v63 = .bool x63_19 ∧ Aside0 (spec_HistoryFault.j2 kq l0 x3_1 x63_19 ((rd_T48 l0 x3_1).f0) ((rd_T48 l0 x3_1).f1) ((rd_T48 l0 x3_1).f2) ((rd_T48 l0 x3_1).f3) = some r) ∧ Aside0 (kq ≤ kj4) ∧ Aside0 (wc.heap[gb142]? = some (.cells #[.int .i64 ((rd_T48 l0 x3_1).f0), .int .i64 ((rd_T48 l0 x3_1).f1), .int .i64 ((rd_T48 l0 x3_1).f2), .int .i64 ((rd_T48 l0 x3_1).f3)] 48 (0, 0))) ∧ Aside0 (Below w.heap.size w wc))
                  case first =>
                    have H := HC20.out
                    clear HC20
                    by_cases c21 : ((rd_T48 l0 x3_1).f0) = 2
                    · rw [if_pos c21] at H
                      have c21b0 : (((rd_T48 l0 x3_1).f0) == 2) = true := beq_iff_eq.mpr c21
                      have c21b1 : (((rd_T48 l0 x3_1).f0) != 2) = false := bne_eq_false_iff_eq.mpr c21
                      clear c21
                      (first | rw [c21b0] | (simp only [i64_w, i32_w]; rw [c21b0]) | skip)
                      have H' := Aside0.mk H
                      clear H
                      have hcz22_0 : wc.cell? ⟨gb142, 0, none⟩ = some (.int .i64 ((rd_T48 l0 x3_1).f0)) := (blk_cell BK142.out 0).trans rfl
                      have hcz22_1 : wc.cell? ⟨gb142, 1, none⟩ = some (.int .i64 ((rd_T48 l0 x3_1).f1)) := (blk_cell BK142.out 1).trans rfl
                      have hcz22_2 : wc.cell? ⟨gb142, 2, none⟩ = some (.int .i64 ((rd_T48 l0 x3_1).f2)) := (blk_cell BK142.out 2).trans rfl
                      have hcz22_3 : wc.cell? ⟨gb142, 3, none⟩ = some (.int .i64 ((rd_T48 l0 x3_1).f3)) := (blk_cell BK142.out 3).trans rfl
                      have hfz22_0 := blk_frozen BK142.out 0
                      have hfz22_1 := blk_frozen BK142.out 1
                      have hfz22_2 := blk_frozen BK142.out 2
                      have hfz22_3 := blk_frozen BK142.out 3
                      go_wp2
                      repeat (go_quiet (fail); try go_wp2)
                      go_meet
                      case rel => exact ⟨_, (false), (by first | rfl | (simp; done) | (simp [*]; done)), H', ⟨by have := HK1.out; have := HJ4.out; first | omega | exact Nat.le_refl _⟩, ⟨by (with_reducible repeat (first | refine blk_drewN ?_ _ | refine blk_drew ?_ | refine blk_alloc ?_ _)); exact BK142.out⟩, ⟨by repeat (first | (with_reducible first | exact HB.out | apply below_alloc | apply pw_below_drewN | apply below_drew1 | refine below_set ?_ GE142.out) | exact HB.out)⟩⟩
                    · rw [if_neg c21] at H
                      have c21b0 : (((rd_T48 l0 x3_1).f0) == 2) = false := beq_eq_false_iff_ne.mpr c21
                      have c21b1 : (((rd_T48 l0 x3_1).f0) != 2) = true := bne_iff_ne.mpr c21
                      (first | rw [c21b0] | (simp only [i64_w, i32_w]; rw [c21b0]) | skip)
                      by_cases c23 : ((rd_T48 l0 x3_1).f3) = 0
                      · rw [if_pos c23] at H
                        have c23b0 : (((rd_T48 l0 x3_1).f3) == 0) = true := beq_iff_eq.mpr c23
                        have c23b1 : (((rd_T48 l0 x3_1).f3) != 0) = false := bne_eq_false_iff_eq.mpr c23
                        clear c23
                        by_cases c24 : ((rd_T48 l0 x3_1).f0) = 3
                        · rw [if_pos c24] at H
                          have c24b0 : (((rd_T48 l0 x3_1).f0) == 3) = true := beq_iff_eq.mpr c24
                          have c24b1 : (((rd_T48 l0 x3_1).f0) != 3) = false := bne_eq_false_iff_eq.mpr c24
                          clear c24
                          have H' := Aside0.mk H
                          clear H
                          have hcz25_0 : wc.cell? ⟨gb142, 0, none⟩ = some (.int .i64 ((rd_T48 l0 x3_1).f0)) := (blk_cell BK142.out 0).trans rfl
                          have hcz25_1 : wc.cell? ⟨gb142, 1, none⟩ = some (.int .i64 ((rd_T48 l0 x3_1).f1)) := (blk_cell BK142.out 1).trans rfl
                          have hcz25_2 : wc.cell? ⟨gb142, 2, none⟩ = some (.int .i64 ((rd_T48 l0 x3_1).f2)) := (blk_cell BK142.out 2).trans rfl
                          have hcz25_3 : wc.cell? ⟨gb142, 3, none⟩ = some (.int .i64 ((rd_T48 l0 x3_1).f3)) := (blk_cell BK142.out 3).trans rfl
                          have hfz25_0 := blk_frozen BK142.out 0
                          have hfz25_1 := blk_frozen BK142.out 1
                          have hfz25_2 := blk_frozen BK142.out 2
                          have hfz25_3 := blk_frozen BK142.out 3
                          go_wp2
                          repeat (go_quiet (fail); try go_wp2)
                          go_meet
                          case rel => exact ⟨_, (false), (by first | rfl | (simp; done) | (simp [*]; done)), H', ⟨by have := HK1.out; have := HJ4.out; first | omega | exact Nat.le_refl _⟩, ⟨by (with_reducible repeat (first | refine blk_drewN ?_ _ | refine blk_drew ?_ | refine blk_alloc ?_ _)); exact BK142.out⟩, ⟨by repeat (first | (with_reducible first | exact HB.out | apply below_alloc | apply pw_below_drewN | apply below_drew1 | refine below_set ?_ GE142.out) | exact HB.out)⟩⟩
                        · rw [if_neg c24] at H
                          have c24b0 : (((rd_T48 l0 x3_1).f0) == 3) = false := beq_eq_false_iff_ne.mpr c24
                          have c24b1 : (((rd_T48 l0 x3_1).f0) != 3) = true := bne_iff_ne.mpr c24
                          have H' := Aside0.mk H
                          clear H
                          have hcz26_0 : wc.cell? ⟨gb142, 0, none⟩ = some (.int .i64 ((rd_T48 l0 x3_1).f0)) := (blk_cell BK142.out 0).trans rfl
                          have hcz26_1 : wc.cell? ⟨gb142, 1, none⟩ = some (.int .i64 ((rd_T48 l0 x3_1).f1)) := (blk_cell BK142.out 1).trans rfl
                          have hcz26_2 : wc.cell? ⟨gb142, 2, none⟩ = some (.int .i64 ((rd_T48 l0 x3_1).f2)) := (blk_cell BK142.out 2).trans rfl
                          have hcz26_3 : wc.cell? ⟨gb142, 3, none⟩ = some (.int .i64 ((rd_T48 l0 x3_1).f3)) := (blk_cell BK142.out 3).trans rfl
                          have hfz26_0 := blk_frozen BK142.out 0
                          have hfz26_1 := blk_frozen BK142.out 1
                          have hfz26_2 := blk_frozen BK142.out 2
                          have hfz26_3 := blk_frozen BK142.out 3
                          go_wp2
                          repeat (go_quiet (fail); try go_wp2)
                          go_meet
                          case rel => exact ⟨_, ((((rd_T48 l0 x3_1).f2) != 0)), (by first | rfl | (simp; done) | (simp [*]; done)), H', ⟨by have := HK1.out; have := HJ4.out; first | omega | exact Nat.le_refl _⟩, ⟨by (with_reducible repeat (first | refine blk_drewN ?_ _ | refine blk_drew ?_ | refine blk_alloc ?_ _)); exact BK142.out⟩, ⟨by repeat (first | (with_reducible first | exact HB.out | apply below_alloc | apply pw_below_drewN | apply below_drew1 | refine below_set ?_ GE142.out) | exact HB.out)⟩⟩
                      · rw [if_neg c23] at H
                        have c23b0 : (((rd_T48 l0 x3_1).f3) == 0) = false := beq_eq_false_iff_ne.mpr c23
                        have c23b1 : (((rd_T48 l0 x3_1).f3) != 0) = true := bne_iff_ne.mpr c23
                        have H' := Aside0.mk H
                        clear H
                        have hcz27_0 : wc.cell? ⟨gb142, 0, none⟩ = some (.int .i64 ((rd_T48 l0 x3_1).f0)) := (blk_cell BK142.out 0).trans rfl
                        have hcz27_1 : wc.cell? ⟨gb142, 1, none⟩ = some (.int .i64 ((rd_T48 l0 x3_1).f1)) := (blk_cell BK142.out 1).trans rfl
                        have hcz27_2 : wc.cell? ⟨gb142, 2, none⟩ = some (.int .i64 ((rd_T48 l0 x3_1).f2)) := (blk_cell BK142.out 2).trans rfl
                        have hcz27_3 : wc.cell? ⟨gb142, 3, none⟩ = some (.int .i64 ((rd_T48 l0 x3_1).f3)) := (blk_cell BK142.out 3).trans rfl
                        have hfz27_0 := blk_frozen BK142.out 0
                        have hfz27_1 := blk_frozen BK142.out 1
                        have hfz27_2 := blk_frozen BK142.out 2
                        have hfz27_3 := blk_frozen BK142.out 3
                        go_wp2
                        repeat (go_quiet (fail); try go_wp2)
                        go_meet
                        case rel => exact ⟨_, (true), (by first | rfl | (simp; done) | (simp [*]; done)), H', ⟨by have := HK1.out; have := HJ4.out; first | omega | exact Nat.le_refl _⟩, ⟨by (with_reducible repeat (first | refine blk_drewN ?_ _ | refine blk_drew ?_ | refine blk_alloc ?_ _)); exact BK142.out⟩, ⟨by repeat (first | (with_reducible first | exact HB.out | apply below_alloc | apply pw_below_drewN | apply below_drew1 | refine below_set ?_ GE142.out) | exact HB.out)⟩⟩
                  case rest =>
                    clear HC20
                    try clear c1
                    try clear p1
                    try clear q1
                    try clear hx1
                    try clear c2
                    try clear c2b0
                    try clear c2b1
                    try clear p2
                    try clear c3
                    try clear c3b0
                    try clear c4
                    try clear c4b0
                    try clear c9
                    try clear c11
                    try clear c13
                    try clear p14
                    try clear q14
                    try clear hx14
                    try clear c19
                    try clear c21
                    try clear c21b0
                    try clear c21b1
                    try clear c23
                    try clear c23b0
                    try clear c23b1
                    try clear c24
                    try clear c24b0
                    try clear c24b1
                    try clear hcz15_0
                    try clear hcz15_1
                    try clear hcz15_2
                    try clear hcz15_3
                    try clear hcz16_0
                    try clear hcz16_1
                    try clear hcz16_2
                    try clear hcz16_3
                    try clear hcz17_0
                    try clear hcz17_1
                    try clear hcz17_2
                    try clear hcz17_3
                    try clear hcz18_0
                    try clear hcz18_1
                    try clear hcz18_2
                    try clear hcz18_3
                    try clear hcz22_0
                    try clear hcz22_1
                    try clear hcz22_2
                    try clear hcz22_3
                    try clear hcz25_0
                    try clear hcz25_1
                    try clear hcz25_2
                    try clear hcz25_3
                    try clear hcz26_0
                    try clear hcz26_1
                    try clear hcz26_2
                    try clear hcz26_3
                    try clear hcz27_0
                    try clear hcz27_1
                    try clear hcz27_2
                    try clear hcz27_3
                    try clear hcz7_0
                    try clear hcz7_1
                    try clear hcz7_2
                    try clear hcz7_3
                    try clear hfz15_0
                    try clear hfz15_1
                    try clear hfz15_2
                    try clear hfz15_3
                    try clear hfz16_0
                    try clear hfz16_1
                    try clear hfz16_2
                    try clear hfz16_3
                    try clear hfz17_0
                    try clear hfz17_1
                    try clear hfz17_2
                    try clear hfz17_3
                    try clear hfz18_0
                    try clear hfz18_1
                    try clear hfz18_2
                    try clear hfz18_3
                    try clear hfz22_0
                    try clear hfz22_1
                    try clear hfz22_2
                    try clear hfz22_3
                    try clear hfz25_0
                    try clear hfz25_1
                    try clear hfz25_2
                    try clear hfz25_3
                    try clear hfz26_0
                    try clear hfz26_1
                    try clear hfz26_2
                    try clear hfz26_3
                    try clear hfz27_0
                    try clear hfz27_1
                    try clear hfz27_2
                    try clear hfz27_3
                    try clear hfz7_0
                    try clear hfz7_1
                    try clear hfz7_2
                    try clear hfz7_3
                    try clear hx141_0
                    try clear hx141_1
                    try clear hx141_2
                    try clear hx141_3
                    try clear p1
                    try clear p14
                    try clear p141
                    try clear p2
                    try clear q1
                    try clear q14
                    try clear q141
                    obtain ⟨kq, x63_19, rfl, HA, HJ19, BK142, HB⟩ := hcut
                    cases kq with
                    | zero => exact absurd HA.out (by simp [spec_HistoryFault.j2])
                    | succ kj19 =>
                      have H := HA.out
                      clear HA
                      simp only [spec_HistoryFault.j2] at H
                      by_cases c28 : x63_19 = true
                      · subst c28
                        have H1 : (some 1) = some r := by rw [if_pos rfl] at H; exact H
                        clear H
                        have H := H1
                        clear H1
                        obtain rfl := Option.some.inj H
                        go_wp2
                        repeat (go_quiet (fail); try go_wp2)
                        go_ret
                        exact ⟨by first | rfl | (simp [errW_none, errW_some] <;> rfl) | (simp [*, errW_none, errW_some] <;> rfl), by repeat (first | (with_reducible first | exact HB.out | apply below_alloc | apply pw_below_drewN | apply below_drew1 | refine below_set ?_ GE142.out) | exact HB.out)⟩
                      · replace c28 := Bool.eq_false_iff.mpr c28
                        subst c28
                        have H1 : (if 0 ≤ x3_1 then (if x3_1 ≤ (l0.length : Int) then ((spec_l10State.f kj19 (l0.take (x3_1 : Int).toNat) ((rd_T48 l0 x3_1).f1)).bind fun t151 => (if ((rd_T48 l0 x3_1).f0) = 1 then (if t151 = 0 then (spec_HistoryFault.l0 kj19 l0 (wrap64 (x3_1 + 1))) else (some 10)) else (if t151 = 1 then (spec_HistoryFault.l0 kj19 l0 (wrap64 (x3_1 + 1))) else (some 10)))) else (none)) else (none)) = some r := by rw [if_neg (show ¬ (false = true) by decide)] at H; exact H
                        clear H
                        have H := H1
                        clear H1
                        by_cases c29 : 0 ≤ x3_1
                        · rw [if_pos c29] at H
                          have c29b0 := eq_true c29
                          have c29b1 : decide (0 ≤ x3_1) = true := decide_eq_true c29
                          clear c29
                          by_cases c30 : x3_1 ≤ (l0.length : Int)
                          · rw [if_pos c30] at H
                            have c30b0 := eq_true c30
                            have c30b1 : decide (x3_1 ≤ (l0.length : Int)) = true := decide_eq_true c30
                            clear c30
                            obtain ⟨y147, hy147⟩ : ∃ y_ : List (S48), y_ = (l0.take (x3_1 : Int).toNat) := ⟨_, rfl⟩
                            replace H : ((spec_l10State.f kj19 y147 ((rd_T48 l0 x3_1).f1)).bind fun t151 => (if ((rd_T48 l0 x3_1).f0) = 1 then (if t151 = 0 then (spec_HistoryFault.l0 kj19 l0 (wrap64 (x3_1 + 1))) else (some 10)) else (if t151 = 1 then (spec_HistoryFault.l0 kj19 l0 (wrap64 (x3_1 + 1))) else (some 10)))) = some r := by first | (rw [hy147]; with_reducible exact H) | (have H2_ := (Option.bind_some _ _).symm.trans H; rw [hy147]; with_reducible exact H2_) | (have H2_ := (Option.bind_some _ _).symm.trans H; with_reducible exact H2_) | with_reducible exact H | (rw [hy147]; exact H) | exact H
                            have Ny147 := Aside0.mk hy147
                            clear hy147
                            replace H := Option.bind_eq_some_iff.mp H
                            obtain ⟨t151, A310, H⟩ := H
                            replace H : (if ((rd_T48 l0 x3_1).f0) = 1 then (if t151 = 0 then (spec_HistoryFault.l0 kj19 l0 (wrap64 (x3_1 + 1))) else (some 10)) else (if t151 = 1 then (spec_HistoryFault.l0 kj19 l0 (wrap64 (x3_1 + 1))) else (some 10))) = some r := H
                            have A31 := Aside0.mk A310
                            clear A310
                            by_cases c32 : ((rd_T48 l0 x3_1).f0) = 1
                            · rw [if_pos c32] at H
                              have c32b0 : (((rd_T48 l0 x3_1).f0) == 1) = true := beq_iff_eq.mpr c32
                              have c32b1 : (((rd_T48 l0 x3_1).f0) != 1) = false := bne_eq_false_iff_eq.mpr c32
                              clear c32
                              by_cases c33 : t151 = 0
                              · rw [if_pos c33] at H
                                have c33b0 : (t151 == 0) = true := beq_iff_eq.mpr c33
                                have c33b1 : (t151 != 0) = false := bne_eq_false_iff_eq.mpr c33
                                clear c33
                                have H' := Aside0.mk H
                                clear H
                                have q34 : (x3_1 : Int) ≤ ((l0.length : Int) : Int) := od
                                obtain ⟨i034, hi034, _, hsz34, _⟩ := info_parts info48
                                have hroom34 : l0.length ≤ c0 := HC0.out
                                have hC34 : Kd.C k48 _ (some ad141) l0.length l0 := HR0.out
                                have hcut34 := cut_to (P := Try.prog) 25 48 .i64 Try.underlying25 hi034 (some ad141) l0.length c0 x3_1 (od) q34 hroom34
                                have hr34 := Kd.C_take (m := (x3_1 : Int).toNat) hC34 (by omega)
                                have hy34 : y147.length = (x3_1 : Int).toNat := (by rw [Ny147.out, List.length_take]; omega)
                                rw [← Ny147.out] at hr34
                                rw [← hy34] at hcut34
                                have HR150 := Aside0.mk hr34
                                have HC150 := Aside0.mk (show y147.length ≤ c0 from by omega)
                                clear hr34 hC34 hroom34 hi034 hsz34
                                have KY34 := Aside0.mk hy34
                                clear hy34
                                replace q34 := eq_true q34
                                have hcz35_0 : wc.cell? ⟨gb142, 0, none⟩ = some (.int .i64 ((rd_T48 l0 x3_1).f0)) := (blk_cell BK142.out 0).trans rfl
                                have hcz35_1 : wc.cell? ⟨gb142, 1, none⟩ = some (.int .i64 ((rd_T48 l0 x3_1).f1)) := (blk_cell BK142.out 1).trans rfl
                                have hcz35_2 : wc.cell? ⟨gb142, 2, none⟩ = some (.int .i64 ((rd_T48 l0 x3_1).f2)) := (blk_cell BK142.out 2).trans rfl
                                have hcz35_3 : wc.cell? ⟨gb142, 3, none⟩ = some (.int .i64 ((rd_T48 l0 x3_1).f3)) := (blk_cell BK142.out 3).trans rfl
                                have hfz35_0 := blk_frozen BK142.out 0
                                have hfz35_1 := blk_frozen BK142.out 1
                                have hfz35_2 := blk_frozen BK142.out 2
                                have hfz35_3 := blk_frozen BK142.out 3
                                go_wp2_with (first | (go_at_call 65; (with_reducible refine (spec_l10State.calls kj19 _ _ y147 ((rd_T48 l0 x3_1).f1) t151 _ ?side1 ?side2 A31.out).mono ?_); (case side1 => repeat (first | exact (Kd.C_below HR150.out HB.out) | (with_reducible refine Kd.C_alloc ?_ _) | (with_reducible refine Kd.C_drewN ?_ _) | (with_reducible refine Kd.C_drew ?_))); (case side2 => exact HC150.out); rintro e w' ⟨rfl, ⟨nd, rfl⟩⟩; (try first | exact ⟨rfl, _, World.drewN_drewN _ _ _⟩ | exact ⟨rfl, _, Eq.trans (World.drewN_drewN _ _ _) (congrArg (World.drewN _) (Nat.add_assoc _ _ _))⟩)))
                                repeat (go_quiet (first | (go_at_call 65; (with_reducible refine (spec_l10State.calls kj19 _ _ y147 ((rd_T48 l0 x3_1).f1) t151 _ ?side1 ?side2 A31.out).mono ?_); (case side1 => repeat (first | exact (Kd.C_below HR150.out HB.out) | (with_reducible refine Kd.C_alloc ?_ _) | (with_reducible refine Kd.C_drewN ?_ _) | (with_reducible refine Kd.C_drew ?_))); (case side2 => exact HC150.out); rintro e w' ⟨rfl, ⟨nd, rfl⟩⟩; (try first | exact ⟨rfl, _, World.drewN_drewN _ _ _⟩ | exact ⟨rfl, _, Eq.trans (World.drewN_drewN _ _ _) (congrArg (World.drewN _) (Nat.add_assoc _ _ _))⟩))); try go_wp2_with (first | (go_at_call 65; (with_reducible refine (spec_l10State.calls kj19 _ _ y147 ((rd_T48 l0 x3_1).f1) t151 _ ?side1 ?side2 A31.out).mono ?_); (case side1 => repeat (first | exact (Kd.C_below HR150.out HB.out) | (with_reducible refine Kd.C_alloc ?_ _) | (with_reducible refine Kd.C_drewN ?_ _) | (with_reducible refine Kd.C_drew ?_))); (case side2 => exact HC150.out); rintro e w' ⟨rfl, ⟨nd, rfl⟩⟩; (try first | exact ⟨rfl, _, World.drewN_drewN _ _ _⟩ | exact ⟨rfl, _, Eq.trans (World.drewN_drewN _ _ _) (congrArg (World.drewN _) (Nat.add_assoc _ _ _))⟩))))
                                go_roundg kj19
                                case measure => have := HK1.out; have := HJ4.out; have := HJ19.out; omega
                                case rel => exact ⟨(wrap64 (x3_1 + 1)), (by first | rfl | (simp; done) | (simp [*]; done)), H', ⟨by have := HK1.out; have := HJ4.out; have := HJ19.out; omega⟩, ⟨by repeat (first | (with_reducible first | exact HB.out | apply below_alloc | apply pw_below_drewN | apply below_drew1 | refine below_set ?_ GE142.out) | exact HB.out)⟩⟩
                              · rw [if_neg c33] at H
                                have c33b0 : (t151 == 0) = false := beq_eq_false_iff_ne.mpr c33
                                have c33b1 : (t151 != 0) = true := bne_iff_ne.mpr c33
                                obtain rfl := Option.some.inj H
                                have q36 : (x3_1 : Int) ≤ ((l0.length : Int) : Int) := od
                                obtain ⟨i036, hi036, _, hsz36, _⟩ := info_parts info48
                                have hroom36 : l0.length ≤ c0 := HC0.out
                                have hC36 : Kd.C k48 _ (some ad141) l0.length l0 := HR0.out
                                have hcut36 := cut_to (P := Try.prog) 25 48 .i64 Try.underlying25 hi036 (some ad141) l0.length c0 x3_1 (od) q36 hroom36
                                have hr36 := Kd.C_take (m := (x3_1 : Int).toNat) hC36 (by omega)
                                have hy36 : y147.length = (x3_1 : Int).toNat := (by rw [Ny147.out, List.length_take]; omega)
                                rw [← Ny147.out] at hr36
                                rw [← hy36] at hcut36
                                have HR150 := Aside0.mk hr36
                                have HC150 := Aside0.mk (show y147.length ≤ c0 from by omega)
                                clear hr36 hC36 hroom36 hi036 hsz36
                                have KY36 := Aside0.mk hy36
                                clear hy36
                                replace q36 := eq_true q36
                                have hcz37_0 : wc.cell? ⟨gb142, 0, none⟩ = some (.int .i64 ((rd_T48 l0 x3_1).f0)) := (blk_cell BK142.out 0).trans rfl
                                have hcz37_1 : wc.cell? ⟨gb142, 1, none⟩ = some (.int .i64 ((rd_T48 l0 x3_1).f1)) := (blk_cell BK142.out 1).trans rfl
                                have hcz37_2 : wc.cell? ⟨gb142, 2, none⟩ = some (.int .i64 ((rd_T48 l0 x3_1).f2)) := (blk_cell BK142.out 2).trans rfl
                                have hcz37_3 : wc.cell? ⟨gb142, 3, none⟩ = some (.int .i64 ((rd_T48 l0 x3_1).f3)) := (blk_cell BK142.out 3).trans rfl
                                have hfz37_0 := blk_frozen BK142.out 0
                                have hfz37_1 := blk_frozen BK142.out 1
                                have hfz37_2 := blk_frozen BK142.out 2
                                have hfz37_3 := blk_frozen BK142.out 3
                                go_wp2_with (first | (go_at_call 65; (with_reducible refine (spec_l10State.calls kj19 _ _ y147 ((rd_T48 l0 x3_1).f1) t151 _ ?side1 ?side2 A31.out).mono ?_); (case side1 => repeat (first | exact (Kd.C_below HR150.out HB.out) | (with_reducible refine Kd.C_alloc ?_ _) | (with_reducible refine Kd.C_drewN ?_ _) | (with_reducible refine Kd.C_drew ?_))); (case side2 => exact HC150.out); rintro e w' ⟨rfl, ⟨nd, rfl⟩⟩; (try first | exact ⟨rfl, _, World.drewN_drewN _ _ _⟩ | exact ⟨rfl, _, Eq.trans (World.drewN_drewN _ _ _) (congrArg (World.drewN _) (Nat.add_assoc _ _ _))⟩)))
                                repeat (go_quiet (first | (go_at_call 65; (with_reducible refine (spec_l10State.calls kj19 _ _ y147 ((rd_T48 l0 x3_1).f1) t151 _ ?side1 ?side2 A31.out).mono ?_); (case side1 => repeat (first | exact (Kd.C_below HR150.out HB.out) | (with_reducible refine Kd.C_alloc ?_ _) | (with_reducible refine Kd.C_drewN ?_ _) | (with_reducible refine Kd.C_drew ?_))); (case side2 => exact HC150.out); rintro e w' ⟨rfl, ⟨nd, rfl⟩⟩; (try first | exact ⟨rfl, _, World.drewN_drewN _ _ _⟩ | exact ⟨rfl, _, Eq.trans (World.drewN_drewN _ _ _) (congrArg (World.drewN _) (Nat.add_assoc _ _ _))⟩))); try go_wp2_with (first | (go_at_call 65; (with_reducible refine (spec_l10State.calls kj19 _ _ y147 ((rd_T48 l0 x3_1).f1) t151 _ ?side1 ?side2 A31.out).mono ?_); (case side1 => repeat (first | exact (Kd.C_below HR150.out HB.out) | (with_reducible refine Kd.C_alloc ?_ _) | (with_reducible refine Kd.C_drewN ?_ _) | (with_reducible refine Kd.C_drew ?_))); (case side2 => exact HC150.out); rintro e w' ⟨rfl, ⟨nd, rfl⟩⟩; (try first | exact ⟨rfl, _, World.drewN_drewN _ _ _⟩ | exact ⟨rfl, _, Eq.trans (World.drewN_drewN _ _ _) (congrArg (World.drewN _) (Nat.add_assoc _ _ _))⟩))))
                                go_ret
                                exact ⟨by first | rfl | (simp [errW_none, errW_some] <;> rfl) | (simp [*, errW_none, errW_some] <;> rfl), by repeat (first | (with_reducible first | exact HB.out | apply below_alloc | apply pw_below_drewN | apply below_drew1 | refine below_set ?_ GE142.out) | exact HB.out)⟩
                            · rw [if_neg c32] at H
                              have c32b0 : (((rd_T48 l0 x3_1).f0) == 1) = false := beq_eq_false_iff_ne.mpr c32
                              have c32b1 : (((rd_T48 l0 x3_1).f0) != 1) = true := bne_iff_ne.mpr c32
                              by_cases c38 : t151 = 1
                              · rw [if_pos c38] at H
                                have c38b0 : (t151 == 1) = true := beq_iff_eq.mpr c38
                                have c38b1 : (t151 != 1) = false := bne_eq_false_iff_eq.mpr c38
                                clear c38
                                have H' := Aside0.mk H
                                clear H
                                have q39 : (x3_1 : Int) ≤ ((l0.length : Int) : Int) := od
                                obtain ⟨i039, hi039, _, hsz39, _⟩ := info_parts info48
                                have hroom39 : l0.length ≤ c0 := HC0.out
                                have hC39 : Kd.C k48 _ (some ad141) l0.length l0 := HR0.out
                                have hcut39 := cut_to (P := Try.prog) 25 48 .i64 Try.underlying25 hi039 (some ad141) l0.length c0 x3_1 (od) q39 hroom39
                                have hr39 := Kd.C_take (m := (x3_1 : Int).toNat) hC39 (by omega)
                                have hy39 : y147.length = (x3_1 : Int).toNat := (by rw [Ny147.out, List.length_take]; omega)
                                rw [← Ny147.out] at hr39
                                rw [← hy39] at hcut39
                                have HR150 := Aside0.mk hr39
                                have HC150 := Aside0.mk (show y147.length ≤ c0 from by omega)
                                clear hr39 hC39 hroom39 hi039 hsz39
                                have KY39 := Aside0.mk hy39
                                clear hy39
                                replace q39 := eq_true q39
                                have hcz40_0 : wc.cell? ⟨gb142, 0, none⟩ = some (.int .i64 ((rd_T48 l0 x3_1).f0)) := (blk_cell BK142.out 0).trans rfl
                                have hcz40_1 : wc.cell? ⟨gb142, 1, none⟩ = some (.int .i64 ((rd_T48 l0 x3_1).f1)) := (blk_cell BK142.out 1).trans rfl
                                have hcz40_2 : wc.cell? ⟨gb142, 2, none⟩ = some (.int .i64 ((rd_T48 l0 x3_1).f2)) := (blk_cell BK142.out 2).trans rfl
                                have hcz40_3 : wc.cell? ⟨gb142, 3, none⟩ = some (.int .i64 ((rd_T48 l0 x3_1).f3)) := (blk_cell BK142.out 3).trans rfl
                                have hfz40_0 := blk_frozen BK142.out 0
                                have hfz40_1 := blk_frozen BK142.out 1
                                have hfz40_2 := blk_frozen BK142.out 2
                                have hfz40_3 := blk_frozen BK142.out 3
                                go_wp2_with (first | (go_at_call 65; (with_reducible refine (spec_l10State.calls kj19 _ _ y147 ((rd_T48 l0 x3_1).f1) t151 _ ?side1 ?side2 A31.out).mono ?_); (case side1 => repeat (first | exact (Kd.C_below HR150.out HB.out) | (with_reducible refine Kd.C_alloc ?_ _) | (with_reducible refine Kd.C_drewN ?_ _) | (with_reducible refine Kd.C_drew ?_))); (case side2 => exact HC150.out); rintro e w' ⟨rfl, ⟨nd, rfl⟩⟩; (try first | exact ⟨rfl, _, World.drewN_drewN _ _ _⟩ | exact ⟨rfl, _, Eq.trans (World.drewN_drewN _ _ _) (congrArg (World.drewN _) (Nat.add_assoc _ _ _))⟩)))
                                repeat (go_quiet (first | (go_at_call 65; (with_reducible refine (spec_l10State.calls kj19 _ _ y147 ((rd_T48 l0 x3_1).f1) t151 _ ?side1 ?side2 A31.out).mono ?_); (case side1 => repeat (first | exact (Kd.C_below HR150.out HB.out) | (with_reducible refine Kd.C_alloc ?_ _) | (with_reducible refine Kd.C_drewN ?_ _) | (with_reducible refine Kd.C_drew ?_))); (case side2 => exact HC150.out); rintro e w' ⟨rfl, ⟨nd, rfl⟩⟩; (try first | exact ⟨rfl, _, World.drewN_drewN _ _ _⟩ | exact ⟨rfl, _, Eq.trans (World.drewN_drewN _ _ _) (congrArg (World.drewN _) (Nat.add_assoc _ _ _))⟩))); try go_wp2_with (first | (go_at_call 65; (with_reducible refine (spec_l10State.calls kj19 _ _ y147 ((rd_T48 l0 x3_1).f1) t151 _ ?side1 ?side2 A31.out).mono ?_); (case side1 => repeat (first | exact (Kd.C_below HR150.out HB.out) | (with_reducible refine Kd.C_alloc ?_ _) | (with_reducible refine Kd.C_drewN ?_ _) | (with_reducible refine Kd.C_drew ?_))); (case side2 => exact HC150.out); rintro e w' ⟨rfl, ⟨nd, rfl⟩⟩; (try first | exact ⟨rfl, _, World.drewN_drewN _ _ _⟩ | exact ⟨rfl, _, Eq.trans (World.drewN_drewN _ _ _) (congrArg (World.drewN _) (Nat.add_assoc _ _ _))⟩))))
                                go_roundg kj19
                                case measure => have := HK1.out; have := HJ4.out; have := HJ19.out; omega
                                case rel => exact ⟨(wrap64 (x3_1 + 1)), (by first | rfl | (simp; done) | (simp [*]; done)), H', ⟨by have := HK1.out; have := HJ4.out; have := HJ19.out; omega⟩, ⟨by repeat (first | (with_reducible first | exact HB.out | apply below_alloc | apply pw_below_drewN | apply below_drew1 | refine below_set ?_ GE142.out) | exact HB.out)⟩⟩
                              · rw [if_neg c38] at H
                                have c38b0 : (t151 == 1) = false := beq_eq_false_iff_ne.mpr c38
                                have c38b1 : (t151 != 1) = true := bne_iff_ne.mpr c38
                                obtain rfl := Option.some.inj H
                                have q41 : (x3_1 : Int) ≤ ((l0.length : Int) : Int) := od
                                obtain ⟨i041, hi041, _, hsz41, _⟩ := info_parts info48
                                have hroom41 : l0.length ≤ c0 := HC0.out
                                have hC41 : Kd.C k48 _ (some ad141) l0.length l0 := HR0.out
                                have hcut41 := cut_to (P := Try.prog) 25 48 .i64 Try.underlying25 hi041 (some ad141) l0.length c0 x3_1 (od) q41 hroom41
                                have hr41 := Kd.C_take (m := (x3_1 : Int).toNat) hC41 (by omega)
                                have hy41 : y147.length = (x3_1 : Int).toNat := (by rw [Ny147.out, List.length_take]; omega)
                                rw [← Ny147.out] at hr41
                                rw [← hy41] at hcut41
                                have HR150 := Aside0.mk hr41
                                have HC150 := Aside0.mk (show y147.length ≤ c0 from by omega)
                                clear hr41 hC41 hroom41 hi041 hsz41
                                have KY41 := Aside0.mk hy41
                                clear hy41
                                replace q41 := eq_true q41
                                have hcz42_0 : wc.cell? ⟨gb142, 0, none⟩ = some (.int .i64 ((rd_T48 l0 x3_1).f0)) := (blk_cell BK142.out 0).trans rfl
                                have hcz42_1 : wc.cell? ⟨gb142, 1, none⟩ = some (.int .i64 ((rd_T48 l0 x3_1).f1)) := (blk_cell BK142.out 1).trans rfl
                                have hcz42_2 : wc.cell? ⟨gb142, 2, none⟩ = some (.int .i64 ((rd_T48 l0 x3_1).f2)) := (blk_cell BK142.out 2).trans rfl
                                have hcz42_3 : wc.cell? ⟨gb142, 3, none⟩ = some (.int .i64 ((rd_T48 l0 x3_1).f3)) := (blk_cell BK142.out 3).trans rfl
                                have hfz42_0 := blk_frozen BK142.out 0
                                have hfz42_1 := blk_frozen BK142.out 1
                                have hfz42_2 := blk_frozen BK142.out 2
                                have hfz42_3 := blk_frozen BK142.out 3
                                go_wp2_with (first | (go_at_call 65; (with_reducible refine (spec_l10State.calls kj19 _ _ y147 ((rd_T48 l0 x3_1).f1) t151 _ ?side1 ?side2 A31.out).mono ?_); (case side1 => repeat (first | exact (Kd.C_below HR150.out HB.out) | (with_reducible refine Kd.C_alloc ?_ _) | (with_reducible refine Kd.C_drewN ?_ _) | (with_reducible refine Kd.C_drew ?_))); (case side2 => exact HC150.out); rintro e w' ⟨rfl, ⟨nd, rfl⟩⟩; (try first | exact ⟨rfl, _, World.drewN_drewN _ _ _⟩ | exact ⟨rfl, _, Eq.trans (World.drewN_drewN _ _ _) (congrArg (World.drewN _) (Nat.add_assoc _ _ _))⟩)))
                                repeat (go_quiet (first | (go_at_call 65; (with_reducible refine (spec_l10State.calls kj19 _ _ y147 ((rd_T48 l0 x3_1).f1) t151 _ ?side1 ?side2 A31.out).mono ?_); (case side1 => repeat (first | exact (Kd.C_below HR150.out HB.out) | (with_reducible refine Kd.C_alloc ?_ _) | (with_reducible refine Kd.C_drewN ?_ _) | (with_reducible refine Kd.C_drew ?_))); (case side2 => exact HC150.out); rintro e w' ⟨rfl, ⟨nd, rfl⟩⟩; (try first | exact ⟨rfl, _, World.drewN_drewN _ _ _⟩ | exact ⟨rfl, _, Eq.trans (World.drewN_drewN _ _ _) (congrArg (World.drewN _) (Nat.add_assoc _ _ _))⟩))); try go_wp2_with (first | (go_at_call 65; (with_reducible refine (spec_l10State.calls kj19 _ _ y147 ((rd_T48 l0 x3_1).f1) t151 _ ?side1 ?side2 A31.out).mono ?_); (case side1 => repeat (first | exact (Kd.C_below HR150.out HB.out) | (with_reducible refine Kd.C_alloc ?_ _) | (with_reducible refine Kd.C_drewN ?_ _) | (with_reducible refine Kd.C_drew ?_))); (case side2 => exact HC150.out); rintro e w' ⟨rfl, ⟨nd, rfl⟩⟩; (try first | exact ⟨rfl, _, World.drewN_drewN _ _ _⟩ | exact ⟨rfl, _, Eq.trans (World.drewN_drewN _ _ _) (congrArg (World.drewN _) (Nat.add_assoc _ _ _))⟩))))
                                go_ret
                                exact ⟨by first | rfl | (simp [errW_none, errW_some] <;> rfl) | (simp [*, errW_none, errW_some] <;> rfl), by repeat (first | (with_reducible first | exact HB.out | apply below_alloc | apply pw_below_drewN | apply below_drew1 | refine below_set ?_ GE142.out) | exact HB.out)⟩
                          · rw [if_neg c30] at H
                            exact absurd H (by simp)
                        · rw [if_neg c29] at H
                          exact absurd H (by simp)
          · rw [if_neg c4] at H
            exact absurd H (by simp)
        · rw [if_neg c3] at H
          have c3b0 : decide (x3_1 < (l0.length : Int)) = false := decide_eq_false c3
          clear c3
          obtain rfl := Option.some.inj H
          go_wp2
          repeat (go_quiet (fail); try go_wp2)
          go_ret
          exact ⟨by first | rfl | (simp [errW_none, errW_some] <;> rfl) | (simp [*, errW_none, errW_some] <;> rfl), by repeat (first | (with_reducible first | exact HB.out | apply below_alloc | apply pw_below_drewN | apply below_drew1) | exact HB.out)⟩

end Go.Proofs.Ytkabmhjnhcfkcaa.XFnExactSerialOrder
