/- The machine's side of one law: functions as plain Lean functions, and that the calls do what these say. Written by a program of this session; no condition beyond those that each theorem names. -/
import Derived.Test.YtkabmhjnhcfkcaaXFnExactStartOrderedx0
import Derived.Test.YtkabmhjnhcfkcaaXFnExactStartOrderedx1
import Derived.Test.YtkabmhjnhcfkcaaXFnExactStartOrderedx7
import Derived.Test.YtkabmhjnhcfkcaaXFnExactStartOrderedx8
namespace Go.Proofs.Ytkabmhjnhcfkcaa.XFnExactStartOrdered
open Go.RowKit Go.Proofs.YtkabmhjnhcfkcaaW.PrintWords Go.Proofs.YtkabmhjnhcfkcaaW.PrintLast Go.Proofs.YtkabmhjnhcfkcaaW.PrintMore
attribute [local go_sem] max2_int min2_int max_two min_two max_three min_three max_four min_four   -- for this text's walks alone
set_option linter.unusedVariables false
set_option linter.unusedSimpArgs false

attribute [local go_sem high] eqA45
/-! ### impl_writers: function 41 -/
def wroteP (txn key : Int) (x : S48) : Bool := x.f0 == 3 && x.f1 == txn && x.f2 == key
set_option maxHeartbeats 4000000 in
theorem impl_writers_1_1.calls (x : S48) (b1 b2 : Nat) (txn key : Int) (w : World) (h1 : w.cell? ⟨b1, 0, none⟩ = some (.int .i64 txn)) (h2 : w.cell? ⟨b2, 0, none⟩ = some (.int .i64 key)) (l1 : b1 < w.heap.size) (l2 : b2 < w.heap.size) :
    Calls Try.prog 80 #[.agg #[.int .i64 x.f0, .int .i64 x.f1, .int .i64 x.f2, .int .i64 x.f3], .pointer (some ⟨b1, 0, none⟩), .pointer (some ⟨b2, 0, none⟩)] w fun e w' => e = .returned (.bool (wroteP txn key x)) ∧ Below w.heap.size w w' := by
  obtain ⟨x0, x1, x2, x3⟩ := x
  have HP := Aside0.mk (show wroteP txn key ⟨x0, x1, x2, x3⟩ = (x0 == 3 && x1 == txn && x2 == key) from rfl)
  generalize wroteP txn key ⟨x0, x1, x2, x3⟩ = r at HP ⊢
  dsimp only
  cases e1 : (x0 == 3) with
  | false =>
    go_enter Try.func80, Try.ntmps80
    go_wp2
    go_ret
    exact ⟨by rw [HP.out, e1]; rfl, below_alloc (Below.refl _ _) _⟩
  | true =>
    cases e2 : (x1 == txn) with
    | false =>
      go_enter Try.func80, Try.ntmps80
      go_wp2
      go_ret
      exact ⟨by rw [HP.out, e1, e2]; rfl, below_alloc (Below.refl _ _) _⟩
    | true =>
      go_enter Try.func80, Try.ntmps80
      go_wp2
      go_ret
      exact ⟨by rw [HP.out, e1, e2]; rfl, below_alloc (Below.refl _ _) _⟩
set_option maxHeartbeats 4000000 in
theorem impl_writers_1.calls (txn : Int) (b1 b2 : Nat) (key : Int) (A0 : Option Addr) (c0 : Nat) (l0 : List S48) (w : World) (h1 : w.cell? ⟨b1, 0, none⟩ = some (.slice A0 l0.length c0)) (h2 : w.cell? ⟨b2, 0, none⟩ = some (.int .i64 key)) (l1 : b1 < w.heap.size) (l2 : b2 < w.heap.size) (hr0 : Kd.C k48 w A0 l0.length l0) :
    Calls Try.prog 78 #[.int .i64 txn, .pointer (some ⟨b1, 0, none⟩), .pointer (some ⟨b2, 0, none⟩)] w fun e w' => e = .returned (.bool (!(l0.any (wroteP txn key)))) ∧ Below w.heap.size w w' := by
  have hb0 : Below w.heap.size w (w.alloc (.cells #[.int .i64 txn] 2)) := below_alloc (Below.refl _ _) _
  have hcon := impl_Hop_79.calls A0 c0 l0 80 #[.pointer (some ⟨w.heap.size, 0, none⟩), .pointer (some ⟨b2, 0, none⟩)] (wroteP txn key) (w.alloc (.cells #[.int .i64 txn] 2)) (enters_of Try.func80 (by kernel_rfl) rfl) (Kd.C_below hr0 hb0)
    (fun W x hx hb => (impl_writers_1_1.calls x _ _ txn key W ((hb.cell (by simp)).trans (by simp)) ((hb.cell (Nat.lt_of_lt_of_le l2 hb0.size)).trans ((hb0.cell (p := ⟨b2, 0, none⟩) l2).trans h2)) (Nat.lt_of_lt_of_le (by simp) hb.size) (Nat.lt_of_lt_of_le (Nat.lt_of_lt_of_le l2 hb0.size) hb.size)).mono fun e w' h => ⟨h.1, below_step hb h.2⟩)
  generalize l0.any (wroteP txn key) = r at hcon ⊢
  have HC := Aside0.mk hcon
  have HB := Aside0.mk hb0
  clear hcon hb0 hr0
  go_enter Try.func78, Try.ntmps78
  go_wp2_with (go_at_call 79; refine HC.out.mono ?_; rintro e w' ⟨rfl, hd⟩)
  go_ret
  exact ⟨rfl, below_step HB.out hd⟩
def writersL (l0 : List S48) (key : Int) : List Int := (commL l0).filter (fun t => l0.any (wroteP t key))
def impl_writers.f (l0 : List S48) (a1 : Int) : Option (List Int) := if l0.length ≤ 1048576 then some (writersL l0 a1) else none
set_option maxHeartbeats 4000000 in
theorem impl_writers.calls (A0 : Option Addr) (c0 : Nat) (l0 : List S48) (a1 : Int) (r : List Int) (w : World) (hr0 : Kd.C k48 w A0 l0.length l0) (hc0 : l0.length ≤ c0) (h : impl_writers.f l0 a1 = some r) :
    Calls Try.prog 41 #[.slice A0 l0.length c0, .int .i64 a1] w fun e w' => ∃ v0_ : Value, e = .returned (v0_) ∧ Kd.R (Kd.int .i64) 2 w' w.heap.size (fun _ => True) v0_ r ∧ Below w.heap.size w w' := by
  unfold impl_writers.f at h
  split at h
  · rename_i hl
    obtain rfl := Option.some.inj h
    clear h
    have hb0 : Below w.heap.size w ((w.alloc (.cells #[.slice A0 l0.length c0] 25)).alloc (.cells #[.int .i64 a1] 2)) := below_alloc (below_alloc (Below.refl _ _) _) _
    obtain ⟨k, hk⟩ := Ev.rounds (impl_committed.ev l0 hl)
    have hcom := impl_committed.calls k A0 c0 l0 (commL l0) ((w.alloc (.cells #[.slice A0 l0.length c0] 25)).alloc (.cells #[.int .i64 a1] 2)) (Kd.C_below hr0 hb0) hc0 hk
    have hdel := fun (W : World) (v : Value) (hb : Below ((w.alloc (.cells #[.slice A0 l0.length c0] 25)).alloc (.cells #[.int .i64 a1] 2)).heap.size ((w.alloc (.cells #[.slice A0 l0.length c0] 25)).alloc (.cells #[.int .i64 a1] 2)) W) (ho : Kd.R (Kd.int .i64) 2 W ((w.alloc (.cells #[.slice A0 l0.length c0] 25)).alloc (.cells #[.int .i64 a1] 2)).heap.size (fun _ => True) v (commL l0)) =>
      slices_DeleteFunc_int64_int64.calls 78 #[.pointer (some ⟨w.heap.size, 0, none⟩), .pointer (some ⟨w.heap.size + 1, 0, none⟩)] (fun t => !(l0.any (wroteP t a1))) _ _ v (commL l0) W (enters_of Try.func78 (by kernel_rfl) rfl) ho
        (fun W2 x hx hg => by
          have hne : ∀ b, b < ((w.alloc (.cells #[.slice A0 l0.length c0] 25)).alloc (.cells #[.int .i64 a1] 2)).heap.size → some b ≠ v.ownBlock := fun b hb2 he => by
            have := Kd.R_base ho b he.symm
            omega
          have hB2 : Below w.heap.size w W2 := ⟨(hg.os.trans hb.os).trans hb0.os, (hg.tape.trans hb.tape).trans hb0.tape, (hg.output.trans hb.output).trans hb0.output, Nat.le_trans (Nat.le_trans hb0.size hb.size) hg.size, fun i hi => (hg.block i (Nat.lt_of_lt_of_le hi (Nat.le_trans hb0.size hb.size)) (hne i (Nat.lt_of_lt_of_le hi hb0.size))).trans ((hb.block i (Nat.lt_of_lt_of_le hi hb0.size)).trans (hb0.block i hi))⟩
          have c1 : W2.heap[w.heap.size]? = some (.cells #[.slice A0 l0.length c0] 25 (0, 0)) := grown_block hg (blk_below (blk_alloc (heap_alloc_new w _) _) hb) (hne _ (by simp; omega))
          have c2 : W2.heap[w.heap.size + 1]? = some (.cells #[.int .i64 a1] 2 (0, 0)) := grown_block hg (blk_below (by have := heap_alloc_new (w.alloc (.cells #[.slice A0 l0.length c0] 25)) (.cells #[.int .i64 a1] 2); simpa using this) hb) (hne _ (by simp))
          exact impl_writers_1.calls x _ _ a1 A0 c0 l0 W2 (cells1 c1) (cells1 c2) (blk_lt c1) (blk_lt c2) (Kd.C_below hr0 hB2))
    have hfil : (commL l0).filter (fun x => !(fun t => !(l0.any (wroteP t a1))) x) = writersL l0 a1 := by
      unfold writersL
      congr 1
      funext x
      simp
    rw [hfil] at hdel
    generalize writersL l0 a1 = r at hdel ⊢
    have HC := Aside0.mk hcom
    have HD := Aside0.mk hdel
    have HB := Aside0.mk hb0
    clear hcom hdel hb0 hr0 hfil hk
    go_enter Try.func41, Try.ntmps41
    go_wp2_with (first | (go_at_call 55; refine HC.out.mono ?_; rintro e w1 ⟨v1, rfl, hR1, hB1⟩) | (go_at_call 77; refine (HD.out _ _ hB1 hR1).mono ?_; rintro e w2 ⟨v2, rfl, hR2, hG2⟩))
    go_ret
    have hb1 := below_step HB.out hB1
    refine ⟨_, rfl, Kd.R_lower hR2 HB.out.size, hb1.grown hG2 hb1.size (fun k hk => Nat.le_trans HB.out.size (Kd.R_base hR1 k hk))⟩
  · cases h


/-! ### impl_Edge_84: function 84 -/
def impl_Edge_84.l0 : Nat → List (S45) → Int → Int → Int → Int → Int → Option (Int)
  | 0, _, _, _, _, _, _ => none
  | k + 1, x0, x7, x8, x207000, x207001, x207002 => if x8 < x7 then (if 0 ≤ x8 then (if x8 < (x0.length : Int) then (if (x207000 == ((rd_T45 x0 x8).f0) && (x207001 == ((rd_T45 x0 x8).f1) && (x207002 == ((rd_T45 x0 x8).f2)))) = true then (some x8) else (impl_Edge_84.l0 k x0 x7 (wrap64 (x8 + 1)) x207000 x207001 x207002)) else (none)) else (none)) else (some (-1))
def impl_Edge_84.f (k : Nat) (l0 : List (S45)) (a1_0 : Int) (a1_1 : Int) (a1_2 : Int) : Option (Int) := impl_Edge_84.l0 k l0 (l0.length : Int) 0 a1_0 a1_1 a1_2
theorem impl_Edge_84.mono_l : ∀ k, (∀ y0 y1 y2 y3 y4 y5, LeO (impl_Edge_84.l0 k y0 y1 y2 y3 y4 y5) (impl_Edge_84.l0 (k + 1) y0 y1 y2 y3 y4 y5))
  | 0 => fun _ _ _ _ _ _ r h => by simp [impl_Edge_84.l0] at h
  | k + 1 => by
    have ih0 := impl_Edge_84.mono_l k
    · intro y0 y1 y2 y3 y4 y5
      unfold impl_Edge_84.l0
      repeat' first
      | (with_reducible exact ih0 _ _ _ _ _ _)
      | (with_reducible exact LeO.refl _)
      | (with_reducible exact LeO.none _)
      | (with_reducible refine LeO.ite ?_ ?_)
      | (with_reducible refine LeO.bind ?_ (fun _ => ?_))
      | exact ih0 _ _ _ _ _ _
      | exact LeO.none _
      | refine LeO.ite ?_ ?_
      | refine LeO.bind ?_ (fun _ => ?_)
theorem impl_Edge_84.mono : ∀ a0 a1 a2 a3 k, LeO (impl_Edge_84.f k a0 a1 a2 a3) (impl_Edge_84.f (k + 1) a0 a1 a2 a3) := by
  intro a0 a1 a2 a3 k
  have ih0 := impl_Edge_84.mono_l k
  unfold impl_Edge_84.f
  repeat' first
      | (with_reducible exact ih0 _ _ _ _ _ _)
      | (with_reducible exact LeO.refl _)
      | (with_reducible exact LeO.none _)
      | (with_reducible refine LeO.ite ?_ ?_)
      | (with_reducible refine LeO.bind ?_ (fun _ => ?_))
      | exact ih0 _ _ _ _ _ _
      | exact LeO.none _
      | refine LeO.ite ?_ ?_
      | refine LeO.bind ?_ (fun _ => ?_)
set_option maxHeartbeats 8000000 in
set_option maxRecDepth 100000 in
theorem impl_Edge_84.calls (k : Nat) (A0 : Option Addr) (c0 : Nat) (l0 : List (S45)) (a1_0 : Int) (a1_1 : Int) (a1_2 : Int) (r : Int) (w : World) (hr0 : Kd.C k45 w A0 l0.length l0) (hc0 : l0.length ≤ c0) (h : impl_Edge_84.f k l0 a1_0 a1_1 a1_2 = some r) :
    Calls Try.prog 84 #[.slice A0 l0.length c0, .agg #[.int .i64 a1_0, .int .i64 a1_1, .int .i64 a1_2]] w fun e w' => e = .returned (.int .i64 r) ∧ Below w.heap.size w w' := by
  have hu45 := Try.underlying45
  have HR0 := Aside0.mk hr0
  have HC0 := Aside0.mk hc0
  clear hr0 hc0
  have HB := Aside0.mk (Below.refl w.heap.size w)
  have H : (impl_Edge_84.l0 k l0 (l0.length : Int) 0 a1_0 a1_1 a1_2) = some r := h
  clear h
  have H' := Aside0.mk H
  clear H
  go_enter Try.func84, Try.ntmps84
  go_wp2_with (first | ((with_reducible refine gate_dst (N := 3) rfl ?_); refine box_event ?hg (N := 3) ?hd (cs := #[.int .i64 a1_0, .int .i64 a1_1, .int .i64 a1_2]) (t := 45) ?hr ?_; (case hd => rfl); (case hg => rfl); (case hr => first | (go_simp; done) | (go_simp; rfl)); intro gb206 hg w3 hbox hb; have n0_ := Aside0.mk (below_step bo hb); have n1_ := Aside0.mk (hbox); have n2_ := Aside0.mk ((by rw [hg]; exact (below_size bo) : w.heap.size ≤ gb206)); have n3_ := Aside0.mk ((by rw [hg]; exact (below_size bo) : w.heap.size ≤ gb206)); clear HB; have HB := n0_; have BK206 := n1_; have GW206 := n2_; have GE206 := n3_; clear n0_ n1_ n2_ n3_; clear hb hbox hg))
  repeat (go_quiet (first | ((with_reducible refine gate_dst (N := 3) rfl ?_); refine box_event ?hg (N := 3) ?hd (cs := #[.int .i64 a1_0, .int .i64 a1_1, .int .i64 a1_2]) (t := 45) ?hr ?_; (case hd => rfl); (case hg => rfl); (case hr => first | (go_simp; done) | (go_simp; rfl)); intro gb206 hg w3 hbox hb; have n0_ := Aside0.mk (below_step bo hb); have n1_ := Aside0.mk (hbox); have n2_ := Aside0.mk ((by rw [hg]; exact (below_size bo) : w.heap.size ≤ gb206)); have n3_ := Aside0.mk ((by rw [hg]; exact (below_size bo) : w.heap.size ≤ gb206)); clear HB; have HB := n0_; have BK206 := n1_; have GW206 := n2_; have GE206 := n3_; clear n0_ n1_ n2_ n3_; clear hb hbox hg)); try go_wp2_with (first | ((with_reducible refine gate_dst (N := 3) rfl ?_); refine box_event ?hg (N := 3) ?hd (cs := #[.int .i64 a1_0, .int .i64 a1_1, .int .i64 a1_2]) (t := 45) ?hr ?_; (case hd => rfl); (case hg => rfl); (case hr => first | (go_simp; done) | (go_simp; rfl)); intro gb206 hg w3 hbox hb; have n0_ := Aside0.mk (below_step bo hb); have n1_ := Aside0.mk (hbox); have n2_ := Aside0.mk ((by rw [hg]; exact (below_size bo) : w.heap.size ≤ gb206)); have n3_ := Aside0.mk ((by rw [hg]; exact (below_size bo) : w.heap.size ≤ gb206)); clear HB; have HB := n0_; have BK206 := n1_; have GW206 := n2_; have GE206 := n3_; clear n0_ n1_ n2_ n3_; clear hb hbox hg)))
  go_loopg [8] k (fun kq v8 w' => ∃ (x8_1 : Int), v8 = .int .i64 x8_1 ∧ Aside0 (impl_Edge_84.l0 kq l0 (l0.length : Int) x8_1 a1_0 a1_1 a1_2 = some r) ∧ Aside0 (kq ≤ k) ∧ Aside0 (w'.heap[gb206]? = some (.cells #[.int .i64 a1_0, .int .i64 a1_1, .int .i64 a1_2] 45 (0, 0))) ∧ Aside0 (Below w.heap.size w w'))
  case atStart => exact ⟨(0), (by first | rfl | (simp; done) | (simp [*]; done)), H', ⟨Nat.le_refl _⟩, ⟨by (with_reducible repeat (first | refine blk_drewN ?_ _ | refine blk_drew ?_ | refine blk_alloc ?_ _)); exact BK206.out⟩, ⟨by repeat (first | (with_reducible first | exact HB.out | apply below_alloc | apply pw_below_drewN | apply below_drew1 | refine below_set ?_ GE206.out) | exact HB.out)⟩⟩
  case round =>
    clear H'
    try clear p2
    obtain ⟨x8_1, rfl, HA, HK1, BK206, HB⟩ := hrel
    cases gk with
    | zero => exact absurd HA.out (by simp [impl_Edge_84.l0])
    | succ k1 =>
      have H := HA.out
      clear HA
      simp only [impl_Edge_84.l0] at H
      by_cases c4 : x8_1 < (l0.length : Int)
      · rw [if_pos c4] at H
        have c4b0 : decide (x8_1 < (l0.length : Int)) = true := decide_eq_true c4
        clear c4
        by_cases c5 : 0 ≤ x8_1
        · rw [if_pos c5] at H
          have c5b0 : decide (0 ≤ x8_1) = true := decide_eq_true c5
          clear c5
          by_cases c6 : x8_1 < (l0.length : Int)
          · rw [if_pos c6] at H
            have c6b0 : decide (x8_1 < (l0.length : Int)) = true := decide_eq_true c6
            clear c6
            by_cases c7 : (a1_0 == ((rd_T45 l0 x8_1).f0) && (a1_1 == ((rd_T45 l0 x8_1).f1) && (a1_2 == ((rd_T45 l0 x8_1).f2)))) = true
            · rw [if_pos c7] at H
              have c7b0 : (a1_0 == ((rd_T45 l0 x8_1).f0) && (a1_1 == ((rd_T45 l0 x8_1).f1) && (a1_2 == ((rd_T45 l0 x8_1).f2)))) = true := c7
              (try (have c7b1 : decide (a1_0 = ((rd_T45 l0 x8_1).f0) && (a1_1 == ((rd_T45 l0 x8_1).f1) && (a1_2 == ((rd_T45 l0 x8_1).f2)))) = true := by simpa using c7))
              (try (have c7b2 : (a1_0 == ((rd_T45 l0 x8_1).f0) && (a1_1 == ((rd_T45 l0 x8_1).f1) && (a1_2 == ((rd_T45 l0 x8_1).f2)))) = true := by simpa using c7))
              clear c7
              obtain rfl := Option.some.inj H
              have hcz8_0 : wr.cell? ⟨gb206, 0, none⟩ = some (.int .i64 a1_0) := (blk_cell BK206.out 0).trans rfl
              have hcz8_1 : wr.cell? ⟨gb206, 1, none⟩ = some (.int .i64 a1_1) := (blk_cell BK206.out 1).trans rfl
              have hcz8_2 : wr.cell? ⟨gb206, 2, none⟩ = some (.int .i64 a1_2) := (blk_cell BK206.out 2).trans rfl
              have hfz8_0 := blk_frozen BK206.out 0
              have hfz8_1 := blk_frozen BK206.out 1
              have hfz8_2 := blk_frozen BK206.out 2
              have p207 : 0 ≤ (x8_1 : Int) := od
              have q207 : x8_1 < (l0.length : Int) := od
              obtain ⟨ad207, e207, hx207_0, hx207_1, hx207_2⟩ := at_T45 HR0.out x8_1 p207 q207
              cases e207
              replace hx207_0 := (HB.out.cell (World.block_lt_of_cell? w _ hx207_0)).trans hx207_0
              replace hx207_1 := (HB.out.cell (World.block_lt_of_cell? w _ hx207_1)).trans hx207_1
              replace hx207_2 := (HB.out.cell (World.block_lt_of_cell? w _ hx207_2)).trans hx207_2
              replace p207 := eq_true p207
              replace q207 := eq_true q207
              go_wp2
              repeat (go_quiet (fail); try go_wp2)
              go_ret
              exact ⟨by first | rfl | (simp [errW_none, errW_some] <;> rfl) | (simp [*, errW_none, errW_some] <;> rfl), by repeat (first | (with_reducible first | exact HB.out | apply below_alloc | apply pw_below_drewN | apply below_drew1 | refine below_set ?_ GE206.out) | exact HB.out)⟩
            · rw [if_neg c7] at H
              have c7b0 : (a1_0 == ((rd_T45 l0 x8_1).f0) && (a1_1 == ((rd_T45 l0 x8_1).f1) && (a1_2 == ((rd_T45 l0 x8_1).f2)))) = false := by simpa using c7
              (try (have c7b1 : decide (a1_0 = ((rd_T45 l0 x8_1).f0) && (a1_1 == ((rd_T45 l0 x8_1).f1) && (a1_2 == ((rd_T45 l0 x8_1).f2)))) = false := by simpa using c7))
              (try (have c7b2 : (a1_0 == ((rd_T45 l0 x8_1).f0) && (a1_1 == ((rd_T45 l0 x8_1).f1) && (a1_2 == ((rd_T45 l0 x8_1).f2)))) = false := by simpa using c7))
              (try (have c7b3 : ¬ (a1_0 = ((rd_T45 l0 x8_1).f0) && (a1_1 == ((rd_T45 l0 x8_1).f1) && (a1_2 == ((rd_T45 l0 x8_1).f2)))) := by simpa using c7))
              clear c7
              have H' := Aside0.mk H
              clear H
              have hcz9_0 : wr.cell? ⟨gb206, 0, none⟩ = some (.int .i64 a1_0) := (blk_cell BK206.out 0).trans rfl
              have hcz9_1 : wr.cell? ⟨gb206, 1, none⟩ = some (.int .i64 a1_1) := (blk_cell BK206.out 1).trans rfl
              have hcz9_2 : wr.cell? ⟨gb206, 2, none⟩ = some (.int .i64 a1_2) := (blk_cell BK206.out 2).trans rfl
              have hfz9_0 := blk_frozen BK206.out 0
              have hfz9_1 := blk_frozen BK206.out 1
              have hfz9_2 := blk_frozen BK206.out 2
              have p207 : 0 ≤ (x8_1 : Int) := od
              have q207 : x8_1 < (l0.length : Int) := od
              obtain ⟨ad207, e207, hx207_0, hx207_1, hx207_2⟩ := at_T45 HR0.out x8_1 p207 q207
              cases e207
              replace hx207_0 := (HB.out.cell (World.block_lt_of_cell? w _ hx207_0)).trans hx207_0
              replace hx207_1 := (HB.out.cell (World.block_lt_of_cell? w _ hx207_1)).trans hx207_1
              replace hx207_2 := (HB.out.cell (World.block_lt_of_cell? w _ hx207_2)).trans hx207_2
              replace p207 := eq_true p207
              replace q207 := eq_true q207
              go_wp2
              repeat (go_quiet (fail); try go_wp2)
              go_roundg k1
              case measure => have := HK1.out; omega
              case rel => exact ⟨(wrap64 (x8_1 + 1)), (by first | rfl | (simp; done) | (simp [*]; done)), H', ⟨by have := HK1.out; omega⟩, ⟨by (with_reducible repeat (first | refine blk_drewN ?_ _ | refine blk_drew ?_ | refine blk_alloc ?_ _)); exact BK206.out⟩, ⟨by repeat (first | (with_reducible first | exact HB.out | apply below_alloc | apply pw_below_drewN | apply below_drew1 | refine below_set ?_ GE206.out) | exact HB.out)⟩⟩
          · rw [if_neg c6] at H
            exact absurd H (by simp)
        · rw [if_neg c5] at H
          exact absurd H (by simp)
      · rw [if_neg c4] at H
        have c4b0 : decide (x8_1 < (l0.length : Int)) = false := decide_eq_false c4
        clear c4
        obtain rfl := Option.some.inj H
        go_wp2
        repeat (go_quiet (fail); try go_wp2)
        go_ret
        exact ⟨by first | rfl | (simp [errW_none, errW_some] <;> rfl) | (simp [*, errW_none, errW_some] <;> rfl), by repeat (first | (with_reducible first | exact HB.out | apply below_alloc | apply pw_below_drewN | apply below_drew1 | refine below_set ?_ GE206.out) | exact HB.out)⟩

/-! ### impl_Edge_72: function 72 -/
def impl_Edge_72.f (k : Nat) (l0 : List (S45)) (a1_0 : Int) (a1_1 : Int) (a1_2 : Int) : Option (Bool) := (impl_Edge_84.f k l0 a1_0 a1_1 a1_2).bind fun t209 => (some (decide (t209 ≥ 0)))
theorem impl_Edge_72.mono : ∀ a0 a1 a2 a3 k, LeO (impl_Edge_72.f k a0 a1 a2 a3) (impl_Edge_72.f (k + 1) a0 a1 a2 a3) := by
  intro a0 a1 a2 a3 k
  unfold impl_Edge_72.f
  repeat' first
      | (with_reducible exact impl_Edge_84.mono _ _ _ _ _)
      | (with_reducible exact LeO.refl _)
      | (with_reducible exact LeO.none _)
      | (with_reducible refine LeO.ite ?_ ?_)
      | (with_reducible refine LeO.bind ?_ (fun _ => ?_))
      | exact impl_Edge_84.mono _ _ _ _ _
      | exact LeO.none _
      | refine LeO.ite ?_ ?_
      | refine LeO.bind ?_ (fun _ => ?_)
set_option maxHeartbeats 8000000 in
set_option maxRecDepth 100000 in
theorem impl_Edge_72.calls (k : Nat) (A0 : Option Addr) (c0 : Nat) (l0 : List (S45)) (a1_0 : Int) (a1_1 : Int) (a1_2 : Int) (r : Bool) (w : World) (hr0 : Kd.C k45 w A0 l0.length l0) (hc0 : l0.length ≤ c0) (h : impl_Edge_72.f k l0 a1_0 a1_1 a1_2 = some r) :
    Calls Try.prog 72 #[.slice A0 l0.length c0, .agg #[.int .i64 a1_0, .int .i64 a1_1, .int .i64 a1_2]] w fun e w' => e = .returned (.bool r) ∧ Below w.heap.size w w' := by
  have hu45 := Try.underlying45
  have HR0 := Aside0.mk hr0
  have HC0 := Aside0.mk hc0
  clear hr0 hc0
  have HB := Aside0.mk (Below.refl w.heap.size w)
  have H : ((impl_Edge_84.f k l0 a1_0 a1_1 a1_2).bind fun t209 => (some (decide (t209 ≥ 0)))) = some r := h
  clear h
  replace H := Option.bind_eq_some_iff.mp H
  obtain ⟨t209, A30, H⟩ := H
  replace H : (some (decide (t209 ≥ 0))) = some r := H
  have A3 := Aside0.mk A30
  clear A30
  obtain rfl := Option.some.inj H
  go_enter Try.func72, Try.ntmps72
  go_wp2_with (first | ((with_reducible refine gate_dst (N := 3) rfl ?_); refine box_event ?hg (N := 3) ?hd (cs := #[.int .i64 a1_0, .int .i64 a1_1, .int .i64 a1_2]) (t := 45) ?hr ?_; (case hd => rfl); (case hg => rfl); (case hr => first | (go_simp; done) | (go_simp; rfl)); intro gb208 hg w4 hbox hb; have n0_ := Aside0.mk (below_step bo hb); have n1_ := Aside0.mk (hbox); have n2_ := Aside0.mk ((by rw [hg]; exact (below_size bo) : w.heap.size ≤ gb208)); have n3_ := Aside0.mk ((by rw [hg]; exact (below_size bo) : w.heap.size ≤ gb208)); clear HB; have HB := n0_; have BK208 := n1_; have GW208 := n2_; have GE208 := n3_; clear n0_ n1_ n2_ n3_; clear hb hbox hg; have hcz5_0 : w4.cell? ⟨gb208, 0, none⟩ = some (.int .i64 a1_0) := (blk_cell BK208.out 0).trans rfl; have hcz5_1 : w4.cell? ⟨gb208, 1, none⟩ = some (.int .i64 a1_1) := (blk_cell BK208.out 1).trans rfl; have hcz5_2 : w4.cell? ⟨gb208, 2, none⟩ = some (.int .i64 a1_2) := (blk_cell BK208.out 2).trans rfl; have hfz5_0 := blk_frozen BK208.out 0; have hfz5_1 := blk_frozen BK208.out 1; have hfz5_2 := blk_frozen BK208.out 2) | ((with_reducible refine gate_callee (f := 84) rfl ?_); refine goesL_ (some 7) rfl rfl Try.func84 (by kernel_rfl) rfl #[.slice A0 l0.length c0, .agg #[.int .i64 a1_0, .int .i64 a1_1, .int .i64 a1_2]] rfl (by (try simp only [List.map_toArray, List.map_cons, List.map_nil]); first | done | rfl | (simp only [List.length_drop, List.length_take]; rfl)) ?_; (with_reducible refine (impl_Edge_84.calls k _ _ l0 a1_0 a1_1 a1_2 t209 _ ?side1 ?side2 A3.out).mono ?_); (case side1 => repeat (first | exact (Kd.C_below HR0.out HB.out) | (with_reducible refine Kd.C_alloc ?_ _) | (with_reducible refine Kd.C_drewN ?_ _) | (with_reducible refine Kd.C_drew ?_))); (case side2 => exact HC0.out); rintro e w6 ⟨rfl, hb⟩; refine ⟨_, rfl, ?_⟩; have n0_ := Aside0.mk (blk_below (g := gb208) (o := .cells #[.int .i64 a1_0, .int .i64 a1_1, .int .i64 a1_2] 45 (0, 0)) (by (with_reducible repeat (first | refine blk_drewN ?_ _ | refine blk_drew ?_ | refine blk_alloc ?_ _)); exact BK208.out) hb); have n1_ := Aside0.mk (below_step (by repeat (first | (with_reducible first | exact HB.out | apply below_alloc | apply pw_below_drewN | apply below_drew1 | refine below_set ?_ GE208.out) | exact HB.out)) hb); clear BK208; clear HB; have BK208 := n0_; have HB := n1_; clear n0_ n1_; (try clear hb); (try clear hb2); (try clear hk); (try clear hi)))
  go_ret
  exact ⟨by first | rfl | (simp [errW_none, errW_some] <;> rfl) | (simp [*, errW_none, errW_some] <;> rfl), by repeat (first | (with_reducible first | exact HB.out | apply below_alloc | apply pw_below_drewN | apply below_drew1 | refine below_set ?_ GE208.out) | exact HB.out)⟩

/-! ### impl_edges: function 34 -/
def edgeIn (l : List S45) (f t k : Int) : Bool := l.any (fun y => f == y.f0 && (t == y.f1 && k == y.f2))
theorem idxE_ev (l : List S45) (f t c : Int) (hl : l.length ≤ 1048576) : Ev (fun k => impl_Edge_84.f k l f t c) (idxP (fun y : S45 => f == y.f0 && (t == y.f1 && c == y.f2)) l) := by
  have key : ∀ (d i : Nat), i + d = l.length → Ev (fun k => impl_Edge_84.l0 k l (l.length : Int) (i : Int) f t c) (if idxP (fun y : S45 => f == y.f0 && (t == y.f1 && c == y.f2)) (l.drop i) < 0 then -1 else idxP (fun y : S45 => f == y.f0 && (t == y.f1 && c == y.f2)) (l.drop i) + i) := by
    intro d
    induction d with
    | zero =>
      intro i hi
      rw [List.drop_eq_nil_of_le (by omega)]
      refine Ev.step (f := fun _ => some (-1)) (fun k => ?_) (Ev.val (Ev.now _) (by simp [idxP]))
      simp only [impl_Edge_84.l0]
      rw [if_neg (by omega)]
    | succ d ih =>
      intro i hi
      have h1 : (i : Int) < (l.length : Int) := by omega
      have h0 : (0 : Int) ≤ (i : Int) := by omega
      have hw := wrap_nat i l.length (by omega) (by omega)
      have hx : rd_T45 l (i : Int) = l[i]'(by omega) := by
        show l.getD i _ = _
        rw [List.getD_eq_getElem?_getD, List.getElem?_eq_getElem (by omega)]; rfl
      have hn := ih (i + 1) (by omega)
      rw [List.drop_eq_getElem_cons (by omega), ← hx]
      generalize hX : rd_T45 l (i : Int) = x at *
      rw [idxP_shift]
      cases hq : (f == x.f0 && (t == x.f1 && c == x.f2)) with
      | true =>
        refine Ev.step (f := fun _ => some (i : Int)) (fun k => ?_) (Ev.val (Ev.now _) (by rw [if_pos rfl]))
        simp only [impl_Edge_84.l0, if_pos h1, if_pos h0, hX, hq, if_true]
      | false =>
        refine Ev.step (fun k => ?_) (Ev.val hn (by rw [show ((i + 1 : Nat) : Int) = (i : Int) + 1 from by omega]; rfl))
        simp only [impl_Edge_84.l0, if_pos h1, if_pos h0, hX, hq, Bool.false_eq_true, if_false, hw]
  unfold impl_Edge_84.f
  refine Ev.val (key l.length 0 (by omega)) ?_
  have hg := (idxP_ge (fun y : S45 => f == y.f0 && (t == y.f1 && c == y.f2)) l).1
  rw [List.drop_zero]
  split
  · omega
  · simp
theorem inE_ev (l : List S45) (f t c : Int) (hl : l.length ≤ 1048576) : Ev (fun k => impl_Edge_72.f k l f t c) (edgeIn l f t c) := by
  unfold impl_Edge_72.f
  refine Ev.bind (idxE_ev l f t c hl) (Ev.val (Ev.now _) ?_)
  unfold edgeIn
  rw [← idxP_any]
def addE (l : List S45) (f t k : Int) : List S45 := if f = t then l else if edgeIn l f t k = true then l else l ++ [⟨f, t, k⟩]
theorem addE_len (l : List S45) (f t k : Int) : (addE l f t k).length ≤ l.length + 1 := by
  unfold addE
  split
  · omega
  · split
    · omega
    · simp
def KeepT (t : TypeId) (w w' : World) : Prop := w.heap.size ≤ w'.heap.size ∧ ∀ (i : Nat) (cells : Array Value), w.heap[i]? = some (Obj.cells cells t (0, 0)) → w'.heap[i]? = some (Obj.cells cells t (0, 0))
theorem KeepT.dummy : True := trivial
theorem KeepT.refl (t : TypeId) (w : World) : KeepT t w w := ⟨Nat.le_refl _, fun _ _ h => h⟩
theorem KeepT.trans {t : TypeId} {w w1 w2 : World} (h : KeepT t w w1) (k : KeepT t w1 w2) : KeepT t w w2 := ⟨Nat.le_trans h.1 k.1, fun i c hc => k.2 i c (h.2 i c hc)⟩
theorem KeepT.of_below {t : TypeId} {w w1 : World} (h : Below w.heap.size w w1) : KeepT t w w1 := ⟨h.size, fun i c hc => (h.block i (blk_lt hc)).trans hc⟩
theorem KeepT.of_grown {t : TypeId} {w w1 : World} {row : Option Nat} (h : w.grownBy w1 row) (hr : ∀ k, row = some k → ∃ cells q, w.heap[k]? = some (.cells cells q (0, 0)) ∧ q ≠ t) : KeepT t w w1 :=
  ⟨h.size, fun i c hc => (h.block i (blk_lt hc) (fun e => by
    obtain ⟨cs, q, h1, h2⟩ := hr i e.symm
    rw [hc] at h1
    simp only [Option.some.injEq, Obj.cells.injEq] at h1
    exact h2 h1.2.1.symm)).trans hc⟩
theorem KeepT.set_ {t q : TypeId} {w : World} {g : Nat} {cells : Array Value} (hb : w.heap[g]? = some (.cells cells q (0, 0))) (hq : q ≠ t) (j : Nat) (u : Value) : KeepT t w (w.setCell ⟨g, j, none⟩ u) :=
  ⟨by simp [World.setCell], fun i c hc => (Below.heap_setCell w ⟨g, j, none⟩ u i (fun e => by
    simp only at e
    subst e
    rw [hc] at hb
    simp only [Option.some.injEq, Obj.cells.injEq] at hb
    exact hq hb.2.1.symm)).trans hc⟩
theorem KeepT.R {t : TypeId} {α : Type} {d : Kd α} {w w1 : World} {base : Nat} {ok : Nat → Prop} {v : Value} {xs : List α} (h : d.R t w base ok v xs) (hE : d.E = []) (hk : KeepT t w w1) : d.R t w1 base ok v xs := by
  refine Kd.R_mono (Kd.R_step (Kd.R_bound h) (fun k ho hlt => ?_)) (fun k hk => hk.1)
  obtain ⟨_, _, _, q, hq, cells, hc⟩ := ho
  rw [hE] at hq
  obtain rfl : q = t := by simpa using hq
  exact (hk.2 k cells hc).trans hc.symm
theorem k45_typed {w : World} {base : Nat} {ok : Nat → Prop} {v : Value} {xs : List S45} (h : k45.R 45 w base ok v xs) (k : Nat) (hk : v.ownBlock = some k) : ∃ cells, w.heap[k]? = some (.cells cells 45 (0, 0)) := by
  obtain ⟨_, _, _, q, hq, cells, hc⟩ := (Kd.R_bound h).1 k hk
  obtain rfl : q = 45 := by
    have hE : k45.E = [] := rfl
    rw [hE] at hq
    simpa using hq
  exact ⟨cells, hc⟩
theorem appQ {w : World} {k : Nat} {t : TypeId} (ht : t ≠ 45) (h : ∃ cells, w.heap[k]? = some (.cells cells 45 (0, 0))) : ∃ cells q, w.heap[k]? = some (.cells cells q (0, 0)) ∧ q ≠ t := ⟨h.choose, 45, h.choose_spec, Ne.symm ht⟩
theorem appX {w w1 : World} {g : Nat} {cs : Array Value} {row : Option Nat} (hb : w.heap[g]? = some (.cells cs 36 (0, 0))) (hg : w.grownBy w1 row) (h : ∀ k, row = some k → ∃ cells, w.heap[k]? = some (.cells cells 45 (0, 0))) : w1.heap[g]? = some (.cells cs 36 (0, 0)) := by
  refine (hg.block g (blk_lt hb) (fun e => ?_)).trans hb
  obtain ⟨cells, hc⟩ := h g e.symm
  rw [hb] at hc
  simp at hc
set_option maxHeartbeats 4000000 in
set_option maxRecDepth 100000 in
theorem impl_edges_1.calls (f t k : Int) (bo : Nat) (v : Value) (acc : List S45) (base : Nat) (w0 w : World) (hB : Below base w0 w) (hbase : base ≤ bo) (hbs : base ≤ w.heap.size) (hbo : w.heap[bo]? = some (.cells #[v] 36 (0, 0))) (hR : Kd.R k45 45 w base (fun _ => True) v acc) (hlen : acc.length ≤ 100000) :
    Calls Try.prog 71 #[.int .i64 f, .int .i64 t, .int .i64 k, .pointer (some ⟨bo, 0, none⟩)] w fun e w' => e = .returned (.tuple #[]) ∧ ∃ v', w'.heap[bo]? = some (.cells #[v'] 36 (0, 0)) ∧ Kd.R k45 45 w' base (fun _ => True) v' (addE acc f t k) ∧ Below base w0 w' ∧ (∀ q, q ≠ 36 → q ≠ 45 → KeepT q w w') := by
  have hu := Try.underlying45
  have hcell := cells1 hbo
  have hfz := blk_frozen hbo 0
  have hlt := blk_lt hbo
  by_cases hft : f = t
  · have hb1 : (f != t) = false := bne_eq_false_iff_eq.2 hft
    have hadd : addE acc f t k = acc := if_pos hft
    have HA := Aside0.mk hadd
    have HR := Aside0.mk hR
    have HBO := Aside0.mk hbo
    have HB := Aside0.mk hB
    clear hft hadd hR hbo hB
    go_enter Try.func71, Try.ntmps71
    go_wp2
    go_end0
    exact ⟨rfl, v, blk_alloc HBO.out _, by rw [HA.out]; exact Kd.R_below HR.out (below_alloc (Below.refl _ _) _), HB.out.alloc hbs _, fun q _ _ => KeepT.of_below (below_alloc (Below.refl _ _) _)⟩
  · have hb1 : (f != t) = true := bne_iff_ne.2 hft
    obtain ⟨A0, c0, rfl, hc0, hC0⟩ := Kd.R_reads hR
    obtain ⟨n, hn⟩ := inE_ev acc f t k (by omega)
    have hn := hn n (Nat.le_refl _)
    have hcon := fun W h => impl_Edge_72.calls n A0 c0 acc f t k _ W h hc0 hn
    have HR := Aside0.mk hR
    have HBO := Aside0.mk hbo
    have HB := Aside0.mk hB
    have HC0 := Aside0.mk hC0
    cases hin : edgeIn acc f t k with
    | true =>
      have hadd : addE acc f t k = acc := by unfold addE; rw [if_neg hft, if_pos hin]
      rw [hin] at hcon
      have HC := Aside0.mk hcon
      have HAd := Aside0.mk hadd
      clear hft hR hbo hB hcon hn hC0 hadd hin
      go_enter Try.func71, Try.ntmps71
      go_wp2_with (go_at_call 72; refine (HC.out _ (Kd.C_below HC0.out (below_alloc (Below.refl _ _) _))).mono ?_; rintro e w1 ⟨rfl, hb⟩)
      have h01 : Below w.heap.size w w1 := (below_alloc (Below.refl _ w) _).trans (hb.mono (below_alloc (Below.refl _ w) _).size)
      go_end0
      exact ⟨rfl, _, blk_below HBO.out h01, by rw [HAd.out]; exact Kd.R_below HR.out h01, HB.out.trans (h01.mono hbs), fun q _ _ => KeepT.of_below h01⟩
    | false =>
      have hadd : addE acc f t k = acc ++ [⟨f, t, k⟩] := by unfold addE; rw [if_neg hft, if_neg (by rw [hin]; decide)]
      rw [hin] at hcon
      have HC := Aside0.mk hcon
      have HAd := Aside0.mk hadd
      clear hft hR hbo hB hcon hn hC0 hadd hin
      go_enter Try.func71, Try.ntmps71
      go_wp2_with (first | (go_at_call 72; refine (HC.out _ (Kd.C_below HC0.out (below_alloc (Below.refl _ _) _))).mono ?_; rintro e w1 ⟨rfl, hb⟩; have h01 : Below w.heap.size w w1 := (below_alloc (Below.refl _ w) _).trans (hb.mono (below_alloc (Below.refl _ w) _).size); have hE1 := blk_below (g := w.heap.size) (heap_alloc_new w (.cells #[.int .i64 f, .int .i64 t, .int .i64 k] 45)) hb; obtain ⟨he1, he2, he3⟩ := cells3 hE1; have hX1 := blk_below HBO.out h01; have hR1 := Kd.R_below HR.out h01; have hB1 := HB.out.trans (h01.mono hbs); have hcell1 := cells1 hX1; have hfz1 := blk_frozen hX1 0; have hs1 := h01.size; have HX1 := Aside0.mk hX1; have HR1 := Aside0.mk hR1; have HB1 := Aside0.mk hB1; have H01 := Aside0.mk h01; clear hX1 hR1 hB1 h01 hb hE1) | (at_builtin; refine Kd.R_append k45 (w0 := w0) base rfl (.tmp 21) (.tmp 23) 36 45 (.agg #[(.int .i64 0), (.int .i64 0), (.int .i64 0)]) 24 rfl Try.underlying36 info45 rfl (by decide) (by omega) (.slice A0 acc.length c0) acc (⟨f, t, k⟩ : S45) [.int .i64 f, .int .i64 t, .int .i64 k] (fun _ => True) (fun _ => False) rfl rfl ?aP (fun _ hk => hk.elim) ?aF ?aO ?aB ?aS ?aL ?_; (case aP => exact k45_mkM _ _ _ (⟨f, t, k⟩ : S45)); (case aF => exact fun _ _ => trivial); (case aO => exact HR1.out); (case aB => exact HB1.out); (case aS => omega); (case aL => omega); intro v1 w2 ho hb2 hg hat; obtain ⟨A5, c5, rfl⟩ := Kd.R_slice ho; have hty := fun kk hk => k45_typed HR1.out kk hk; have hX2 := appX HX1.out hg hty; have hK2 := fun (q : TypeId) (h45 : q ≠ 45) => KeepT.trans (KeepT.of_below (t := q) H01.out) (KeepT.of_grown hg (fun kk hk => appQ h45 (hty kk hk))); have hcell2 := cells1 hX2; have hfz2 := blk_frozen hX2 0; have HX2 := Aside0.mk hX2; have HK2 := Aside0.mk hK2; have HO2 := Aside0.mk ho; have HB2 := Aside0.mk hb2; clear hX2 hK2 ho hb2 hg hat hty))
      have hX3 := blk_set HX2.out 0 (.slice A5 (acc.length + 1) c5)
      have hR3 : k45.R 45 w2 base (fun _ => True) (.slice A5 (acc.length + 1) c5) (acc ++ [(⟨f, t, k⟩ : S45)]) := by have := HO2.out; simpa using this
      go_end0
      exact ⟨rfl, _, hX3, by rw [HAd.out]; exact Kd.R_set hR3 HX2.out (by decide) 0 _, HB2.out.setCell hbase _, fun q h36 h45 => KeepT.trans (HK2.out q h45) (KeepT.set_ HX2.out (Ne.symm h36) 0 _)⟩
theorem addE_le (l : List S45) (f t k : Int) : (addE l f t k).length ≤ l.length + 1 := addE_len l f t k
def tailT (ws : List Int) (a : List S45) (x1 x3 q : Int) : List S45 :=
  if 0 < q + 1 then (if q + 1 < ws.length then addE a x1 (rd ws (q + 1)) 4 else a)
  else (if q + 1 = 0 then (if x3 ≤ 1 then (if 0 < ws.length then addE a x1 (rd ws (q + 1)) 4 else a) else a) else a)
theorem tailT_le (ws : List Int) (a : List S45) (x1 x3 q : Int) : (tailT ws a x1 x3 q).length ≤ a.length + 1 := by
  unfold tailT
  have h := fun t => addE_le a x1 t 4
  repeat' split
  all_goals first | exact h _ | omega
def hopT (done list : List Int) (acc : List S45) (x1 x3 : Int) : List S45 :=
  tailT list (if done.contains x3 = true then addE acc x3 x1 2 else acc) x1 x3 (idxP (fun y => x3 == y) list)
def hopE (done list : List Int) (key : Int) (acc : List S45) (x : S48) : List S45 :=
  if x.f0 = 2 then (if x.f2 = key then (if done.contains x.f1 = true then hopT done list acc x.f1 x.f3 else acc) else acc) else acc
def chainE : List Int → List S45 → List S45
  | x :: y :: r, acc => chainE (y :: r) (addE acc x y 1)
  | _, acc => acc
def keyE (l0 : List S48) (acc : List S45) (key : Int) : List S45 := l0.foldl (hopE (commL l0) (writersL l0 key) key) (chainE (writersL l0 key) acc)
def edgesL (l0 : List S48) (n : Nat) : List S45 := ((List.range n).map (fun k : Nat => (k : Int))).foldl (keyE l0) []
def impl_edges.f (l0 : List S48) : Option (List S45) := if l0.length ≤ 400 then some (edgesL l0 32) else none
theorem hopT_le (done list : List Int) (acc : List S45) (x1 x3 : Int) : (hopT done list acc x1 x3).length ≤ acc.length + 2 := by
  unfold hopT
  refine Nat.le_trans (tailT_le _ _ _ _ _) ?_
  have h1 := addE_le acc x3 x1 2
  split <;> omega
theorem hopE_le (done list : List Int) (key : Int) (acc : List S45) (x : S48) : (hopE done list key acc x).length ≤ acc.length + 2 := by
  unfold hopE
  have h := hopT_le done list acc x.f1 x.f3
  repeat' split
  all_goals omega
theorem chainE_le : ∀ (l : List Int) (acc : List S45), (chainE l acc).length ≤ acc.length + l.length
  | [], acc => by simp [chainE]
  | [x], acc => by simp [chainE]
  | x :: y :: r, acc => by
    have h := chainE_le (y :: r) (addE acc x y 1)
    have h1 := addE_le acc x y 1
    simp only [chainE, List.length_cons] at h ⊢
    omega
theorem hopsE_le (done list : List Int) (key : Int) : ∀ (l : List S48) (acc : List S45), (l.foldl (hopE done list key) acc).length ≤ acc.length + 2 * l.length
  | [], acc => by simp
  | x :: r, acc => by
    have h := hopsE_le done list key r (hopE done list key acc x)
    have h1 := hopE_le done list key acc x
    simp only [List.foldl_cons, List.length_cons] at h ⊢
    omega
theorem commL_le (l : List S48) : (commL l).length ≤ l.length := by
  unfold commL; rw [List.length_map]; exact List.length_filter_le _ _
theorem writersL_le (l : List S48) (key : Int) : (writersL l key).length ≤ l.length := Nat.le_trans (List.length_filter_le _ _) (commL_le l)
theorem keyE_le (l0 : List S48) (acc : List S45) (key : Int) : (keyE l0 acc key).length ≤ acc.length + 3 * l0.length := by
  have h := hopsE_le (commL l0) (writersL l0 key) key l0 (chainE (writersL l0 key) acc)
  have h1 := chainE_le (writersL l0 key) acc
  have h2 := writersL_le l0 key
  unfold keyE
  omega
theorem edgesL_succ (l0 : List S48) (n : Nat) : edgesL l0 (n + 1) = keyE l0 (edgesL l0 n) (n : Int) := by
  unfold edgesL
  rw [List.range_succ, List.map_append, List.foldl_append]
  rfl
theorem edgesL_le (l0 : List S48) : ∀ n, (edgesL l0 n).length ≤ n * (3 * l0.length)
  | 0 => by simp [edgesL]
  | n + 1 => by
    rw [edgesL_succ, Nat.succ_mul]
    have h := keyE_le l0 (edgesL l0 n) (n : Int)
    have h1 := edgesL_le l0 n
    omega
theorem wrap_nat0 (j : Nat) (h : j ≤ 1000000) : IntKind.i64.wrap (j : Int) = (j : Int) := by rw [IntKind.wrap_i64]; omega
theorem chain_step (ws : List Int) (j : Nat) (acc ac : List S45) (h2 : j + 1 < ws.length) (h : chainE (ws.drop j) acc = chainE ws ac) : chainE (ws.drop (j + 1)) (addE acc (rd ws (j : Int)) (rd ws ((j : Int) + 1)) 1) = chainE ws ac := by
  rw [← h]
  have e1 : rd ws (j : Int) = ws[j]'(by omega) := by
    show ws.getD j 0 = _
    rw [List.getD_eq_getElem?_getD, List.getElem?_eq_getElem (by omega)]; rfl
  have e2 : rd ws ((j : Int) + 1) = ws[j + 1]'(by omega) := by
    show ws.getD (j + 1) 0 = _
    rw [List.getD_eq_getElem?_getD, List.getElem?_eq_getElem (by omega)]; rfl
  rw [e1, e2, List.drop_eq_getElem_cons (i := j) (by omega), List.drop_eq_getElem_cons (i := j + 1) h2]
  rfl
theorem chain_end (ws : List Int) (j : Nat) (acc ac : List S45) (h2 : ¬ j + 1 < ws.length) (h : chainE (ws.drop j) acc = chainE ws ac) : chainE ws ac = acc := by
  rw [← h]
  have hl : (ws.drop j).length ≤ 1 := by rw [List.length_drop]; omega
  cases hd : ws.drop j with
  | nil => rfl
  | cons x r =>
    cases r with
    | nil => rfl
    | cons y r => rw [hd] at hl; simp at hl
def EInv (w : World) (bo : Nat) (A1 : Option Addr) (c1 : Nat) (l0 : List S48) (acc : List S45) (wr : World) : Prop :=
  (∃ v, wr.heap[bo]? = some (.cells #[v] 36 (0, 0)) ∧ Kd.R k45 45 wr w.heap.size (fun _ => True) v acc) ∧ Below w.heap.size w wr ∧ Kd.R (Kd.int .i64) 2 wr w.heap.size (fun _ => True) (.slice A1 (commL l0).length c1) (commL l0) ∧ w.heap.size ≤ bo
theorem EInv.below {w : World} {bo : Nat} {A1 : Option Addr} {c1 : Nat} {l0 : List S48} {acc : List S45} {wr wx : World} (h : EInv w bo A1 c1 l0 acc wr) (hb : Below wr.heap.size wr wx) : EInv w bo A1 c1 l0 acc wx := by
  obtain ⟨⟨v, h1, h2⟩, h3, h4, h5⟩ := h
  exact ⟨⟨v, blk_below h1 hb, Kd.R_below h2 hb⟩, below_step h3 hb, Kd.R_below h4 hb, h5⟩
theorem edges_add {w : World} {bo : Nat} {A1 : Option Addr} {c1 : Nat} {l0 : List S48} {acc : List S45} {wr : World} (h : EInv w bo A1 c1 l0 acc wr) (f t k : Int) (hlen : acc.length ≤ 100000) :
    Calls Try.prog 71 #[.int .i64 f, .int .i64 t, .int .i64 k, .pointer (some ⟨bo, 0, none⟩)] wr fun e w' => e = .returned (.tuple #[]) ∧ EInv w bo A1 c1 l0 (addE acc f t k) w' ∧ (∀ q, q ≠ 36 → q ≠ 45 → KeepT q wr w') := by
  obtain ⟨⟨v, h1, h2⟩, h3, h4, h5⟩ := h
  refine (impl_edges_1.calls f t k bo v acc w.heap.size w wr h3 h5 h3.size h1 h2 hlen).mono ?_
  rintro e w' ⟨rfl, v', k1, k2, k3, k4⟩
  exact ⟨rfl, ⟨⟨v', k1, k2⟩, k3, KeepT.R h4 rfl (k4 2 (by decide) (by decide)), h5⟩, k4⟩
set_option maxHeartbeats 100000000 in
set_option maxRecDepth 100000 in
theorem impl_edges.calls (A0 : Option Addr) (c0 : Nat) (l0 : List S48) (r : List S45) (w : World) (hr0 : Kd.C k48 w A0 l0.length l0) (hc0 : l0.length ≤ c0) (h : impl_edges.f l0 = some r) :
    Calls Try.prog 34 #[.slice A0 l0.length c0] w fun e w' => ∃ v0_ : Value, e = .returned (v0_) ∧ Kd.R k45 45 w' w.heap.size (fun _ => True) v0_ r ∧ Below w.heap.size w w' := by
  unfold impl_edges.f at h
  have hl : l0.length ≤ 400 := by
    by_cases hl : l0.length ≤ 400
    · exact hl
    · rw [if_neg hl] at h; cases h
  rw [if_pos hl] at h
  obtain rfl : edgesL l0 32 = r := by simpa using h
  have hu := Try.underlying45
  obtain ⟨n, hn⟩ := impl_committed.ev l0 (by omega)
  have hcom := fun W h => impl_committed.calls n A0 c0 l0 _ W h hc0 (hn n (Nat.le_refl _))
  have HR := Aside0.mk hr0
  have HC := Aside0.mk hcom
  clear hr0 hcom h hn
  go_enter Try.func34, Try.ntmps34
  go_wp2_with (go_at_call 55; refine (HC.out _ (Kd.C_below HR.out (below_alloc (Below.refl _ _) _))).mono ?_; rintro e w1 ⟨v1, rfl, ho1, hb1⟩; obtain ⟨A1, c1, rfl⟩ := Kd.R_slice ho1)
  have hbA : Below w.heap.size w w1 := below_step (below_alloc (Below.refl _ _) _) hb1
  have hE : EInv w w1.heap.size A1 c1 l0 [] (w1.alloc (.cells #[.slice (some ⟨w.heap.size, 0, none⟩) 0 0] 36)) := ⟨⟨_, heap_alloc_new w1 _, Kd.R_below (Kd.R_below (Kd.R_lit0 k45 _ _ _ _ (Nat.le_refl _) trivial) hb1) (below_alloc (Below.refl _ _) _)⟩, below_alloc hbA _, Kd.R_lower (Kd.R_below ho1 (below_alloc (Below.refl _ _) _)) (below_alloc (Below.refl _ w) _).size, hbA.size⟩
  generalize w1.heap.size = bo at hE
  have HE := Aside0.mk hE
  have HL := Aside0.mk hl
  clear hE hbA ho1 hb1 HC hl
  go_loopg [6, 16] 32 (fun gg s6 s16 wr => ∃ kk : Nat, kk ≤ 32 ∧ 32 - kk ≤ gg ∧ s16 = .int .i64 kk ∧ Aside0 (EInv w bo A1 c1 l0 (edgesL l0 kk) wr))
  case atStart => exact ⟨0, by omega, by omega, rfl, HE⟩
  case round =>
    obtain ⟨kk, hkk, hg, rfl, HI⟩ := hrel
    clear HE
    by_cases hlt : kk < 32
    · have hltz : (kk : Int) < 32 := by omega
      have hw := impl_writers.calls A0 c0 l0 (kk : Int) (writersL l0 kk) wr (Kd.C_below HR.out HI.out.2.1) hc0 (if_pos (by have := HL.out; omega))
      have HW := Aside0.mk hw
      clear hw
      go_upto_region 8 with (go_at_call 41; refine HW.out.mono ?_; rintro e w2 ⟨v2, rfl, hR2, hb2⟩; obtain ⟨A2, c2, rfl⟩ := Kd.R_slice hR2)
      have hI2 := HI.out.below hb2
      have hL2 : Kd.R (Kd.int .i64) 2 w2 w.heap.size (fun _ => True) (.slice A2 (writersL l0 kk).length c2) (writersL l0 kk) := Kd.R_lower hR2 HI.out.2.1.size
      have hwl := writersL_le l0 kk
      have hel := edgesL_le l0 kk
      have hsucc := edgesL_succ l0 kk
      unfold keyE at hsucc
      have hM := HL.out
      have hmul : kk * (3 * l0.length) ≤ 31 * 1200 := Nat.mul_le_mul (by omega) (by omega)
      have HI2 := Aside0.mk hI2
      have HL2 := Aside0.mk hL2
      have HS := Aside0.mk hsucc
      clear HI HW hR2 hb2 hI2 hL2 hsucc
      generalize writersL l0 kk = ws at HI2 HL2 HS hwl ⊢
      generalize edgesL l0 kk = ac at HI2 HL2 HS hel ⊢
      go_loopg [8] (ws.length + 1) (fun gg s8 wr => ∃ (j : Nat) (acc : List S45), (j + 1 ≤ ws.length ∨ j = 0) ∧ ws.length - j ≤ gg ∧ s8 = .int .i64 ((j : Int) + 1) ∧ Aside0 (chainE (ws.drop j) acc = chainE ws ac) ∧ Aside0 (acc.length ≤ ac.length + j) ∧ Aside0 (EInv w bo A1 c1 l0 acc wr) ∧ Aside0 (Kd.R (Kd.int .i64) 2 wr w.heap.size (fun _ => True) (.slice A2 ws.length c2) ws))
      case atStart => exact ⟨0, ac, .inr rfl, by omega, rfl, ⟨rfl⟩, ⟨by omega⟩, HI2, HL2⟩
      case round =>
        obtain ⟨j, acc, hj, hgg, rfl, HCh, HLe, HIi, HLi⟩ := hrel
        clear HI2 HL2
        by_cases hil : j + 1 < ws.length
        · have hilz : (j : Int) + 1 < ws.length := by omega
          have hj0 : (0 : Int) ≤ (j : Int) := by omega
          have hj1 : (j : Int) < ws.length := by omega
          have hj2 : (0 : Int) ≤ (j : Int) + 1 := by omega
          have hjw : IntKind.i64.wrap (j : Int) = (j : Int) := wrap_nat0 j (by omega)
          have hjw1 : IntKind.i64.wrap ((j : Int) + 1 - 1) = (j : Int) := by rw [show (j : Int) + 1 - 1 = j from by omega]; exact hjw
          obtain ⟨ad, e1, hx1⟩ := Kd.at_int (Kd.R_reads' HLi.out).2.2 (j : Int) (by omega) (by omega)
          subst e1
          obtain ⟨ad', e2, hx2⟩ := Kd.at_int (Kd.R_reads' HLi.out).2.2 ((j : Int) + 1) (by omega) (by omega)
          obtain rfl : ad = ad' := by injection e2
          have hadd := fun W (h : EInv w bo A1 c1 l0 acc W) => edges_add h (rd ws (j : Int)) (rd ws ((j : Int) + 1)) 1 (by have := HLe.out; omega)
          have HA := Aside0.mk hadd
          clear hadd
          go_upto_region 10 with (fail)
          have hB0 : Below wr.heap.size wr wr.drew := Below.drew (Below.refl _ _)
          have HB0 := Aside0.mk hB0
          clear hB0
          go_region_held3 (fun w' => w'.cell? (ad.add j) = some (.int .i64 (rd ws (j : Int))) ∧ w'.cell? ⟨ad.block, ad.off + (j + 1), none⟩ = some (.int .i64 (rd ws ((j : Int) + 1)))) (first | exact ⟨hx1, hx2⟩ | exact ⟨hx3, hx4⟩)
            (first | (go_at_call 71; refine (HA.out _ (EInv.below HIi.out HB0.out)).mono ?_; rintro e w3 ⟨rfl, hE3, hK3⟩; have hL3 := KeepT.R (Kd.R_below HLi.out HB0.out) rfl (hK3 2 (by decide) (by decide)); obtain ⟨ad1, e1, hx3⟩ := Kd.at_int (Kd.R_reads' hL3).2.2 (j : Int) (by omega) (by omega); obtain rfl : ad = ad1 := (by injection e1); obtain ⟨ad2, e2, hx4⟩ := Kd.at_int (Kd.R_reads' hL3).2.2 ((j : Int) + 1) (by omega) (by omega); obtain rfl : ad = ad2 := (by injection e2); have HE3 := Aside0.mk hE3; have HL3 := Aside0.mk hL3; clear hE3 hK3 hL3))
          go_wp2
          go_roundg (ws.length - (j + 1))
          case measure => omega
          case rel => exact ⟨j + 1, _, .inl (by omega), by omega, by go_num, ⟨chain_step ws j acc ac hil HCh.out⟩, ⟨by have := HLe.out; have := addE_le acc (rd ws (j : Int)) (rd ws ((j : Int) + 1)) 1; omega⟩, HE3, HL3⟩
        · have hilz : ¬ (j : Int) + 1 < ws.length := by omega
          have hce := chain_end ws j acc ac hil HCh.out
          rw [hce] at HS
          have hac : acc.length ≤ ac.length + ws.length := by have := HLe.out; omega
          clear HCh HLe hce
          go_wp2
          go_loopg [10, 41] (l0.length) (fun gg s10 s41 wr => ∃ (m : Nat) (ax : List S45), m ≤ l0.length ∧ l0.length - m ≤ gg ∧ s41 = .int .i64 (m : Int) ∧ Aside0 (l0.foldl (hopE (commL l0) ws (kk : Int)) acc = (l0.drop m).foldl (hopE (commL l0) ws (kk : Int)) ax) ∧ Aside0 (ax.length ≤ acc.length + 2 * m) ∧ Aside0 (EInv w bo A1 c1 l0 ax wr) ∧ Aside0 (Kd.R (Kd.int .i64) 2 wr w.heap.size (fun _ => True) (.slice A2 ws.length c2) ws))
          case atStart => exact ⟨0, acc, by omega, by omega, rfl, ⟨by rw [List.drop_zero]⟩, ⟨by omega⟩, HIi, HLi⟩
          case round =>
            obtain ⟨m, ax, hm, hgm, rfl, HF, HLx, HIm, HLm⟩ := hrel
            clear HIi HLi
            by_cases hml : m < l0.length
            · have hmz : (m : Int) < l0.length := by omega
              have hlc := HR.out
              obtain ⟨ad, e1, q0, q1, q2, q3⟩ := at_T48 (Kd.C_below HR.out HIm.out.2.1) (m : Int) (by omega) (by omega)
              have hf := HF.out
              rw [List.drop_eq_getElem_cons hml, List.foldl_cons] at hf
              have hx : l0[m] = rd_T48 l0 (m : Int) := by
                show _ = l0.getD m _
                rw [List.getD_eq_getElem?_getD, List.getElem?_eq_getElem hml]; rfl
              rw [hx] at hf
              simp only [Int.toNat_natCast] at q0 q1 q2 q3
              have HF1 := Aside0.mk hf
              clear HF hf hx hlc
              generalize rd_T48 l0 (m : Int) = x at *
              obtain ⟨x0, x1, x2, x3⟩ := x
              subst e1
              dsimp only at q0 q1 q2 q3
              have HIa : Aside0 (EInv w bo A1 c1 l0 ax (wr.alloc (.cells #[.int .i64 x0, .int .i64 x1, .int .i64 x2, .int .i64 x3] 48))) := ⟨HIm.out.below (below_alloc (Below.refl _ _) _)⟩
              have HLa : Aside0 (Kd.R (Kd.int .i64) 2 (wr.alloc (.cells #[.int .i64 x0, .int .i64 x1, .int .i64 x2, .int .i64 x3] 48)) w.heap.size (fun _ => True) (.slice A2 ws.length c2) ws) := ⟨Kd.R_below HLm.out (below_alloc (Below.refl _ _) _)⟩
              by_cases ha : x0 = 2
              · subst ha
                by_cases hb : x2 = (kk : Int)
                · subst hb
                  have hcon := fun W h => slices_Contains_int64_int64.calls A1 c1 (commL l0) x1 _ W h (Kd.R_reads' HIm.out.2.2.1).2.1 rfl
                  cases hd : (commL l0).contains x1 with
                  | false =>
                    have hst : hopE (commL l0) ws (kk : Int) ax ⟨2, x1, kk, x3⟩ = ax := by unfold hopE; simp only [if_true, hd, Bool.false_eq_true, if_false]
                    rw [hst] at HF1
                    rw [hd] at hcon
                    have HCo := Aside0.mk hcon
                    clear hcon hd hst
                    go_wp2_with (go_at_call 54; refine (HCo.out _ (Kd.R_reads' HIa.out.2.2.1).2.2).mono ?_; rintro e w3 ⟨rfl, ⟨nd, rfl⟩⟩)
                    go_roundg (l0.length - (m + 1))
                    case measure => omega
                    case rel => exact ⟨m + 1, ax, by omega, by omega, by go_num, HF1, ⟨by have := HLx.out; omega⟩, ⟨HIa.out.below (pw_below_drewN (Below.refl _ _) _)⟩, ⟨Kd.R_below HLa.out (pw_below_drewN (Below.refl _ _) _)⟩⟩
                  | true =>
                    have hst : hopE (commL l0) ws (kk : Int) ax ⟨2, x1, kk, x3⟩ = hopT (commL l0) ws ax x1 x3 := by unfold hopE; simp only [if_true, hd]
                    rw [hst] at HF1
                    rw [hd] at hcon
                    have HCo := Aside0.mk hcon
                    clear hcon hd hst
                    have hco3 := fun W h => slices_Contains_int64_int64.calls A1 c1 (commL l0) x3 _ W h (Kd.R_reads' HIm.out.2.2.1).2.1 rfl
                    unfold hopT at HF1
                    go_upto_region 15 with (go_at_call 54; refine (HCo.out _ (Kd.R_reads' HIa.out.2.2.1).2.2).mono ?_; rintro e w3 ⟨rfl, ⟨nd, rfl⟩⟩)
                    have HIb : Aside0 (EInv w bo A1 c1 l0 ax ((wr.alloc (.cells #[.int .i64 2, .int .i64 x1, .int .i64 kk, .int .i64 x3] 48)).drewN nd)) := ⟨HIa.out.below (pw_below_drewN (Below.refl _ _) _)⟩
                    have HLb := Aside0.mk (Kd.R_below HLa.out (pw_below_drewN (Below.refl _ _) nd))
                    have HXb := Aside0.mk (blk_drewN (heap_alloc_new wr (.cells #[.int .i64 2, .int .i64 x1, .int .i64 kk, .int .i64 x3] 48)) nd)
                    generalize (wr.alloc (.cells #[.int .i64 2, .int .i64 x1, .int .i64 kk, .int .i64 x3] 48)).drewN nd = WW at HIb HLb HXb ⊢
                    cases hd3 : (commL l0).contains x3 with
                    | false =>
                      rw [hd3] at hco3 HF1
                      simp only [Bool.false_eq_true, if_false] at HF1
                      have HC3 := Aside0.mk hco3
                      clear hco3 hd3
                      obtain ⟨z0, z1, z2, z3⟩ := cells4 HXb.out
                      go_upto_region 17 with (go_at_call 54; refine (HC3.out _ (Kd.R_reads' HIb.out.2.2.1).2.2).mono ?_; rintro e w4 ⟨rfl, ⟨nd4, rfl⟩⟩)
                      clear z0 z1 z2 z3
                      have HX3 := Aside0.mk (blk_drewN HXb.out nd4)
                      have HE3 : Aside0 (EInv w bo A1 c1 l0 ax _) := ⟨HIb.out.below (pw_below_drewN (Below.refl _ _) nd4)⟩
                      have HL3 := Aside0.mk (Kd.R_below HLb.out (pw_below_drewN (Below.refl _ _) nd4))
                      generalize WW.drewN nd4 = W2 at HX3 HE3 HL3 ⊢
                      obtain ⟨a1, ha1⟩ : ∃ a1, a1 = ax := ⟨_, rfl⟩
                      have HA1 : Aside0 (a1.length ≤ ax.length + 1) := ⟨by rw [ha1]; omega⟩
                      rw [← ha1] at HE3 HF1
                      clear ha1
                      obtain ⟨z0, z1, z2, z3⟩ := cells4 HX3.out
                      have hix := fun W h => slices_Index_int64_int64.calls A2 c2 ws x3 _ W h (Kd.R_reads' HLm.out).2.1 rfl
                      have hq := idxP_ge (fun y => x3 == y) ws
                      generalize idxP (fun y => x3 == y) ws = q at hix hq HF1
                      by_cases hq0 : q < 0
                      · obtain rfl : q = -1 := by omega
                        by_cases h3 : x3 ≤ 1
                        · by_cases hln : 0 < ws.length
                          · have hst : tailT ws a1 x1 x3 (-1) = addE a1 x1 (rd ws 0) 4 := by unfold tailT; rw [if_neg (by decide), if_pos (by decide), if_pos h3, if_pos hln]; rfl
                            rw [hst] at HF1
                            have HIx := Aside0.mk hix
                            clear hix hst hq
                            go_upto_region 19 with (first | fail | (go_at_call 73; refine (HIx.out _ (Kd.R_reads' HL3.out).2.2).mono ?_; rintro e w5 ⟨rfl, ⟨nd5, rfl⟩⟩; have HE5 : Aside0 (EInv w bo A1 c1 l0 a1 _) := ⟨EInv.below HE3.out (pw_below_drewN (Below.refl _ _) nd5)⟩; have HL5 := Aside0.mk (Kd.R_below HL3.out (pw_below_drewN (Below.refl _ _) nd5)); have HX5 := Aside0.mk (blk_drewN HX3.out nd5)))
                            obtain ⟨adl, el, y0⟩ := Kd.at_int (Kd.R_reads' HL5.out).2.2 (0) (by omega) (by omega)
                            cases el
                            clear z0 z1 z2 z3
                            obtain ⟨z0, z1, z2, z3⟩ := cells4 HX5.out
                            have hadd := fun W (h : EInv w bo A1 c1 l0 a1 W) => edges_add h x1 (rd ws (0)) 4 (by have := HLx.out; have := HA1.out; omega)
                            have HA := Aside0.mk hadd
                            clear hadd
                            have HB0 : ∀ W : World, Aside0 (Below W.heap.size W W.drew) := fun W => ⟨Below.drew (Below.refl _ _)⟩
                            go_region_held3 (fun w' => w'.cell? ⟨wr.heap.size, 1, none⟩ = some (.int .i64 x1) ∧ w'.cell? adl = some (.int .i64 (rd ws (0)))) (first | exact ⟨z1, y0⟩ | exact ⟨v1, y1⟩)
                              (first | (go_at_call 71; refine (HA.out _ (EInv.below HE5.out (HB0 _).out)).mono ?_; rintro e w6 ⟨rfl, hE6, hK6⟩; have hX6 := (hK6 48 (by decide) (by decide)).2 _ _ HX5.out; have hL6 := KeepT.R (Kd.R_below HL5.out (HB0 _).out) rfl (hK6 2 (by decide) (by decide)); obtain ⟨ad6, e6, y1⟩ := Kd.at_int (Kd.R_reads' hL6).2.2 (0) (by omega) (by omega); obtain rfl : adl = ad6 := (by injection e6); obtain ⟨v0, v1, v2, v3⟩ := cells4 hX6; have HE6 := Aside0.mk hE6; have HL6 := Aside0.mk hL6; clear hE6 hK6 hL6 hX6 v0 v2 v3))
                            go_wp2
                            go_roundg (l0.length - (m + 1))
                            case measure => omega
                            case rel => exact ⟨m + 1, _, by omega, by omega, by go_num, HF1, ⟨by have := HLx.out; have := HA1.out; have := addE_le a1 x1 (rd ws (0)) 4; omega⟩, HE6, HL6⟩
                          · have hlz : True := trivial
                            have hst : tailT ws a1 x1 x3 (-1) = a1 := by unfold tailT; rw [if_neg (by decide), if_pos (by decide), if_pos h3, if_neg hln]
                            rw [hst] at HF1
                            have HIx := Aside0.mk hix
                            clear hix hst hq
                            go_wp2_with (first | fail | (go_at_call 73; refine (HIx.out _ (Kd.R_reads' HL3.out).2.2).mono ?_; rintro e w5 ⟨rfl, ⟨nd5, rfl⟩⟩; have HE5 : Aside0 (EInv w bo A1 c1 l0 a1 _) := ⟨EInv.below HE3.out (pw_below_drewN (Below.refl _ _) nd5)⟩; have HL5 := Aside0.mk (Kd.R_below HL3.out (pw_below_drewN (Below.refl _ _) nd5)); have HX5 := Aside0.mk (blk_drewN HX3.out nd5)))
                            go_roundg (l0.length - (m + 1))
                            case measure => omega
                            case rel => exact ⟨m + 1, a1, by omega, by omega, by go_num, HF1, ⟨by have := HLx.out; have := HA1.out; omega⟩, HE5, HL5⟩
                        · have h3z : ¬ x3 ≤ 1 := h3
                          have hst : tailT ws a1 x1 x3 (-1) = a1 := by unfold tailT; rw [if_neg (by decide), if_pos (by decide), if_neg h3]
                          rw [hst] at HF1
                          have HIx := Aside0.mk hix
                          clear hix hst hq
                          go_wp2_with (first | fail | (go_at_call 73; refine (HIx.out _ (Kd.R_reads' HL3.out).2.2).mono ?_; rintro e w5 ⟨rfl, ⟨nd5, rfl⟩⟩; have HE5 : Aside0 (EInv w bo A1 c1 l0 a1 _) := ⟨EInv.below HE3.out (pw_below_drewN (Below.refl _ _) nd5)⟩; have HL5 := Aside0.mk (Kd.R_below HL3.out (pw_below_drewN (Below.refl _ _) nd5)); have HX5 := Aside0.mk (blk_drewN HX3.out nd5)))
                          go_roundg (l0.length - (m + 1))
                          case measure => omega
                          case rel => exact ⟨m + 1, a1, by omega, by omega, by go_num, HF1, ⟨by have := HLx.out; have := HA1.out; omega⟩, HE5, HL5⟩
                      · obtain ⟨qn, rfl⟩ : ∃ qn : Nat, q = qn := ⟨q.toNat, by omega⟩
                        have hqz : (0 : Int) < (qn : Int) + 1 := by omega
                        have hqp : (0 : Int) ≤ (qn : Int) + 1 := by omega
                        have hqw : IntKind.i64.wrap ((qn : Int) + 1) = (qn : Int) + 1 := by rw [IntKind.wrap_i64]; omega
                        have hqne : ((qn : Int) + 1 == 0) = false := beq_eq_false_iff_ne.2 (by omega)
                        by_cases hql : (qn : Int) + 1 < ws.length
                        · have hst : tailT ws a1 x1 x3 qn = addE a1 x1 (rd ws ((qn : Int) + 1)) 4 := by unfold tailT; rw [if_pos hqz, if_pos hql]
                          rw [hst] at HF1
                          have HIx := Aside0.mk hix
                          clear hix hst hq
                          go_upto_region 19 with (first | fail | (go_at_call 73; refine (HIx.out _ (Kd.R_reads' HL3.out).2.2).mono ?_; rintro e w5 ⟨rfl, ⟨nd5, rfl⟩⟩; have HE5 : Aside0 (EInv w bo A1 c1 l0 a1 _) := ⟨EInv.below HE3.out (pw_below_drewN (Below.refl _ _) nd5)⟩; have HL5 := Aside0.mk (Kd.R_below HL3.out (pw_below_drewN (Below.refl _ _) nd5)); have HX5 := Aside0.mk (blk_drewN HX3.out nd5)))
                          obtain ⟨adl, el, y0⟩ := Kd.at_int (Kd.R_reads' HL5.out).2.2 ((qn : Int) + 1) (by omega) (by omega)
                          cases el
                          clear z0 z1 z2 z3
                          obtain ⟨z0, z1, z2, z3⟩ := cells4 HX5.out
                          have hadd := fun W (h : EInv w bo A1 c1 l0 a1 W) => edges_add h x1 (rd ws ((qn : Int) + 1)) 4 (by have := HLx.out; have := HA1.out; omega)
                          have HA := Aside0.mk hadd
                          clear hadd
                          have HB0 : ∀ W : World, Aside0 (Below W.heap.size W W.drew) := fun W => ⟨Below.drew (Below.refl _ _)⟩
                          go_region_held3 (fun w' => w'.cell? ⟨wr.heap.size, 1, none⟩ = some (.int .i64 x1) ∧ w'.cell? ⟨adl.block, adl.off + (qn + 1), none⟩ = some (.int .i64 (rd ws ((qn : Int) + 1)))) (first | exact ⟨z1, y0⟩ | exact ⟨v1, y1⟩)
                            (first | (go_at_call 71; refine (HA.out _ (EInv.below HE5.out (HB0 _).out)).mono ?_; rintro e w6 ⟨rfl, hE6, hK6⟩; have hX6 := (hK6 48 (by decide) (by decide)).2 _ _ HX5.out; have hL6 := KeepT.R (Kd.R_below HL5.out (HB0 _).out) rfl (hK6 2 (by decide) (by decide)); obtain ⟨ad6, e6, y1⟩ := Kd.at_int (Kd.R_reads' hL6).2.2 ((qn : Int) + 1) (by omega) (by omega); obtain rfl : adl = ad6 := (by injection e6); obtain ⟨v0, v1, v2, v3⟩ := cells4 hX6; have HE6 := Aside0.mk hE6; have HL6 := Aside0.mk hL6; clear hE6 hK6 hL6 hX6 v0 v2 v3))
                          go_wp2
                          go_roundg (l0.length - (m + 1))
                          case measure => omega
                          case rel => exact ⟨m + 1, _, by omega, by omega, by go_num, HF1, ⟨by have := HLx.out; have := HA1.out; have := addE_le a1 x1 (rd ws ((qn : Int) + 1)) 4; omega⟩, HE6, HL6⟩
                        · have hst : tailT ws a1 x1 x3 qn = a1 := by unfold tailT; rw [if_pos hqz, if_neg hql]
                          rw [hst] at HF1
                          have HIx := Aside0.mk hix
                          clear hix hst hq
                          go_wp2_with (first | fail | (go_at_call 73; refine (HIx.out _ (Kd.R_reads' HL3.out).2.2).mono ?_; rintro e w5 ⟨rfl, ⟨nd5, rfl⟩⟩; have HE5 : Aside0 (EInv w bo A1 c1 l0 a1 _) := ⟨EInv.below HE3.out (pw_below_drewN (Below.refl _ _) nd5)⟩; have HL5 := Aside0.mk (Kd.R_below HL3.out (pw_below_drewN (Below.refl _ _) nd5)); have HX5 := Aside0.mk (blk_drewN HX3.out nd5)))
                          go_roundg (l0.length - (m + 1))
                          case measure => omega
                          case rel => exact ⟨m + 1, a1, by omega, by omega, by go_num, HF1, ⟨by have := HLx.out; have := HA1.out; omega⟩, HE5, HL5⟩
                    | true =>
                      rw [hd3] at hco3 HF1
                      simp only [if_true] at HF1
                      have HC3 := Aside0.mk hco3
                      have hadd := fun W (h : EInv w bo A1 c1 l0 ax W) => edges_add h x3 x1 2 (by have := HLx.out; omega)
                      have HAd := Aside0.mk hadd
                      clear hco3 hd3 hadd
                      obtain ⟨z0, z1, z2, z3⟩ := cells4 HXb.out
                      go_upto_region 17 with (first | (go_at_call 54; refine (HC3.out _ (Kd.R_reads' HIb.out.2.2.1).2.2).mono ?_; rintro e w4 ⟨rfl, ⟨nd4, rfl⟩⟩; have HI4 : Aside0 (EInv w bo A1 c1 l0 ax _) := ⟨HIb.out.below (pw_below_drewN (Below.refl _ _) nd4)⟩; have HL4 := Aside0.mk (Kd.R_below HLb.out (pw_below_drewN (Below.refl _ _) nd4)); have HX4 := Aside0.mk (blk_drewN HXb.out nd4)) | (go_at_call 71; refine (HAd.out _ HI4.out).mono ?_; rintro e w3 ⟨rfl, hE3, hK3⟩))
                      have HX3 := Aside0.mk ((hK3 48 (by decide) (by decide)).2 _ _ HX4.out)
                      have HL3 := Aside0.mk (KeepT.R HL4.out rfl (hK3 2 (by decide) (by decide)))
                      have HE3 := Aside0.mk hE3
                      obtain ⟨a1, ha1⟩ : ∃ a1, a1 = addE ax x3 x1 2 := ⟨_, rfl⟩
                      have HA1 : Aside0 (a1.length ≤ ax.length + 1) := ⟨by rw [ha1]; exact addE_le _ _ _ _⟩
                      rw [← ha1] at HE3 HF1
                      clear ha1 hE3 hK3 z0 z1 z2 z3
                      obtain ⟨z0, z1, z2, z3⟩ := cells4 HX3.out
                      have hix := fun W h => slices_Index_int64_int64.calls A2 c2 ws x3 _ W h (Kd.R_reads' HLm.out).2.1 rfl
                      have hq := idxP_ge (fun y => x3 == y) ws
                      generalize idxP (fun y => x3 == y) ws = q at hix hq HF1
                      by_cases hq0 : q < 0
                      · obtain rfl : q = -1 := by omega
                        by_cases h3 : x3 ≤ 1
                        · by_cases hln : 0 < ws.length
                          · have hst : tailT ws a1 x1 x3 (-1) = addE a1 x1 (rd ws 0) 4 := by unfold tailT; rw [if_neg (by decide), if_pos (by decide), if_pos h3, if_pos hln]; rfl
                            rw [hst] at HF1
                            have HIx := Aside0.mk hix
                            clear hix hst hq
                            go_upto_region 19 with (first | fail | (go_at_call 73; refine (HIx.out _ (Kd.R_reads' HL3.out).2.2).mono ?_; rintro e w5 ⟨rfl, ⟨nd5, rfl⟩⟩; have HE5 : Aside0 (EInv w bo A1 c1 l0 a1 _) := ⟨EInv.below HE3.out (pw_below_drewN (Below.refl _ _) nd5)⟩; have HL5 := Aside0.mk (Kd.R_below HL3.out (pw_below_drewN (Below.refl _ _) nd5)); have HX5 := Aside0.mk (blk_drewN HX3.out nd5)))
                            obtain ⟨adl, el, y0⟩ := Kd.at_int (Kd.R_reads' HL5.out).2.2 (0) (by omega) (by omega)
                            cases el
                            clear z0 z1 z2 z3
                            obtain ⟨z0, z1, z2, z3⟩ := cells4 HX5.out
                            have hadd := fun W (h : EInv w bo A1 c1 l0 a1 W) => edges_add h x1 (rd ws (0)) 4 (by have := HLx.out; have := HA1.out; omega)
                            have HA := Aside0.mk hadd
                            clear hadd
                            have HB0 : ∀ W : World, Aside0 (Below W.heap.size W W.drew) := fun W => ⟨Below.drew (Below.refl _ _)⟩
                            go_region_held3 (fun w' => w'.cell? ⟨wr.heap.size, 1, none⟩ = some (.int .i64 x1) ∧ w'.cell? adl = some (.int .i64 (rd ws (0)))) (first | exact ⟨z1, y0⟩ | exact ⟨v1, y1⟩)
                              (first | (go_at_call 71; refine (HA.out _ (EInv.below HE5.out (HB0 _).out)).mono ?_; rintro e w6 ⟨rfl, hE6, hK6⟩; have hX6 := (hK6 48 (by decide) (by decide)).2 _ _ HX5.out; have hL6 := KeepT.R (Kd.R_below HL5.out (HB0 _).out) rfl (hK6 2 (by decide) (by decide)); obtain ⟨ad6, e6, y1⟩ := Kd.at_int (Kd.R_reads' hL6).2.2 (0) (by omega) (by omega); obtain rfl : adl = ad6 := (by injection e6); obtain ⟨v0, v1, v2, v3⟩ := cells4 hX6; have HE6 := Aside0.mk hE6; have HL6 := Aside0.mk hL6; clear hE6 hK6 hL6 hX6 v0 v2 v3))
                            go_wp2
                            go_roundg (l0.length - (m + 1))
                            case measure => omega
                            case rel => exact ⟨m + 1, _, by omega, by omega, by go_num, HF1, ⟨by have := HLx.out; have := HA1.out; have := addE_le a1 x1 (rd ws (0)) 4; omega⟩, HE6, HL6⟩
                          · have hlz : True := trivial
                            have hst : tailT ws a1 x1 x3 (-1) = a1 := by unfold tailT; rw [if_neg (by decide), if_pos (by decide), if_pos h3, if_neg hln]
                            rw [hst] at HF1
                            have HIx := Aside0.mk hix
                            clear hix hst hq
                            go_wp2_with (first | fail | (go_at_call 73; refine (HIx.out _ (Kd.R_reads' HL3.out).2.2).mono ?_; rintro e w5 ⟨rfl, ⟨nd5, rfl⟩⟩; have HE5 : Aside0 (EInv w bo A1 c1 l0 a1 _) := ⟨EInv.below HE3.out (pw_below_drewN (Below.refl _ _) nd5)⟩; have HL5 := Aside0.mk (Kd.R_below HL3.out (pw_below_drewN (Below.refl _ _) nd5)); have HX5 := Aside0.mk (blk_drewN HX3.out nd5)))
                            go_roundg (l0.length - (m + 1))
                            case measure => omega
                            case rel => exact ⟨m + 1, a1, by omega, by omega, by go_num, HF1, ⟨by have := HLx.out; have := HA1.out; omega⟩, HE5, HL5⟩
                        · have h3z : ¬ x3 ≤ 1 := h3
                          have hst : tailT ws a1 x1 x3 (-1) = a1 := by unfold tailT; rw [if_neg (by decide), if_pos (by decide), if_neg h3]
                          rw [hst] at HF1
                          have HIx := Aside0.mk hix
                          clear hix hst hq
                          go_wp2_with (first | fail | (go_at_call 73; refine (HIx.out _ (Kd.R_reads' HL3.out).2.2).mono ?_; rintro e w5 ⟨rfl, ⟨nd5, rfl⟩⟩; have HE5 : Aside0 (EInv w bo A1 c1 l0 a1 _) := ⟨EInv.below HE3.out (pw_below_drewN (Below.refl _ _) nd5)⟩; have HL5 := Aside0.mk (Kd.R_below HL3.out (pw_below_drewN (Below.refl _ _) nd5)); have HX5 := Aside0.mk (blk_drewN HX3.out nd5)))
                          go_roundg (l0.length - (m + 1))
                          case measure => omega
                          case rel => exact ⟨m + 1, a1, by omega, by omega, by go_num, HF1, ⟨by have := HLx.out; have := HA1.out; omega⟩, HE5, HL5⟩
                      · obtain ⟨qn, rfl⟩ : ∃ qn : Nat, q = qn := ⟨q.toNat, by omega⟩
                        have hqz : (0 : Int) < (qn : Int) + 1 := by omega
                        have hqp : (0 : Int) ≤ (qn : Int) + 1 := by omega
                        have hqw : IntKind.i64.wrap ((qn : Int) + 1) = (qn : Int) + 1 := by rw [IntKind.wrap_i64]; omega
                        have hqne : ((qn : Int) + 1 == 0) = false := beq_eq_false_iff_ne.2 (by omega)
                        by_cases hql : (qn : Int) + 1 < ws.length
                        · have hst : tailT ws a1 x1 x3 qn = addE a1 x1 (rd ws ((qn : Int) + 1)) 4 := by unfold tailT; rw [if_pos hqz, if_pos hql]
                          rw [hst] at HF1
                          have HIx := Aside0.mk hix
                          clear hix hst hq
                          go_upto_region 19 with (first | fail | (go_at_call 73; refine (HIx.out _ (Kd.R_reads' HL3.out).2.2).mono ?_; rintro e w5 ⟨rfl, ⟨nd5, rfl⟩⟩; have HE5 : Aside0 (EInv w bo A1 c1 l0 a1 _) := ⟨EInv.below HE3.out (pw_below_drewN (Below.refl _ _) nd5)⟩; have HL5 := Aside0.mk (Kd.R_below HL3.out (pw_below_drewN (Below.refl _ _) nd5)); have HX5 := Aside0.mk (blk_drewN HX3.out nd5)))
                          obtain ⟨adl, el, y0⟩ := Kd.at_int (Kd.R_reads' HL5.out).2.2 ((qn : Int) + 1) (by omega) (by omega)
                          cases el
                          clear z0 z1 z2 z3
                          obtain ⟨z0, z1, z2, z3⟩ := cells4 HX5.out
                          have hadd := fun W (h : EInv w bo A1 c1 l0 a1 W) => edges_add h x1 (rd ws ((qn : Int) + 1)) 4 (by have := HLx.out; have := HA1.out; omega)
                          have HA := Aside0.mk hadd
                          clear hadd
                          have HB0 : ∀ W : World, Aside0 (Below W.heap.size W W.drew) := fun W => ⟨Below.drew (Below.refl _ _)⟩
                          go_region_held3 (fun w' => w'.cell? ⟨wr.heap.size, 1, none⟩ = some (.int .i64 x1) ∧ w'.cell? ⟨adl.block, adl.off + (qn + 1), none⟩ = some (.int .i64 (rd ws ((qn : Int) + 1)))) (first | exact ⟨z1, y0⟩ | exact ⟨v1, y1⟩)
                            (first | (go_at_call 71; refine (HA.out _ (EInv.below HE5.out (HB0 _).out)).mono ?_; rintro e w6 ⟨rfl, hE6, hK6⟩; have hX6 := (hK6 48 (by decide) (by decide)).2 _ _ HX5.out; have hL6 := KeepT.R (Kd.R_below HL5.out (HB0 _).out) rfl (hK6 2 (by decide) (by decide)); obtain ⟨ad6, e6, y1⟩ := Kd.at_int (Kd.R_reads' hL6).2.2 ((qn : Int) + 1) (by omega) (by omega); obtain rfl : adl = ad6 := (by injection e6); obtain ⟨v0, v1, v2, v3⟩ := cells4 hX6; have HE6 := Aside0.mk hE6; have HL6 := Aside0.mk hL6; clear hE6 hK6 hL6 hX6 v0 v2 v3))
                          go_wp2
                          go_roundg (l0.length - (m + 1))
                          case measure => omega
                          case rel => exact ⟨m + 1, _, by omega, by omega, by go_num, HF1, ⟨by have := HLx.out; have := HA1.out; have := addE_le a1 x1 (rd ws ((qn : Int) + 1)) 4; omega⟩, HE6, HL6⟩
                        · have hst : tailT ws a1 x1 x3 qn = a1 := by unfold tailT; rw [if_pos hqz, if_neg hql]
                          rw [hst] at HF1
                          have HIx := Aside0.mk hix
                          clear hix hst hq
                          go_wp2_with (first | fail | (go_at_call 73; refine (HIx.out _ (Kd.R_reads' HL3.out).2.2).mono ?_; rintro e w5 ⟨rfl, ⟨nd5, rfl⟩⟩; have HE5 : Aside0 (EInv w bo A1 c1 l0 a1 _) := ⟨EInv.below HE3.out (pw_below_drewN (Below.refl _ _) nd5)⟩; have HL5 := Aside0.mk (Kd.R_below HL3.out (pw_below_drewN (Below.refl _ _) nd5)); have HX5 := Aside0.mk (blk_drewN HX3.out nd5)))
                          go_roundg (l0.length - (m + 1))
                          case measure => omega
                          case rel => exact ⟨m + 1, a1, by omega, by omega, by go_num, HF1, ⟨by have := HLx.out; have := HA1.out; omega⟩, HE5, HL5⟩
                · have hbn : (x2 != (kk : Int)) = true := bne_iff_ne.2 hb
                  have hst : hopE (commL l0) ws (kk : Int) ax ⟨2, x1, x2, x3⟩ = ax := by unfold hopE; simp only [if_true, if_neg hb]
                  rw [hst] at HF1
                  clear hst hb
                  go_wp2_with (fail)
                  go_roundg (l0.length - (m + 1))
                  case measure => omega
                  case rel => exact ⟨m + 1, ax, by omega, by omega, by go_num, HF1, ⟨by have := HLx.out; omega⟩, HIa, HLa⟩
              · have han : (x0 != 2) = true := bne_iff_ne.2 ha
                have hst : hopE (commL l0) ws (kk : Int) ax ⟨x0, x1, x2, x3⟩ = ax := by unfold hopE; simp only [if_neg ha]
                rw [hst] at HF1
                clear hst ha
                go_wp2_with (fail)
                go_roundg (l0.length - (m + 1))
                case measure => omega
                case rel => exact ⟨m + 1, ax, by omega, by omega, by go_num, HF1, ⟨by have := HLx.out; omega⟩, HIa, HLa⟩
            · have hmz : ¬ (m : Int) < l0.length := by omega
              obtain rfl : m = l0.length := by omega
              have hF := HF.out
              rw [List.drop_length] at hF
              rw [hF] at HS
              go_wp2
              go_roundg (32 - (kk + 1))
              case measure => omega
              case rel => exact ⟨kk + 1, by omega, by omega, by go_num, ⟨by rw [HS.out]; exact HIm.out⟩⟩
    · obtain rfl : kk = 32 := by omega
      obtain ⟨v, h1, h2⟩ := HI.out.1
      obtain ⟨Av, cv, rfl⟩ := Kd.R_slice h2
      have hcell := cells1 h1
      have hfz := blk_frozen h1 0
      go_wp2
      go_ret
      exact ⟨_, rfl, h2, HI.out.2.1⟩


end Go.Proofs.Ytkabmhjnhcfkcaa.XFnExactStartOrdered
