/- The machine's side of one law: functions as plain Lean functions, and that the calls do what these say. Written by a program of this session; no condition beyond those that each theorem names. -/
import Derived.Test.YtbppgngfiijclaaXFnExactNewCopiesx0
import Derived.Test.YtbppgngfiijclaaXFnExactNewCopiesx2
import Derived.Test.YtbppgngfiijclaaXFnExactNewCopiesx3
namespace Go.Proofs.Ytbppgngfiijclaa.XFnExactNewCopies
open Go.RowKit Go.Proofs.YtbppgngfiijclaaW.PrintWords Go.Proofs.YtbppgngfiijclaaW.PrintLast Go.Proofs.YtbppgngfiijclaaW.PrintMore
attribute [local go_sem] max2_int min2_int max_two min_two max_three min_three max_four min_four   -- for this text's walks alone
set_option linter.unusedVariables false
set_option linter.unusedSimpArgs false

/-! ### spec_NewCopies: function 10 -/
def spec_NewCopies.l0 : Nat → List (S118) → Int → Int → Int → List (S118) → List Int → Option (Int × Int × (List (S118)) × Int × Int × (List (S118)) × List Int × (List (S135)))
  | 0, _, _, _, _, _, _ => none
  | k + 1, x0, x5, Jx, JD, Jy, Jw => if x5 < (x0.length : Int) then (if 0 ≤ x5 then (if 0 ≤ ((rd_T118 x0 x5).f0) then (if ((rd_T118 x0 x5).f0) < (Jw.length : Int) then (spec_NewCopies.l0 k x0 (wrap64 (x5 + 1)) Jx 1 Jy (Jw.set (((rd_T118 x0 x5).f0) : Int).toNat 1)) else (none)) else (none)) else (none)) else (some (0, 0, ([] : List (S118)), Jx, JD, Jy, Jw, ([] : List (S135))))
def spec_NewCopies.f (k : Nat) (l0 : List (S118)) : Option (Int × Int × (List (S118)) × Int × Int × (List (S118)) × List Int × (List (S135))) := (spec_NewEngine.f k l0).bind fun Jv => (if Jv.1 = 0 then ((some (([] : List (S118)) : List (S118))).bind fun y187 => (if y187.length + l0.length < 8796093022208 then (spec_NewCopies.l0 k l0 0 2 0 (y187 ++ l0) (List.replicate 32 0)) else (none))) else ((spec_l9Bad.f Jv.1).bind fun Jl => (some (Jl.1, Jl.2.1, Jl.2.2.1, Jl.2.2.2.1, Jl.2.2.2.2.1, Jl.2.2.2.2.2.1, Jl.2.2.2.2.2.2.1, Jl.2.2.2.2.2.2.2))))
theorem spec_NewCopies.mono_l : ∀ k, (∀ y0 y1 y2 y3 y4 y5, LeO (spec_NewCopies.l0 k y0 y1 y2 y3 y4 y5) (spec_NewCopies.l0 (k + 1) y0 y1 y2 y3 y4 y5))
  | 0 => fun _ _ _ _ _ _ r h => by simp [spec_NewCopies.l0] at h
  | k + 1 => by
    have ih0 := spec_NewCopies.mono_l k
    · intro y0 y1 y2 y3 y4 y5
      unfold spec_NewCopies.l0
      repeat' first
      | (with_reducible exact ih0 _ _ _ _ _ _)
      | (with_reducible exact spec_NewEngine.mono _ _)
      | (with_reducible exact LeO.refl _)
      | (with_reducible exact LeO.none _)
      | (with_reducible refine LeO.ite ?_ ?_)
      | (with_reducible refine LeO.bind ?_ (fun _ => ?_))
      | exact ih0 _ _ _ _ _ _
      | exact spec_NewEngine.mono _ _
      | exact LeO.none _
      | refine LeO.ite ?_ ?_
      | refine LeO.bind ?_ (fun _ => ?_)
theorem spec_NewCopies.mono : ∀ a0 k, LeO (spec_NewCopies.f k a0) (spec_NewCopies.f (k + 1) a0) := by
  intro a0 k
  have ih0 := spec_NewCopies.mono_l k
  unfold spec_NewCopies.f
  repeat' first
      | (with_reducible exact ih0 _ _ _ _ _ _)
      | (with_reducible exact spec_NewEngine.mono _ _)
      | (with_reducible exact LeO.refl _)
      | (with_reducible exact LeO.none _)
      | (with_reducible refine LeO.ite ?_ ?_)
      | (with_reducible refine LeO.bind ?_ (fun _ => ?_))
      | exact ih0 _ _ _ _ _ _
      | exact spec_NewEngine.mono _ _
      | exact LeO.none _
      | refine LeO.ite ?_ ?_
      | refine LeO.bind ?_ (fun _ => ?_)
def spec_NewCopies.T8 : Bool × List (List Nat × List Nat) := (true, [([], []), ([0], [0]), ([], []), ([], []), ([2, 3], [2, 3]), ([4], [4]), ([5], [5]), ([1, 6, 0, 1, 2, 3, 4, 5, 6], [1, 6]), ([7, 0, 1, 2, 3, 4, 5, 6], [7])])
def spec_NewCopies.B8 : List Nat := [0, 1, 0, 0, 12, 28, 60, 127, 255]
theorem spec_NewCopies.tab8 : rtab .any (opsOf Try.f10 8) = spec_NewCopies.T8 := by kernel_rfl
theorem spec_NewCopies.bits8 : waitsOk spec_NewCopies.T8.2 spec_NewCopies.B8 = true := by kernel_rfl
set_option maxHeartbeats 8000000 in
set_option maxRecDepth 100000 in
theorem spec_NewCopies.calls (k : Nat) (A0 : Option Addr) (c0 : Nat) (l0 : List (S118)) (r1 : Int) (r2 : Int) (r3 : List (S118)) (r4 : Int) (r5 : Int) (r6 : List (S118)) (r7 : List Int) (r8 : List (S135)) (w : World) (hr0 : Kd.C k118 w A0 l0.length l0) (hc0 : l0.length ≤ c0) (h : spec_NewCopies.f k l0 = some (r1, r2, r3, r4, r5, r6, r7, r8)) :
    Calls Try.prog 10 #[.slice A0 l0.length c0] w fun e w' => ∃ v2_ v5_ v6_ v7_ : Value, e = .returned (.agg #[.int .i64 r1, .int .i64 r2, v2_, .int .i64 r4, .int .i64 r5, v5_, v6_, v7_]) ∧ Kd.R k118 118 w' w.heap.size (fun k_ => some k_ ≠ (v5_ : Value).ownBlock) v2_ r3 ∧ Kd.R k118 118 w' w.heap.size (fun k_ => some k_ ≠ (v2_ : Value).ownBlock) v5_ r6 ∧ Kd.R (Kd.int .i64) 2 w' w.heap.size (fun _ => True) v6_ r7 ∧ Kd.S k135 135 w' w.heap.size (fun k_ => some k_ ≠ (v2_ : Value).ownBlock ∧ some k_ ≠ (v5_ : Value).ownBlock ∧ some k_ ≠ (v6_ : Value).ownBlock) v7_ r8 ∧ Below w.heap.size w w' := by
  have hu30 := Try.underlying30
  have hu114 := Try.underlying114
  have hu28 := Try.underlying28
  have HR0 := Aside0.mk hr0
  have HC0 := Aside0.mk hc0
  clear hr0 hc0
  have HB := Aside0.mk (Below.refl w.heap.size w)
  have H : ((spec_NewEngine.f k l0).bind fun Jv => (if Jv.1 = 0 then ((some (([] : List (S118)) : List (S118))).bind fun y187 => (if y187.length + l0.length < 8796093022208 then (spec_NewCopies.l0 k l0 0 2 0 (y187 ++ l0) (List.replicate 32 0)) else (none))) else ((spec_l9Bad.f Jv.1).bind fun Jl => (some (Jl.1, Jl.2.1, Jl.2.2.1, Jl.2.2.2.1, Jl.2.2.2.2.1, Jl.2.2.2.2.2.1, Jl.2.2.2.2.2.2.1, Jl.2.2.2.2.2.2.2))))) = some (r1, r2, r3, r4, r5, r6, r7, r8) := h
  clear h
  replace H := Option.bind_eq_some_iff.mp H
  obtain ⟨⟨t160, t161, t162, t163, t164, t167⟩, A20, H⟩ := H
  replace H : (if t160 = 0 then ((some (([] : List (S118)) : List (S118))).bind fun y187 => (if y187.length + l0.length < 8796093022208 then (spec_NewCopies.l0 k l0 0 2 0 (y187 ++ l0) (List.replicate 32 0)) else (none))) else ((spec_l9Bad.f t160).bind fun Jl => (some (Jl.1, Jl.2.1, Jl.2.2.1, Jl.2.2.2.1, Jl.2.2.2.2.1, Jl.2.2.2.2.2.1, Jl.2.2.2.2.2.2.1, Jl.2.2.2.2.2.2.2)))) = some (r1, r2, r3, r4, r5, r6, r7, r8) := H
  have A2 := Aside0.mk A20
  clear A20
  by_cases c3 : t160 = 0
  · rw [if_pos c3] at H
    have c3b0 : (t160 == 0) = true := beq_iff_eq.mpr c3
    have c3b1 : (t160 != 0) = false := bne_eq_false_iff_eq.mpr c3
    clear c3
    obtain ⟨y187, hy187⟩ : ∃ y_ : List (S118), y_ = (([] : List (S118))) := ⟨_, rfl⟩
    replace H : (if y187.length + l0.length < 8796093022208 then (spec_NewCopies.l0 k l0 0 2 0 (y187 ++ l0) (List.replicate 32 0)) else (none)) = some (r1, r2, r3, r4, r5, r6, r7, r8) := by first | (rw [hy187]; with_reducible exact H) | (have H2_ := (Option.bind_some _ _).symm.trans H; rw [hy187]; with_reducible exact H2_) | (have H2_ := (Option.bind_some _ _).symm.trans H; with_reducible exact H2_) | with_reducible exact H | (rw [hy187]; exact H) | exact H
    have Ny187 := Aside0.mk hy187
    clear hy187
    by_cases c4 : y187.length + l0.length < 8796093022208
    · rw [if_pos c4] at H
      have LMc4 := Aside0.mk c4
      clear c4
      obtain ⟨y190, hy190⟩ : ∃ y_ : List (S118), y_ = (y187 ++ l0) := ⟨_, rfl⟩
      replace H : (spec_NewCopies.l0 k l0 0 2 0 y190 (List.replicate 32 0)) = some (r1, r2, r3, r4, r5, r6, r7, r8) := by first | (rw [hy190]; with_reducible exact H) | (have H2_ := (Option.bind_some _ _).symm.trans H; rw [hy190]; with_reducible exact H2_) | (have H2_ := (Option.bind_some _ _).symm.trans H; with_reducible exact H2_) | with_reducible exact H | (rw [hy190]; exact H) | exact H
      have Ny190 := Aside0.mk hy190
      clear hy190
      obtain ⟨y193, hy193⟩ : ∃ y_ : List Int, y_ = (List.replicate 32 0) := ⟨_, rfl⟩
      replace H : (spec_NewCopies.l0 k l0 0 2 0 y190 y193) = some (r1, r2, r3, r4, r5, r6, r7, r8) := by first | (rw [hy193]; with_reducible exact H) | (have H2_ := (Option.bind_some _ _).symm.trans H; rw [hy193]; with_reducible exact H2_) | (have H2_ := (Option.bind_some _ _).symm.trans H; with_reducible exact H2_) | with_reducible exact H | (rw [hy193]; exact H) | exact H
      have Ny193 := Aside0.mk hy193
      clear hy193
      have H' := Aside0.mk H
      clear H
      go_enter Try.func10, Try.ntmps10
      try go_wp2_with (first | ((with_reducible refine gate_dst (N := 2) rfl ?_); refine box_event ?hg (N := 2) ?hd (cs := #[.int .i64 0, .int .i64 0, .slice none 0 0, .int .i64 0, .int .i64 0, .slice none 0 0, .slice none 0 0, .slice none 0 0]) (t := 30) ?hr ?_; (case hd => rfl); (case hg => rfl); (case hr => first | (go_simp; done) | (go_simp; rfl)); intro J1 hg w5 hbox hb; have n0_ := Aside0.mk (below_step bo hb); have n1_ := Aside0.mk (hbox); have n2_ := Aside0.mk ((by rw [hg]; exact (below_size bo) : w.heap.size ≤ J1)); have n3_ := Aside0.mk ((by rw [hg]; exact (below_size bo) : w.heap.size ≤ J1)); clear HB; have HB := n0_; have J0 := n1_; have JG := n2_; have J8 := n3_; clear n0_ n1_ n2_ n3_; clear hb hbox hg) | ((with_reducible refine gate_callee (f := 51) rfl ?_); refine goesL_ (some 7) rfl rfl Try.func51 (by kernel_rfl) rfl #[.slice A0 l0.length c0] rfl (by (try simp only [List.map_toArray, List.map_cons, List.map_nil]); first | done | rfl | (simp only [List.length_drop, List.length_take]; rfl)) ?_; (with_reducible refine (spec_NewEngine.calls k _ _ l0 t160 t161 t162 t163 t164 t167 _ ?side1 ?side2 A2.out).mono ?_); (case side1 => repeat (first | exact (Kd.C_below HR0.out HB.out) | (with_reducible refine Kd.C_alloc ?_ _) | (with_reducible refine Kd.C_drewN ?_ _) | (with_reducible refine Kd.C_drew ?_))); (case side2 => exact HC0.out); rintro e w6 ⟨v165, v168, rfl, ho0, ho1, hb⟩; refine ⟨_, rfl, ?_⟩; have n0_ := Aside0.mk (Kd.S_lower ho0 (below_size (by repeat (first | (with_reducible first | exact HB.out | apply below_alloc | apply pw_below_drewN | apply below_drew1 | refine below_set ?_ J8.out) | exact HB.out)))); have n1_ := Aside0.mk (Kd.S_lower ho1 (below_size (by repeat (first | (with_reducible first | exact HB.out | apply below_alloc | apply pw_below_drewN | apply below_drew1 | refine below_set ?_ J8.out) | exact HB.out)))); have n2_ := Aside0.mk (blk_below (g := J1) (o := .cells #[.int .i64 0, .int .i64 0, .slice none 0 0, .int .i64 0, .int .i64 0, .slice none 0 0, .slice none 0 0, .slice none 0 0] 30 (0, 0)) (by (with_reducible repeat (first | refine blk_drewN ?_ _ | refine blk_drew ?_ | refine blk_alloc ?_ _)); exact J0.out) hb); have n3_ := Aside0.mk (below_step (by repeat (first | (with_reducible first | exact HB.out | apply below_alloc | apply pw_below_drewN | apply below_drew1 | refine below_set ?_ J8.out) | exact HB.out)) hb); clear J0; clear HB; have J5 := n0_; have J6 := n1_; have J0 := n2_; have HB := n3_; clear n0_ n1_ n2_ n3_; (try clear hb); (try clear hb2); (try clear hk); (try clear hi); (try clear ho0); (try clear ho1)) | ((with_reducible refine gate_dst (N := 3) rfl ?_); refine box_event ?hg (N := 3) ?hd (cs := #[.int .i64 0, .int .i64 0, .int .i64 0, .int .i64 0, .slice none 0 0, .slice none 0 0]) (t := 114) ?hr ?_; (case hd => rfl); (case hg => rfl); (case hr => first | (go_simp; done) | (go_simp; rfl)); intro J2 hg w7 hbox hb; have n0_ := Aside0.mk (Kd.S_below (by (with_reducible repeat (first | apply Kd.S_alloc | apply Kd.S_drewN | apply Kd.S_drew)); exact J5.out) hb); have n1_ := Aside0.mk (Kd.S_below (by (with_reducible repeat (first | apply Kd.S_alloc | apply Kd.S_drewN | apply Kd.S_drew)); exact J6.out) hb); have n2_ := Aside0.mk (blk_below (g := J1) (o := .cells #[.int .i64 0, .int .i64 0, .slice none 0 0, .int .i64 0, .int .i64 0, .slice none 0 0, .slice none 0 0, .slice none 0 0] 30 (0, 0)) (by (with_reducible repeat (first | refine blk_drewN ?_ _ | refine blk_drew ?_ | refine blk_alloc ?_ _)); exact J0.out) hb); have n3_ := Aside0.mk (below_step (by repeat (first | (with_reducible first | exact HB.out | apply below_alloc | apply pw_below_drewN | apply below_drew1 | refine below_set ?_ J8.out) | exact HB.out)) hb); have n4_ := Aside0.mk (hbox); have n5_ := Aside0.mk ((by rw [hg]; exact (below_size (by repeat (first | (with_reducible first | exact HB.out | apply below_alloc | apply pw_below_drewN | apply below_drew1 | refine below_set ?_ J8.out) | exact HB.out))) : w.heap.size ≤ J2)); have n6_ := Aside0.mk ((by rw [hg]; exact (below_size (by repeat (first | (with_reducible first | exact HB.out | apply below_alloc | apply pw_below_drewN | apply below_drew1 | refine below_set ?_ J8.out) | exact HB.out))) : w.heap.size ≤ J2)); have n7_ := Aside0.mk ((by rw [hg]; exact Nat.ne_of_lt (blk_lt (g := J1) (o := .cells #[.int .i64 0, .int .i64 0, .slice none 0 0, .int .i64 0, .int .i64 0, .slice none 0 0, .slice none 0 0, .slice none 0 0] 30 (0, 0)) (by (with_reducible repeat (first | refine blk_drewN ?_ _ | refine blk_drew ?_ | refine blk_alloc ?_ _)); exact J0.out)) : J1 ≠ J2)); have n8_ := Aside0.mk ((by rw [hg]; exact Nat.ne_of_gt (blk_lt (g := J1) (o := .cells #[.int .i64 0, .int .i64 0, .slice none 0 0, .int .i64 0, .int .i64 0, .slice none 0 0, .slice none 0 0, .slice none 0 0] 30 (0, 0)) (by (with_reducible repeat (first | refine blk_drewN ?_ _ | refine blk_drew ?_ | refine blk_alloc ?_ _)); exact J0.out)) : J2 ≠ J1)); clear J5; clear J6; clear J0; clear HB; have J5 := n0_; have J6 := n1_; have J0 := n2_; have HB := n3_; have J3 := n4_; have JH := n5_; have J9 := n6_; have Jj := n7_; have Jr := n8_; clear n0_ n1_ n2_ n3_ n4_ n5_ n6_ n7_ n8_; clear hb hbox hg; have hnb8 := Jr.out; have hnc8 := Jj.out; have KL : w7.cell? ⟨J2, 0, none⟩ = some (.int .i64 0) := (blk_cell J3.out 0).trans rfl; have KM : w7.cell? ⟨J2, 1, none⟩ = some (.int .i64 0) := (blk_cell J3.out 1).trans rfl; have KN : w7.cell? ⟨J2, 2, none⟩ = some (.int .i64 0) := (blk_cell J3.out 2).trans rfl; have KO : w7.cell? ⟨J2, 3, none⟩ = some (.int .i64 0) := (blk_cell J3.out 3).trans rfl; have KP : w7.cell? ⟨J2, 4, none⟩ = some (.slice none 0 0) := (blk_cell J3.out 4).trans rfl; have KQ : w7.cell? ⟨J2, 5, none⟩ = some (.slice none 0 0) := (blk_cell J3.out 5).trans rfl; have KR := blk_frozen J3.out 0; have KS := blk_frozen J3.out 1; have KT := blk_frozen J3.out 2; have KU := blk_frozen J3.out 3; have KV := blk_frozen J3.out 4; have KW := blk_frozen J3.out 5; obtain ⟨Ao10, co10, eo10⟩ := Kd.S_slice J5.out; subst eo10; obtain ⟨Ao11, co11, eo11⟩ := Kd.S_slice J6.out; subst eo11))
      have n0_ : Aside0 (Kd.S k243 243 ((((((w7.setCell ⟨J2, 0, none⟩ (.int .i64 t160)).setCell ⟨J2, 1, none⟩ (.int .i64 t161)).setCell ⟨J2, 2, none⟩ (.int .i64 t162)).setCell ⟨J2, 3, none⟩ (.int .i64 t163)).setCell ⟨J2, 4, none⟩ (.slice Ao10 t164.length co10)).setCell ⟨J2, 5, none⟩ (.slice Ao11 t167.length co11)) w.heap.size (fun _ => True) (.slice Ao10 t164.length co10) t164) := ⟨by (with_reducible repeat (first | apply Kd.S_alloc | apply Kd.S_drewN | apply Kd.S_drew)); exact Kd.S_mono (Kd.S_far (p := ⟨J2, 5, none⟩) (Kd.S_far (p := ⟨J2, 4, none⟩) (Kd.S_far (p := ⟨J2, 3, none⟩) (Kd.S_far (p := ⟨J2, 2, none⟩) (Kd.S_far (p := ⟨J2, 1, none⟩) (Kd.S_far (p := ⟨J2, 0, none⟩) (Kd.S_types J5.out J3.out (by decide)) (fun _ hk => hk.2) (.int .i64 t160)) (fun _ hk => hk.2) (.int .i64 t161)) (fun _ hk => hk.2) (.int .i64 t162)) (fun _ hk => hk.2) (.int .i64 t163)) (fun _ hk => hk.2) (.slice Ao10 t164.length co10)) (fun _ hk => hk.2) (.slice Ao11 t167.length co11)) (fun _ hk => trivial)⟩
      have n1_ : Aside0 (Kd.S k189 189 ((((((w7.setCell ⟨J2, 0, none⟩ (.int .i64 t160)).setCell ⟨J2, 1, none⟩ (.int .i64 t161)).setCell ⟨J2, 2, none⟩ (.int .i64 t162)).setCell ⟨J2, 3, none⟩ (.int .i64 t163)).setCell ⟨J2, 4, none⟩ (.slice Ao10 t164.length co10)).setCell ⟨J2, 5, none⟩ (.slice Ao11 t167.length co11)) w.heap.size (fun _ => True) (.slice Ao11 t167.length co11) t167) := ⟨by (with_reducible repeat (first | apply Kd.S_alloc | apply Kd.S_drewN | apply Kd.S_drew)); exact Kd.S_mono (Kd.S_far (p := ⟨J2, 5, none⟩) (Kd.S_far (p := ⟨J2, 4, none⟩) (Kd.S_far (p := ⟨J2, 3, none⟩) (Kd.S_far (p := ⟨J2, 2, none⟩) (Kd.S_far (p := ⟨J2, 1, none⟩) (Kd.S_far (p := ⟨J2, 0, none⟩) (Kd.S_types J6.out J3.out (by decide)) (fun _ hk => hk.2) (.int .i64 t160)) (fun _ hk => hk.2) (.int .i64 t161)) (fun _ hk => hk.2) (.int .i64 t162)) (fun _ hk => hk.2) (.int .i64 t163)) (fun _ hk => hk.2) (.slice Ao10 t164.length co10)) (fun _ hk => hk.2) (.slice Ao11 t167.length co11)) (fun _ hk => trivial)⟩
      have n2_ : Aside0 (((((((w7.setCell ⟨J2, 0, none⟩ (.int .i64 t160)).setCell ⟨J2, 1, none⟩ (.int .i64 t161)).setCell ⟨J2, 2, none⟩ (.int .i64 t162)).setCell ⟨J2, 3, none⟩ (.int .i64 t163)).setCell ⟨J2, 4, none⟩ (.slice Ao10 t164.length co10)).setCell ⟨J2, 5, none⟩ (.slice Ao11 t167.length co11)).heap[J1]? = some (.cells #[.int .i64 0, .int .i64 0, .slice none 0 0, .int .i64 0, .int .i64 0, .slice none 0 0, .slice none 0 0, .slice none 0 0] 30 (0, 0))) := ⟨by (with_reducible repeat (first | refine blk_drewN ?_ _ | refine blk_drew ?_ | refine blk_alloc ?_ _)); refine blk_far ?_ Jj.out _; (with_reducible repeat (first | refine blk_drewN ?_ _ | refine blk_drew ?_ | refine blk_alloc ?_ _)); refine blk_far ?_ Jj.out _; (with_reducible repeat (first | refine blk_drewN ?_ _ | refine blk_drew ?_ | refine blk_alloc ?_ _)); refine blk_far ?_ Jj.out _; (with_reducible repeat (first | refine blk_drewN ?_ _ | refine blk_drew ?_ | refine blk_alloc ?_ _)); refine blk_far ?_ Jj.out _; (with_reducible repeat (first | refine blk_drewN ?_ _ | refine blk_drew ?_ | refine blk_alloc ?_ _)); refine blk_far ?_ Jj.out _; (with_reducible repeat (first | refine blk_drewN ?_ _ | refine blk_drew ?_ | refine blk_alloc ?_ _)); refine blk_far ?_ Jj.out _; (with_reducible repeat (first | refine blk_drewN ?_ _ | refine blk_drew ?_ | refine blk_alloc ?_ _)); exact J0.out⟩
      have n3_ : Aside0 (((((((w7.setCell ⟨J2, 0, none⟩ (.int .i64 t160)).setCell ⟨J2, 1, none⟩ (.int .i64 t161)).setCell ⟨J2, 2, none⟩ (.int .i64 t162)).setCell ⟨J2, 3, none⟩ (.int .i64 t163)).setCell ⟨J2, 4, none⟩ (.slice Ao10 t164.length co10)).setCell ⟨J2, 5, none⟩ (.slice Ao11 t167.length co11)).heap[J2]? = some (.cells #[.int .i64 t160, .int .i64 t161, .int .i64 t162, .int .i64 t163, .slice Ao10 t164.length co10, .slice Ao11 t167.length co11] 114 (0, 0))) := ⟨by (with_reducible repeat (first | refine blk_drewN ?_ _ | refine blk_drew ?_ | refine blk_alloc ?_ _)); refine blk_put (cs := #[.int .i64 t160, .int .i64 t161, .int .i64 t162, .int .i64 t163, .slice Ao10 t164.length co10, .slice none 0 0]) ?_ 5 _ rfl; (with_reducible repeat (first | refine blk_drewN ?_ _ | refine blk_drew ?_ | refine blk_alloc ?_ _)); refine blk_put (cs := #[.int .i64 t160, .int .i64 t161, .int .i64 t162, .int .i64 t163, .slice none 0 0, .slice none 0 0]) ?_ 4 _ rfl; (with_reducible repeat (first | refine blk_drewN ?_ _ | refine blk_drew ?_ | refine blk_alloc ?_ _)); refine blk_put (cs := #[.int .i64 t160, .int .i64 t161, .int .i64 t162, .int .i64 0, .slice none 0 0, .slice none 0 0]) ?_ 3 _ rfl; (with_reducible repeat (first | refine blk_drewN ?_ _ | refine blk_drew ?_ | refine blk_alloc ?_ _)); refine blk_put (cs := #[.int .i64 t160, .int .i64 t161, .int .i64 0, .int .i64 0, .slice none 0 0, .slice none 0 0]) ?_ 2 _ rfl; (with_reducible repeat (first | refine blk_drewN ?_ _ | refine blk_drew ?_ | refine blk_alloc ?_ _)); refine blk_put (cs := #[.int .i64 t160, .int .i64 0, .int .i64 0, .int .i64 0, .slice none 0 0, .slice none 0 0]) ?_ 1 _ rfl; (with_reducible repeat (first | refine blk_drewN ?_ _ | refine blk_drew ?_ | refine blk_alloc ?_ _)); refine blk_put (cs := #[.int .i64 0, .int .i64 0, .int .i64 0, .int .i64 0, .slice none 0 0, .slice none 0 0]) ?_ 0 _ rfl; (with_reducible repeat (first | refine blk_drewN ?_ _ | refine blk_drew ?_ | refine blk_alloc ?_ _)); exact J3.out⟩
      have n4_ : Aside0 (Below w.heap.size w ((((((w7.setCell ⟨J2, 0, none⟩ (.int .i64 t160)).setCell ⟨J2, 1, none⟩ (.int .i64 t161)).setCell ⟨J2, 2, none⟩ (.int .i64 t162)).setCell ⟨J2, 3, none⟩ (.int .i64 t163)).setCell ⟨J2, 4, none⟩ (.slice Ao10 t164.length co10)).setCell ⟨J2, 5, none⟩ (.slice Ao11 t167.length co11))) := ⟨by repeat (first | (with_reducible first | exact HB.out | apply below_alloc | apply pw_below_drewN | apply below_drew1 | refine below_set ?_ J8.out | refine below_set ?_ J9.out) | exact HB.out)⟩
      (try clear J5)
      (try clear J6)
      (try clear J0)
      (try clear J3)
      (try clear HB)
      generalize ((((((w7.setCell ⟨J2, 0, none⟩ (.int .i64 t160)).setCell ⟨J2, 1, none⟩ (.int .i64 t161)).setCell ⟨J2, 2, none⟩ (.int .i64 t162)).setCell ⟨J2, 3, none⟩ (.int .i64 t163)).setCell ⟨J2, 4, none⟩ (.slice Ao10 t164.length co10)).setCell ⟨J2, 5, none⟩ (.slice Ao11 t167.length co11)) = w12 at n0_ n1_ n2_ n3_ n4_ ⊢
      have J5 := n0_
      have J6 := n1_
      have J0 := n2_
      have J3 := n3_
      have HB := n4_
      clear n0_ n1_ n2_ n3_ n4_
      have n0_ := Aside0.mk (Kd.S_drew J5.out)
      have n1_ := Aside0.mk (Kd.S_drew J6.out)
      have n2_ := Aside0.mk (blk_drew J0.out)
      have n3_ := Aside0.mk (blk_drew J3.out)
      have n4_ := Aside0.mk (below_drew1 HB.out)
      clear J5
      clear J6
      clear J0
      clear J3
      clear HB
      have J5 := n0_
      have J6 := n1_
      have J0 := n2_
      have J3 := n3_
      have HB := n4_
      clear n0_ n1_ n2_ n3_ n4_
      refine start_ (n := 7) (S := fun w' => True) (ds := []) #[false, false, false, false, false, false, false] (by kernel_rfl) rfl rfl trivial (fun hHeld => ?_)
      generalize w12.drew = w13 at J5 J6 J0 J3 HB hHeld ⊢
      refine pure_ (i := 1) (N := some 15) (v := ?_) (a' := ?_) #[false, true, false, false, false, false, false] rfl rfl (by kernel_rfl) (fun _ _ _ h => h) (Or.inl ⟨by rfl, ?_⟩) ?_ ?_
      rotate_left
      · intro w'
        go_simp
        with_reducible rfl
      rotate_left
      · simp only [Act.put, List.setIfInBounds_toArray, List.set_cons_zero, List.set_cons_succ, i64_w, i32_w]
        rfl
      refine join_ (σ := Value × Value × Value × Nat) 1 #[true, true, true, true, true, true, false] (fun s_ => [(14, s_.1), (16, s_.2.1), (17, s_.2.2.1), (4, .pointer (some ⟨s_.2.2.2, 0, none⟩)), (18, .agg #[.int .i64 2, .int .i64 0, s_.2.1, s_.2.2.1, .slice none 0 0])]) (fun s_ w' => (Kd.S k243 243 w' w.heap.size (fun _ => True) (.slice Ao10 t164.length co10) t164) ∧ (Kd.S k189 189 w' w.heap.size (fun _ => True) (.slice Ao11 t167.length co11) t167) ∧ (Kd.R k118 118 w' w.heap.size (fun _ => True) s_.2.1 y190) ∧ (Kd.R (Kd.int .i64) 2 w' w.heap.size (fun _ => True) s_.2.2.1 y193) ∧ (w'.heap[J1]? = some (.cells #[.int .i64 0, .int .i64 0, .slice none 0 0, .int .i64 0, .int .i64 0, .slice none 0 0, .slice none 0 0, .slice none 0 0] 30 (0, 0))) ∧ (w'.heap[J2]? = some (.cells #[.int .i64 t160, .int .i64 t161, .int .i64 t162, .int .i64 t163, .slice Ao10 t164.length co10, .slice Ao11 t167.length co11] 114 (0, 0))) ∧ (w'.heap[s_.2.2.2]? = some (.cells #[.int .i64 0, .int .i64 0, .slice none 0 0, .slice none 0 0, .slice none 0 0] 28 (0, 0))) ∧ (w.heap.size ≤ s_.2.2.2) ∧ (w.heap.size ≤ s_.2.2.2) ∧ (J1 ≠ s_.2.2.2) ∧ (s_.2.2.2 ≠ J1) ∧ (J2 ≠ s_.2.2.2) ∧ (s_.2.2.2 ≠ J2) ∧ (Below w.heap.size w w')) ?_ ?_
      rotate_left
      · intro hJ0_2_3_5
        refine join_ (σ := Value × Value × Value) 2 #[true, true, true, true, true, false, false] (fun s_ => [(14, s_.1), (16, s_.2.1), (17, s_.2.2), (18, .agg #[.int .i64 2, .int .i64 0, s_.2.1, s_.2.2, .slice none 0 0])]) (fun s_ w' => (Kd.S k243 243 w' w.heap.size (fun _ => True) (.slice Ao10 t164.length co10) t164) ∧ (Kd.S k189 189 w' w.heap.size (fun _ => True) (.slice Ao11 t167.length co11) t167) ∧ (Kd.R k118 118 w' w.heap.size (fun _ => True) s_.2.1 y190) ∧ (Kd.R (Kd.int .i64) 2 w' w.heap.size (fun _ => True) s_.2.2 y193) ∧ (w'.heap[J1]? = some (.cells #[.int .i64 0, .int .i64 0, .slice none 0 0, .int .i64 0, .int .i64 0, .slice none 0 0, .slice none 0 0, .slice none 0 0] 30 (0, 0))) ∧ (w'.heap[J2]? = some (.cells #[.int .i64 t160, .int .i64 t161, .int .i64 t162, .int .i64 t163, .slice Ao10 t164.length co10, .slice Ao11 t167.length co11] 114 (0, 0))) ∧ (Below w.heap.size w w')) ?_ ?_
        rotate_left
        · intro hJ0_2_3
          refine join_ (σ := Value × Value × Nat) 3 #[true, true, true, false, false, true, false] (fun s_ => [(14, s_.1), (16, s_.2.1), (4, .pointer (some ⟨s_.2.2, 0, none⟩))]) (fun s_ w' => (Kd.S k243 243 w' w.heap.size (fun _ => True) (.slice Ao10 t164.length co10) t164) ∧ (Kd.S k189 189 w' w.heap.size (fun _ => True) (.slice Ao11 t167.length co11) t167) ∧ (Kd.R k118 118 w' w.heap.size (fun _ => True) s_.2.1 y190) ∧ (w'.heap[J1]? = some (.cells #[.int .i64 0, .int .i64 0, .slice none 0 0, .int .i64 0, .int .i64 0, .slice none 0 0, .slice none 0 0, .slice none 0 0] 30 (0, 0))) ∧ (w'.heap[J2]? = some (.cells #[.int .i64 t160, .int .i64 t161, .int .i64 t162, .int .i64 t163, .slice Ao10 t164.length co10, .slice Ao11 t167.length co11] 114 (0, 0))) ∧ (w'.heap[s_.2.2]? = some (.cells #[.int .i64 0, .int .i64 0, .slice none 0 0, .slice none 0 0, .slice none 0 0] 28 (0, 0))) ∧ (w.heap.size ≤ s_.2.2) ∧ (w.heap.size ≤ s_.2.2) ∧ (J1 ≠ s_.2.2) ∧ (s_.2.2 ≠ J1) ∧ (J2 ≠ s_.2.2) ∧ (s_.2.2 ≠ J2) ∧ (Below w.heap.size w w')) ?_ ?_
          rotate_left
          · intro hJ0_2_5
            refine join_ (σ := Value × Value × Nat) 3 #[true, true, false, true, false, true, false] (fun s_ => [(14, s_.1), (17, s_.2.1), (4, .pointer (some ⟨s_.2.2, 0, none⟩))]) (fun s_ w' => (Kd.S k243 243 w' w.heap.size (fun _ => True) (.slice Ao10 t164.length co10) t164) ∧ (Kd.S k189 189 w' w.heap.size (fun _ => True) (.slice Ao11 t167.length co11) t167) ∧ (Kd.R k118 118 w' w.heap.size (fun _ => True) s_.1 y187) ∧ (Kd.R (Kd.int .i64) 2 w' w.heap.size (fun _ => True) s_.2.1 y193) ∧ (w'.heap[J1]? = some (.cells #[.int .i64 0, .int .i64 0, .slice none 0 0, .int .i64 0, .int .i64 0, .slice none 0 0, .slice none 0 0, .slice none 0 0] 30 (0, 0))) ∧ (w'.heap[J2]? = some (.cells #[.int .i64 t160, .int .i64 t161, .int .i64 t162, .int .i64 t163, .slice Ao10 t164.length co10, .slice Ao11 t167.length co11] 114 (0, 0))) ∧ (w'.heap[s_.2.2]? = some (.cells #[.int .i64 0, .int .i64 0, .slice none 0 0, .slice none 0 0, .slice none 0 0] 28 (0, 0))) ∧ (w.heap.size ≤ s_.2.2) ∧ (w.heap.size ≤ s_.2.2) ∧ (J1 ≠ s_.2.2) ∧ (s_.2.2 ≠ J1) ∧ (J2 ≠ s_.2.2) ∧ (s_.2.2 ≠ J2) ∧ (Below w.heap.size w w')) ?_ ?_
            rotate_left
            · intro hJ0_3_5
              refine join_ (σ := Value × Value) 4 #[true, true, true, false, false, false, false] (fun s_ => [(14, s_.1), (16, s_.2)]) (fun s_ w' => (Kd.S k243 243 w' w.heap.size (fun _ => True) (.slice Ao10 t164.length co10) t164) ∧ (Kd.S k189 189 w' w.heap.size (fun _ => True) (.slice Ao11 t167.length co11) t167) ∧ (Kd.R k118 118 w' w.heap.size (fun _ => True) s_.2 y190) ∧ (w'.heap[J1]? = some (.cells #[.int .i64 0, .int .i64 0, .slice none 0 0, .int .i64 0, .int .i64 0, .slice none 0 0, .slice none 0 0, .slice none 0 0] 30 (0, 0))) ∧ (w'.heap[J2]? = some (.cells #[.int .i64 t160, .int .i64 t161, .int .i64 t162, .int .i64 t163, .slice Ao10 t164.length co10, .slice Ao11 t167.length co11] 114 (0, 0))) ∧ (Below w.heap.size w w')) ?_ ?_
              rotate_left
              · intro hJ0_2
                refine join_ (σ := Value × Value) 4 #[true, true, false, true, false, false, false] (fun s_ => [(14, s_.1), (17, s_.2)]) (fun s_ w' => (Kd.S k243 243 w' w.heap.size (fun _ => True) (.slice Ao10 t164.length co10) t164) ∧ (Kd.S k189 189 w' w.heap.size (fun _ => True) (.slice Ao11 t167.length co11) t167) ∧ (Kd.R k118 118 w' w.heap.size (fun _ => True) s_.1 y187) ∧ (Kd.R (Kd.int .i64) 2 w' w.heap.size (fun _ => True) s_.2 y193) ∧ (w'.heap[J1]? = some (.cells #[.int .i64 0, .int .i64 0, .slice none 0 0, .int .i64 0, .int .i64 0, .slice none 0 0, .slice none 0 0, .slice none 0 0] 30 (0, 0))) ∧ (w'.heap[J2]? = some (.cells #[.int .i64 t160, .int .i64 t161, .int .i64 t162, .int .i64 t163, .slice Ao10 t164.length co10, .slice Ao11 t167.length co11] 114 (0, 0))) ∧ (Below w.heap.size w w')) ?_ ?_
                rotate_left
                · intro hJ0_3
                  refine join_ (σ := Value × Nat) 4 #[true, true, false, false, false, true, false] (fun s_ => [(14, s_.1), (4, .pointer (some ⟨s_.2, 0, none⟩))]) (fun s_ w' => (Kd.S k243 243 w' w.heap.size (fun _ => True) (.slice Ao10 t164.length co10) t164) ∧ (Kd.S k189 189 w' w.heap.size (fun _ => True) (.slice Ao11 t167.length co11) t167) ∧ (Kd.R k118 118 w' w.heap.size (fun _ => True) s_.1 y187) ∧ (w'.heap[J1]? = some (.cells #[.int .i64 0, .int .i64 0, .slice none 0 0, .int .i64 0, .int .i64 0, .slice none 0 0, .slice none 0 0, .slice none 0 0] 30 (0, 0))) ∧ (w'.heap[J2]? = some (.cells #[.int .i64 t160, .int .i64 t161, .int .i64 t162, .int .i64 t163, .slice Ao10 t164.length co10, .slice Ao11 t167.length co11] 114 (0, 0))) ∧ (w'.heap[s_.2]? = some (.cells #[.int .i64 0, .int .i64 0, .slice none 0 0, .slice none 0 0, .slice none 0 0] 28 (0, 0))) ∧ (w.heap.size ≤ s_.2) ∧ (w.heap.size ≤ s_.2) ∧ (J1 ≠ s_.2) ∧ (s_.2 ≠ J1) ∧ (J2 ≠ s_.2) ∧ (s_.2 ≠ J2) ∧ (Below w.heap.size w w')) ?_ ?_
                  rotate_left
                  · intro hJ0_5
                    refine join_ (σ := Value × Nat) 4 #[false, true, false, true, false, true, false] (fun s_ => [(17, s_.1), (4, .pointer (some ⟨s_.2, 0, none⟩))]) (fun s_ w' => (Kd.S k243 243 w' w.heap.size (fun _ => True) (.slice Ao10 t164.length co10) t164) ∧ (Kd.S k189 189 w' w.heap.size (fun _ => True) (.slice Ao11 t167.length co11) t167) ∧ (Kd.R (Kd.int .i64) 2 w' w.heap.size (fun _ => True) s_.1 y193) ∧ (w'.heap[J1]? = some (.cells #[.int .i64 0, .int .i64 0, .slice none 0 0, .int .i64 0, .int .i64 0, .slice none 0 0, .slice none 0 0, .slice none 0 0] 30 (0, 0))) ∧ (w'.heap[J2]? = some (.cells #[.int .i64 t160, .int .i64 t161, .int .i64 t162, .int .i64 t163, .slice Ao10 t164.length co10, .slice Ao11 t167.length co11] 114 (0, 0))) ∧ (w'.heap[s_.2]? = some (.cells #[.int .i64 0, .int .i64 0, .slice none 0 0, .slice none 0 0, .slice none 0 0] 28 (0, 0))) ∧ (w.heap.size ≤ s_.2) ∧ (w.heap.size ≤ s_.2) ∧ (J1 ≠ s_.2) ∧ (s_.2 ≠ J1) ∧ (J2 ≠ s_.2) ∧ (s_.2 ≠ J2) ∧ (Below w.heap.size w w')) ?_ ?_
                    rotate_left
                    · intro hJ3_5
                      refine join_ (σ := Value) 5 #[true, true, false, false, false, false, false] (fun s_ => [(14, s_)]) (fun s_ w' => (Kd.S k243 243 w' w.heap.size (fun _ => True) (.slice Ao10 t164.length co10) t164) ∧ (Kd.S k189 189 w' w.heap.size (fun _ => True) (.slice Ao11 t167.length co11) t167) ∧ (Kd.R k118 118 w' w.heap.size (fun _ => True) s_ y187) ∧ (w'.heap[J1]? = some (.cells #[.int .i64 0, .int .i64 0, .slice none 0 0, .int .i64 0, .int .i64 0, .slice none 0 0, .slice none 0 0, .slice none 0 0] 30 (0, 0))) ∧ (w'.heap[J2]? = some (.cells #[.int .i64 t160, .int .i64 t161, .int .i64 t162, .int .i64 t163, .slice Ao10 t164.length co10, .slice Ao11 t167.length co11] 114 (0, 0))) ∧ (Below w.heap.size w w')) ?_ ?_
                      rotate_left
                      · intro hJ0
                        refine join_ (σ := Value) 5 #[false, true, false, true, false, false, false] (fun s_ => [(17, s_)]) (fun s_ w' => (Kd.S k243 243 w' w.heap.size (fun _ => True) (.slice Ao10 t164.length co10) t164) ∧ (Kd.S k189 189 w' w.heap.size (fun _ => True) (.slice Ao11 t167.length co11) t167) ∧ (Kd.R (Kd.int .i64) 2 w' w.heap.size (fun _ => True) s_ y193) ∧ (w'.heap[J1]? = some (.cells #[.int .i64 0, .int .i64 0, .slice none 0 0, .int .i64 0, .int .i64 0, .slice none 0 0, .slice none 0 0, .slice none 0 0] 30 (0, 0))) ∧ (w'.heap[J2]? = some (.cells #[.int .i64 t160, .int .i64 t161, .int .i64 t162, .int .i64 t163, .slice Ao10 t164.length co10, .slice Ao11 t167.length co11] 114 (0, 0))) ∧ (Below w.heap.size w w')) ?_ ?_
                        rotate_left
                        · intro hJ3
                          refine join_ (σ := Nat) 5 #[false, true, false, false, false, true, false] (fun s_ => [(4, .pointer (some ⟨s_, 0, none⟩))]) (fun s_ w' => (Kd.S k243 243 w' w.heap.size (fun _ => True) (.slice Ao10 t164.length co10) t164) ∧ (Kd.S k189 189 w' w.heap.size (fun _ => True) (.slice Ao11 t167.length co11) t167) ∧ (w'.heap[J1]? = some (.cells #[.int .i64 0, .int .i64 0, .slice none 0 0, .int .i64 0, .int .i64 0, .slice none 0 0, .slice none 0 0, .slice none 0 0] 30 (0, 0))) ∧ (w'.heap[J2]? = some (.cells #[.int .i64 t160, .int .i64 t161, .int .i64 t162, .int .i64 t163, .slice Ao10 t164.length co10, .slice Ao11 t167.length co11] 114 (0, 0))) ∧ (w'.heap[s_]? = some (.cells #[.int .i64 0, .int .i64 0, .slice none 0 0, .slice none 0 0, .slice none 0 0] 28 (0, 0))) ∧ (w.heap.size ≤ s_) ∧ (w.heap.size ≤ s_) ∧ (J1 ≠ s_) ∧ (s_ ≠ J1) ∧ (J2 ≠ s_) ∧ (s_ ≠ J2) ∧ (Below w.heap.size w w')) ?_ ?_
                          rotate_left
                          · intro hJ5
                            refine three_ (i := 0) (j := 3) (k := 5) (Ni := some 14) (Nj := some 17) (Nk := some 4) #[true, true, false, false, false, false, false] #[false, true, false, true, false, false, false] #[false, true, false, false, false, true, false] rfl rfl rfl rfl rfl rfl (by kernel_rfl) (by decide) (by decide) (by decide) (fun K hK => ?_) (fun K hK => ?_) (fun K hK => ?_)
                            · skip
                              refine Kd.R_lit_step k118 _ 118 ?hg (N := 14) ?hd (xs := ([] : List (S118))) (inner := []) (ok := fun _ => True) (okp := fun _ => True) ?hr ?hp (fun _ hk => hk) trivial (Below.refl _ _) (Nat.le_refl _) (by simp) ?_; (case hd => rfl); (case hg => rfl); (case hr => first | (go_simp; done) | (go_simp; rfl)); (case hp => exact (Reps.none _ _))
                              intro v188 w14 ho15 hb hg_ hnew_
                              clear hg_ hnew_
                              (first | rw [← Ny187.out] at ho15 | (simp only [Int.reduceToNat] at ho15; rw [← Ny187.out] at ho15))
                              have n0_ := Aside0.mk (Kd.S_below (by (with_reducible repeat (first | apply Kd.S_alloc | apply Kd.S_drewN | apply Kd.S_drew)); exact J5.out) hb)
                              have n1_ := Aside0.mk (Kd.S_below (by (with_reducible repeat (first | apply Kd.S_alloc | apply Kd.S_drewN | apply Kd.S_drew)); exact J6.out) hb)
                              have n2_ := Aside0.mk (Kd.R_lower ho15 (below_size (by repeat (first | (with_reducible first | exact HB.out | apply below_alloc | apply pw_below_drewN | apply below_drew1 | refine below_set ?_ J8.out | refine below_set ?_ J9.out) | exact HB.out))))
                              have n3_ := Aside0.mk (blk_below (g := J1) (o := .cells #[.int .i64 0, .int .i64 0, .slice none 0 0, .int .i64 0, .int .i64 0, .slice none 0 0, .slice none 0 0, .slice none 0 0] 30 (0, 0)) (by (with_reducible repeat (first | refine blk_drewN ?_ _ | refine blk_drew ?_ | refine blk_alloc ?_ _)); exact J0.out) hb)
                              have n4_ := Aside0.mk (blk_below (g := J2) (o := .cells #[.int .i64 t160, .int .i64 t161, .int .i64 t162, .int .i64 t163, .slice Ao10 t164.length co10, .slice Ao11 t167.length co11] 114 (0, 0)) (by (with_reducible repeat (first | refine blk_drewN ?_ _ | refine blk_drew ?_ | refine blk_alloc ?_ _)); exact J3.out) hb)
                              have n5_ := Aside0.mk (below_step (by repeat (first | (with_reducible first | exact HB.out | apply below_alloc | apply pw_below_drewN | apply below_drew1 | refine below_set ?_ J8.out | refine below_set ?_ J9.out) | exact HB.out)) hb)
                              clear J5
                              clear J6
                              clear J0
                              clear J3
                              clear HB
                              have J5 := n0_
                              have J6 := n1_
                              have Je := n2_
                              have J0 := n3_
                              have J3 := n4_
                              have HB := n5_
                              clear n0_ n1_ n2_ n3_ n4_ n5_
                              clear hb ho15
                              refine hK.out _ _ trivial (fun hHeld => ?_)
                              clear hK K
                              refine norm_ (a' := ?_) ?_ ?_
                              rotate_left
                              · show Act.put _ (some 14) _ = _
                                simp only [Act.put, List.setIfInBounds_toArray, List.set_cons_zero, List.set_cons_succ, i64_w, i32_w]
                                rfl
                              exact norm_ (by first | (simp only [putAll, Act.put, List.setIfInBounds_toArray, List.set_cons_zero, List.set_cons_succ]; done) | (simp only [putAll, Act.put, List.setIfInBounds_toArray, List.set_cons_zero, List.set_cons_succ]; rfl)) (hJ0 (v188) _ ⟨(by (with_reducible repeat (first | apply Kd.S_alloc | apply Kd.S_drewN | apply Kd.S_drew)); exact J5.out), (by (with_reducible repeat (first | apply Kd.S_alloc | apply Kd.S_drewN | apply Kd.S_drew)); exact J6.out), (by (with_reducible repeat (first | apply Kd.R_alloc | apply Kd.R_drewN | apply Kd.R_drew)); exact Je.out), (by (with_reducible repeat (first | refine blk_drewN ?_ _ | refine blk_drew ?_ | refine blk_alloc ?_ _)); exact J0.out), (by (with_reducible repeat (first | refine blk_drewN ?_ _ | refine blk_drew ?_ | refine blk_alloc ?_ _)); exact J3.out), (by repeat (first | (with_reducible first | exact HB.out | apply below_alloc | apply pw_below_drewN | apply below_drew1 | refine below_set ?_ J8.out | refine below_set ?_ J9.out) | exact HB.out))⟩)
                            · skip
                              refine Kd.R_make_step (Kd.int .i64) _ 2 (by rfl) (N := 17) rfl 25 _ _ rfl 32 rfl rfl Try.underlying25 (.int .i64 0) 8 info2 rfl (by decide) (by omega) 0 (ok := fun _ => True) (okp := fun _ => True) rfl (fun _ hk => hk) trivial (by omega) (by omega) (Below.refl _ _) (Nat.le_refl _) ?_
                              intro v194 w14 ho15 hb hg_ hnew_
                              clear hg_ hnew_
                              (first | rw [← Ny193.out] at ho15 | (simp only [Int.reduceToNat] at ho15; rw [← Ny193.out] at ho15))
                              have n0_ := Aside0.mk (Kd.S_below (by (with_reducible repeat (first | apply Kd.S_alloc | apply Kd.S_drewN | apply Kd.S_drew)); exact J5.out) hb)
                              have n1_ := Aside0.mk (Kd.S_below (by (with_reducible repeat (first | apply Kd.S_alloc | apply Kd.S_drewN | apply Kd.S_drew)); exact J6.out) hb)
                              have n2_ := Aside0.mk (Kd.R_lower ho15 (below_size (by repeat (first | (with_reducible first | exact HB.out | apply below_alloc | apply pw_below_drewN | apply below_drew1 | refine below_set ?_ J8.out | refine below_set ?_ J9.out) | exact HB.out))))
                              have n3_ := Aside0.mk (blk_below (g := J1) (o := .cells #[.int .i64 0, .int .i64 0, .slice none 0 0, .int .i64 0, .int .i64 0, .slice none 0 0, .slice none 0 0, .slice none 0 0] 30 (0, 0)) (by (with_reducible repeat (first | refine blk_drewN ?_ _ | refine blk_drew ?_ | refine blk_alloc ?_ _)); exact J0.out) hb)
                              have n4_ := Aside0.mk (blk_below (g := J2) (o := .cells #[.int .i64 t160, .int .i64 t161, .int .i64 t162, .int .i64 t163, .slice Ao10 t164.length co10, .slice Ao11 t167.length co11] 114 (0, 0)) (by (with_reducible repeat (first | refine blk_drewN ?_ _ | refine blk_drew ?_ | refine blk_alloc ?_ _)); exact J3.out) hb)
                              have n5_ := Aside0.mk (below_step (by repeat (first | (with_reducible first | exact HB.out | apply below_alloc | apply pw_below_drewN | apply below_drew1 | refine below_set ?_ J8.out | refine below_set ?_ J9.out) | exact HB.out)) hb)
                              clear J5
                              clear J6
                              clear J0
                              clear J3
                              clear HB
                              have J5 := n0_
                              have J6 := n1_
                              have Jg := n2_
                              have J0 := n3_
                              have J3 := n4_
                              have HB := n5_
                              clear n0_ n1_ n2_ n3_ n4_ n5_
                              clear hb ho15
                              refine hK.out _ _ trivial (fun hHeld => ?_)
                              clear hK K
                              refine norm_ (a' := ?_) ?_ ?_
                              rotate_left
                              · show Act.put _ (some 17) _ = _
                                simp only [Act.put, List.setIfInBounds_toArray, List.set_cons_zero, List.set_cons_succ, i64_w, i32_w]
                                rfl
                              exact norm_ (by first | (simp only [putAll, Act.put, List.setIfInBounds_toArray, List.set_cons_zero, List.set_cons_succ]; done) | (simp only [putAll, Act.put, List.setIfInBounds_toArray, List.set_cons_zero, List.set_cons_succ]; rfl)) (hJ3 (v194) _ ⟨(by (with_reducible repeat (first | apply Kd.S_alloc | apply Kd.S_drewN | apply Kd.S_drew)); exact J5.out), (by (with_reducible repeat (first | apply Kd.S_alloc | apply Kd.S_drewN | apply Kd.S_drew)); exact J6.out), (by (with_reducible repeat (first | apply Kd.R_alloc | apply Kd.R_drewN | apply Kd.R_drew)); exact Jg.out), (by (with_reducible repeat (first | refine blk_drewN ?_ _ | refine blk_drew ?_ | refine blk_alloc ?_ _)); exact J0.out), (by (with_reducible repeat (first | refine blk_drewN ?_ _ | refine blk_drew ?_ | refine blk_alloc ?_ _)); exact J3.out), (by repeat (first | (with_reducible first | exact HB.out | apply below_alloc | apply pw_below_drewN | apply below_drew1 | refine below_set ?_ J8.out | refine below_set ?_ J9.out) | exact HB.out))⟩)
                            · skip
                              refine box_step ?hg (N := 4) ?hd (cs := #[.int .i64 0, .int .i64 0, .slice none 0 0, .slice none 0 0, .slice none 0 0]) (t := 28) ?hr ?_; (case hd => rfl); (case hg => rfl); (case hr => first | (go_simp; done) | (go_simp; rfl))
                              intro J4 hg w14 hbox hb
                              have n0_ := Aside0.mk (Kd.S_below (by (with_reducible repeat (first | apply Kd.S_alloc | apply Kd.S_drewN | apply Kd.S_drew)); exact J5.out) hb)
                              have n1_ := Aside0.mk (Kd.S_below (by (with_reducible repeat (first | apply Kd.S_alloc | apply Kd.S_drewN | apply Kd.S_drew)); exact J6.out) hb)
                              have n2_ := Aside0.mk (blk_below (g := J1) (o := .cells #[.int .i64 0, .int .i64 0, .slice none 0 0, .int .i64 0, .int .i64 0, .slice none 0 0, .slice none 0 0, .slice none 0 0] 30 (0, 0)) (by (with_reducible repeat (first | refine blk_drewN ?_ _ | refine blk_drew ?_ | refine blk_alloc ?_ _)); exact J0.out) hb)
                              have n3_ := Aside0.mk (blk_below (g := J2) (o := .cells #[.int .i64 t160, .int .i64 t161, .int .i64 t162, .int .i64 t163, .slice Ao10 t164.length co10, .slice Ao11 t167.length co11] 114 (0, 0)) (by (with_reducible repeat (first | refine blk_drewN ?_ _ | refine blk_drew ?_ | refine blk_alloc ?_ _)); exact J3.out) hb)
                              have n4_ := Aside0.mk (below_step (by repeat (first | (with_reducible first | exact HB.out | apply below_alloc | apply pw_below_drewN | apply below_drew1 | refine below_set ?_ J8.out | refine below_set ?_ J9.out) | exact HB.out)) hb)
                              have n5_ := Aside0.mk (hbox)
                              have n6_ := Aside0.mk ((by rw [hg]; exact (below_size (by repeat (first | (with_reducible first | exact HB.out | apply below_alloc | apply pw_below_drewN | apply below_drew1 | refine below_set ?_ J8.out | refine below_set ?_ J9.out) | exact HB.out))) : w.heap.size ≤ J4))
                              have n7_ := Aside0.mk ((by rw [hg]; exact (below_size (by repeat (first | (with_reducible first | exact HB.out | apply below_alloc | apply pw_below_drewN | apply below_drew1 | refine below_set ?_ J8.out | refine below_set ?_ J9.out) | exact HB.out))) : w.heap.size ≤ J4))
                              have n8_ := Aside0.mk ((by rw [hg]; exact Nat.ne_of_lt (blk_lt (g := J1) (o := .cells #[.int .i64 0, .int .i64 0, .slice none 0 0, .int .i64 0, .int .i64 0, .slice none 0 0, .slice none 0 0, .slice none 0 0] 30 (0, 0)) (by (with_reducible repeat (first | refine blk_drewN ?_ _ | refine blk_drew ?_ | refine blk_alloc ?_ _)); exact J0.out)) : J1 ≠ J4))
                              have n9_ := Aside0.mk ((by rw [hg]; exact Nat.ne_of_gt (blk_lt (g := J1) (o := .cells #[.int .i64 0, .int .i64 0, .slice none 0 0, .int .i64 0, .int .i64 0, .slice none 0 0, .slice none 0 0, .slice none 0 0] 30 (0, 0)) (by (with_reducible repeat (first | refine blk_drewN ?_ _ | refine blk_drew ?_ | refine blk_alloc ?_ _)); exact J0.out)) : J4 ≠ J1))
                              have n10_ := Aside0.mk ((by rw [hg]; exact Nat.ne_of_lt (blk_lt (g := J2) (o := .cells #[.int .i64 t160, .int .i64 t161, .int .i64 t162, .int .i64 t163, .slice Ao10 t164.length co10, .slice Ao11 t167.length co11] 114 (0, 0)) (by (with_reducible repeat (first | refine blk_drewN ?_ _ | refine blk_drew ?_ | refine blk_alloc ?_ _)); exact J3.out)) : J2 ≠ J4))
                              have n11_ := Aside0.mk ((by rw [hg]; exact Nat.ne_of_gt (blk_lt (g := J2) (o := .cells #[.int .i64 t160, .int .i64 t161, .int .i64 t162, .int .i64 t163, .slice Ao10 t164.length co10, .slice Ao11 t167.length co11] 114 (0, 0)) (by (with_reducible repeat (first | refine blk_drewN ?_ _ | refine blk_drew ?_ | refine blk_alloc ?_ _)); exact J3.out)) : J4 ≠ J2))
                              clear J5
                              clear J6
                              clear J0
                              clear J3
                              clear HB
                              have J5 := n0_
                              have J6 := n1_
                              have J0 := n2_
                              have J3 := n3_
                              have HB := n4_
                              have J7 := n5_
                              have Jn := n6_
                              have Jf := n7_
                              have Ja := n8_
                              have Jc := n9_
                              have Jb := n10_
                              have Jd := n11_
                              clear n0_ n1_ n2_ n3_ n4_ n5_ n6_ n7_ n8_ n9_ n10_ n11_
                              clear hb hbox hg
                              refine hK.out _ _ trivial (fun hHeld => ?_)
                              clear hK K
                              refine norm_ (a' := ?_) ?_ ?_
                              rotate_left
                              · show Act.put _ (some 4) _ = _
                                simp only [Act.put, List.setIfInBounds_toArray, List.set_cons_zero, List.set_cons_succ, i64_w, i32_w]
                                rfl
                              exact norm_ (by first | (simp only [putAll, Act.put, List.setIfInBounds_toArray, List.set_cons_zero, List.set_cons_succ]; done) | (simp only [putAll, Act.put, List.setIfInBounds_toArray, List.set_cons_zero, List.set_cons_succ]; rfl)) (hJ5 (J4) _ ⟨(by (with_reducible repeat (first | apply Kd.S_alloc | apply Kd.S_drewN | apply Kd.S_drew)); exact J5.out), (by (with_reducible repeat (first | apply Kd.S_alloc | apply Kd.S_drewN | apply Kd.S_drew)); exact J6.out), (by (with_reducible repeat (first | refine blk_drewN ?_ _ | refine blk_drew ?_ | refine blk_alloc ?_ _)); exact J0.out), (by (with_reducible repeat (first | refine blk_drewN ?_ _ | refine blk_drew ?_ | refine blk_alloc ?_ _)); exact J3.out), (by (with_reducible repeat (first | refine blk_drewN ?_ _ | refine blk_drew ?_ | refine blk_alloc ?_ _)); exact J7.out), Jn.out, Jf.out, Ja.out, Jc.out, Jb.out, Jd.out, (by repeat (first | (with_reducible first | exact HB.out | apply below_alloc | apply pw_below_drewN | apply below_drew1 | refine below_set ?_ J8.out | refine below_set ?_ J9.out | refine below_set ?_ Jf.out) | exact HB.out))⟩)
                          · skip
                            rintro J4 w15 ⟨h0_, h1_, h2_, h3_, h4_, h5_, h6_, h7_, h8_, h9_, h10_, h11_⟩
                            have n0_ : Aside0 (Kd.S k243 243 w15 w.heap.size (fun _ => True) (.slice Ao10 t164.length co10) t164) := ⟨h0_⟩
                            have n1_ : Aside0 (Kd.S k189 189 w15 w.heap.size (fun _ => True) (.slice Ao11 t167.length co11) t167) := ⟨h1_⟩
                            have n2_ : Aside0 (w15.heap[J1]? = some (.cells #[.int .i64 0, .int .i64 0, .slice none 0 0, .int .i64 0, .int .i64 0, .slice none 0 0, .slice none 0 0, .slice none 0 0] 30 (0, 0))) := ⟨h2_⟩
                            have n3_ : Aside0 (w15.heap[J2]? = some (.cells #[.int .i64 t160, .int .i64 t161, .int .i64 t162, .int .i64 t163, .slice Ao10 t164.length co10, .slice Ao11 t167.length co11] 114 (0, 0))) := ⟨h3_⟩
                            have n4_ : Aside0 (w15.heap[J4]? = some (.cells #[.int .i64 0, .int .i64 0, .slice none 0 0, .slice none 0 0, .slice none 0 0] 28 (0, 0))) := ⟨h4_⟩
                            have n5_ : Aside0 (w.heap.size ≤ J4) := ⟨h5_⟩
                            have n6_ : Aside0 (w.heap.size ≤ J4) := ⟨h6_⟩
                            have n7_ : Aside0 (J1 ≠ J4) := ⟨h7_⟩
                            have n8_ : Aside0 (J4 ≠ J1) := ⟨h8_⟩
                            have n9_ : Aside0 (J2 ≠ J4) := ⟨h9_⟩
                            have n10_ : Aside0 (J4 ≠ J2) := ⟨h10_⟩
                            have n11_ : Aside0 (Below w.heap.size w w15) := ⟨h11_⟩
                            clear J5
                            clear J6
                            clear J0
                            clear J3
                            clear HB
                            clear h0_ h1_ h2_ h3_ h4_ h5_ h6_ h7_ h8_ h9_ h10_ h11_
                            have J5 := n0_
                            have J6 := n1_
                            have J0 := n2_
                            have J3 := n3_
                            have J7 := n4_
                            have Jn := n5_
                            have Jf := n6_
                            have Ja := n7_
                            have Jc := n8_
                            have Jb := n9_
                            have Jd := n10_
                            have HB := n11_
                            clear n0_ n1_ n2_ n3_ n4_ n5_ n6_ n7_ n8_ n9_ n10_ n11_
                            have hHeld := trivial
                            refine norm_ (a' := ?_) ?_ ?_
                            rotate_left
                            · simp only [putAll, Act.put, List.setIfInBounds_toArray, List.set_cons_zero, List.set_cons_succ]
                              rfl
                            refine two_ (i := 0) (j := 3) (Ni := some 14) (Nj := some 17) #[true, true, false, false, false, true, false] #[false, true, false, true, false, true, false] rfl rfl rfl rfl (by kernel_rfl) (by decide) (by decide) (fun K hK => ?_) (fun K hK => ?_)
                            · skip
                              refine Kd.R_lit_step k118 _ 118 ?hg (N := 14) ?hd (xs := ([] : List (S118))) (inner := []) (ok := fun _ => True) (okp := fun _ => True) ?hr ?hp (fun _ hk => hk) trivial (Below.refl _ _) (Nat.le_refl _) (by simp) ?_; (case hd => rfl); (case hg => rfl); (case hr => first | (go_simp; done) | (go_simp; rfl)); (case hp => exact (Reps.none _ _))
                              intro v188 w16 ho17 hb hg_ hnew_
                              clear hg_ hnew_
                              (first | rw [← Ny187.out] at ho17 | (simp only [Int.reduceToNat] at ho17; rw [← Ny187.out] at ho17))
                              have n0_ := Aside0.mk (Kd.S_below (by (with_reducible repeat (first | apply Kd.S_alloc | apply Kd.S_drewN | apply Kd.S_drew)); exact J5.out) hb)
                              have n1_ := Aside0.mk (Kd.S_below (by (with_reducible repeat (first | apply Kd.S_alloc | apply Kd.S_drewN | apply Kd.S_drew)); exact J6.out) hb)
                              have n2_ := Aside0.mk (Kd.R_lower ho17 (below_size (by repeat (first | (with_reducible first | exact HB.out | apply below_alloc | apply pw_below_drewN | apply below_drew1 | refine below_set ?_ J8.out | refine below_set ?_ J9.out | refine below_set ?_ Jf.out) | exact HB.out))))
                              have n3_ := Aside0.mk (blk_below (g := J1) (o := .cells #[.int .i64 0, .int .i64 0, .slice none 0 0, .int .i64 0, .int .i64 0, .slice none 0 0, .slice none 0 0, .slice none 0 0] 30 (0, 0)) (by (with_reducible repeat (first | refine blk_drewN ?_ _ | refine blk_drew ?_ | refine blk_alloc ?_ _)); exact J0.out) hb)
                              have n4_ := Aside0.mk (blk_below (g := J2) (o := .cells #[.int .i64 t160, .int .i64 t161, .int .i64 t162, .int .i64 t163, .slice Ao10 t164.length co10, .slice Ao11 t167.length co11] 114 (0, 0)) (by (with_reducible repeat (first | refine blk_drewN ?_ _ | refine blk_drew ?_ | refine blk_alloc ?_ _)); exact J3.out) hb)
                              have n5_ := Aside0.mk (blk_below (g := J4) (o := .cells #[.int .i64 0, .int .i64 0, .slice none 0 0, .slice none 0 0, .slice none 0 0] 28 (0, 0)) (by (with_reducible repeat (first | refine blk_drewN ?_ _ | refine blk_drew ?_ | refine blk_alloc ?_ _)); exact J7.out) hb)
                              have n6_ := Aside0.mk (below_step (by repeat (first | (with_reducible first | exact HB.out | apply below_alloc | apply pw_below_drewN | apply below_drew1 | refine below_set ?_ J8.out | refine below_set ?_ J9.out | refine below_set ?_ Jf.out) | exact HB.out)) hb)
                              clear J5
                              clear J6
                              clear J0
                              clear J3
                              clear J7
                              clear HB
                              have J5 := n0_
                              have J6 := n1_
                              have Je := n2_
                              have J0 := n3_
                              have J3 := n4_
                              have J7 := n5_
                              have HB := n6_
                              clear n0_ n1_ n2_ n3_ n4_ n5_ n6_
                              clear hb ho17
                              refine hK.out _ _ trivial (fun hHeld => ?_)
                              clear hK K
                              refine norm_ (a' := ?_) ?_ ?_
                              rotate_left
                              · show Act.put _ (some 14) _ = _
                                simp only [Act.put, List.setIfInBounds_toArray, List.set_cons_zero, List.set_cons_succ, i64_w, i32_w]
                                rfl
                              exact norm_ (by first | (simp only [putAll, Act.put, List.setIfInBounds_toArray, List.set_cons_zero, List.set_cons_succ]; done) | (simp only [putAll, Act.put, List.setIfInBounds_toArray, List.set_cons_zero, List.set_cons_succ]; rfl)) (hJ0_5 (v188, J4) _ ⟨(by (with_reducible repeat (first | apply Kd.S_alloc | apply Kd.S_drewN | apply Kd.S_drew)); exact J5.out), (by (with_reducible repeat (first | apply Kd.S_alloc | apply Kd.S_drewN | apply Kd.S_drew)); exact J6.out), (by (with_reducible repeat (first | apply Kd.R_alloc | apply Kd.R_drewN | apply Kd.R_drew)); exact Je.out), (by (with_reducible repeat (first | refine blk_drewN ?_ _ | refine blk_drew ?_ | refine blk_alloc ?_ _)); exact J0.out), (by (with_reducible repeat (first | refine blk_drewN ?_ _ | refine blk_drew ?_ | refine blk_alloc ?_ _)); exact J3.out), (by (with_reducible repeat (first | refine blk_drewN ?_ _ | refine blk_drew ?_ | refine blk_alloc ?_ _)); exact J7.out), Jn.out, Jf.out, Ja.out, Jc.out, Jb.out, Jd.out, (by repeat (first | (with_reducible first | exact HB.out | apply below_alloc | apply pw_below_drewN | apply below_drew1 | refine below_set ?_ J8.out | refine below_set ?_ J9.out | refine below_set ?_ Jf.out) | exact HB.out))⟩)
                            · skip
                              refine Kd.R_make_step (Kd.int .i64) _ 2 (by rfl) (N := 17) rfl 25 _ _ rfl 32 rfl rfl Try.underlying25 (.int .i64 0) 8 info2 rfl (by decide) (by omega) 0 (ok := fun _ => True) (okp := fun _ => True) rfl (fun _ hk => hk) trivial (by omega) (by omega) (Below.refl _ _) (Nat.le_refl _) ?_
                              intro v194 w16 ho17 hb hg_ hnew_
                              clear hg_ hnew_
                              (first | rw [← Ny193.out] at ho17 | (simp only [Int.reduceToNat] at ho17; rw [← Ny193.out] at ho17))
                              have n0_ := Aside0.mk (Kd.S_below (by (with_reducible repeat (first | apply Kd.S_alloc | apply Kd.S_drewN | apply Kd.S_drew)); exact J5.out) hb)
                              have n1_ := Aside0.mk (Kd.S_below (by (with_reducible repeat (first | apply Kd.S_alloc | apply Kd.S_drewN | apply Kd.S_drew)); exact J6.out) hb)
                              have n2_ := Aside0.mk (Kd.R_lower ho17 (below_size (by repeat (first | (with_reducible first | exact HB.out | apply below_alloc | apply pw_below_drewN | apply below_drew1 | refine below_set ?_ J8.out | refine below_set ?_ J9.out | refine below_set ?_ Jf.out) | exact HB.out))))
                              have n3_ := Aside0.mk (blk_below (g := J1) (o := .cells #[.int .i64 0, .int .i64 0, .slice none 0 0, .int .i64 0, .int .i64 0, .slice none 0 0, .slice none 0 0, .slice none 0 0] 30 (0, 0)) (by (with_reducible repeat (first | refine blk_drewN ?_ _ | refine blk_drew ?_ | refine blk_alloc ?_ _)); exact J0.out) hb)
                              have n4_ := Aside0.mk (blk_below (g := J2) (o := .cells #[.int .i64 t160, .int .i64 t161, .int .i64 t162, .int .i64 t163, .slice Ao10 t164.length co10, .slice Ao11 t167.length co11] 114 (0, 0)) (by (with_reducible repeat (first | refine blk_drewN ?_ _ | refine blk_drew ?_ | refine blk_alloc ?_ _)); exact J3.out) hb)
                              have n5_ := Aside0.mk (blk_below (g := J4) (o := .cells #[.int .i64 0, .int .i64 0, .slice none 0 0, .slice none 0 0, .slice none 0 0] 28 (0, 0)) (by (with_reducible repeat (first | refine blk_drewN ?_ _ | refine blk_drew ?_ | refine blk_alloc ?_ _)); exact J7.out) hb)
                              have n6_ := Aside0.mk (below_step (by repeat (first | (with_reducible first | exact HB.out | apply below_alloc | apply pw_below_drewN | apply below_drew1 | refine below_set ?_ J8.out | refine below_set ?_ J9.out | refine below_set ?_ Jf.out) | exact HB.out)) hb)
                              clear J5
                              clear J6
                              clear J0
                              clear J3
                              clear J7
                              clear HB
                              have J5 := n0_
                              have J6 := n1_
                              have Jg := n2_
                              have J0 := n3_
                              have J3 := n4_
                              have J7 := n5_
                              have HB := n6_
                              clear n0_ n1_ n2_ n3_ n4_ n5_ n6_
                              clear hb ho17
                              refine hK.out _ _ trivial (fun hHeld => ?_)
                              clear hK K
                              refine norm_ (a' := ?_) ?_ ?_
                              rotate_left
                              · show Act.put _ (some 17) _ = _
                                simp only [Act.put, List.setIfInBounds_toArray, List.set_cons_zero, List.set_cons_succ, i64_w, i32_w]
                                rfl
                              exact norm_ (by first | (simp only [putAll, Act.put, List.setIfInBounds_toArray, List.set_cons_zero, List.set_cons_succ]; done) | (simp only [putAll, Act.put, List.setIfInBounds_toArray, List.set_cons_zero, List.set_cons_succ]; rfl)) (hJ3_5 (v194, J4) _ ⟨(by (with_reducible repeat (first | apply Kd.S_alloc | apply Kd.S_drewN | apply Kd.S_drew)); exact J5.out), (by (with_reducible repeat (first | apply Kd.S_alloc | apply Kd.S_drewN | apply Kd.S_drew)); exact J6.out), (by (with_reducible repeat (first | apply Kd.R_alloc | apply Kd.R_drewN | apply Kd.R_drew)); exact Jg.out), (by (with_reducible repeat (first | refine blk_drewN ?_ _ | refine blk_drew ?_ | refine blk_alloc ?_ _)); exact J0.out), (by (with_reducible repeat (first | refine blk_drewN ?_ _ | refine blk_drew ?_ | refine blk_alloc ?_ _)); exact J3.out), (by (with_reducible repeat (first | refine blk_drewN ?_ _ | refine blk_drew ?_ | refine blk_alloc ?_ _)); exact J7.out), Jn.out, Jf.out, Ja.out, Jc.out, Jb.out, Jd.out, (by repeat (first | (with_reducible first | exact HB.out | apply below_alloc | apply pw_below_drewN | apply below_drew1 | refine below_set ?_ J8.out | refine below_set ?_ J9.out | refine below_set ?_ Jf.out) | exact HB.out))⟩)
                        · skip
                          rintro v194 w16 ⟨h0_, h1_, h2_, h3_, h4_, h5_⟩
                          have n0_ : Aside0 (Kd.S k243 243 w16 w.heap.size (fun _ => True) (.slice Ao10 t164.length co10) t164) := ⟨h0_⟩
                          have n1_ : Aside0 (Kd.S k189 189 w16 w.heap.size (fun _ => True) (.slice Ao11 t167.length co11) t167) := ⟨h1_⟩
                          have n2_ : Aside0 (Kd.R (Kd.int .i64) 2 w16 w.heap.size (fun _ => True) v194 y193) := ⟨h2_⟩
                          have n3_ : Aside0 (w16.heap[J1]? = some (.cells #[.int .i64 0, .int .i64 0, .slice none 0 0, .int .i64 0, .int .i64 0, .slice none 0 0, .slice none 0 0, .slice none 0 0] 30 (0, 0))) := ⟨h3_⟩
                          have n4_ : Aside0 (w16.heap[J2]? = some (.cells #[.int .i64 t160, .int .i64 t161, .int .i64 t162, .int .i64 t163, .slice Ao10 t164.length co10, .slice Ao11 t167.length co11] 114 (0, 0))) := ⟨h4_⟩
                          have n5_ : Aside0 (Below w.heap.size w w16) := ⟨h5_⟩
                          clear J5
                          clear J6
                          clear J0
                          clear J3
                          clear HB
                          clear h0_ h1_ h2_ h3_ h4_ h5_
                          have J5 := n0_
                          have J6 := n1_
                          have Jg := n2_
                          have J0 := n3_
                          have J3 := n4_
                          have HB := n5_
                          clear n0_ n1_ n2_ n3_ n4_ n5_
                          have hHeld := trivial
                          refine norm_ (a' := ?_) ?_ ?_
                          rotate_left
                          · simp only [putAll, Act.put, List.setIfInBounds_toArray, List.set_cons_zero, List.set_cons_succ]
                            rfl
                          refine two_ (i := 0) (j := 5) (Ni := some 14) (Nj := some 4) #[true, true, false, true, false, false, false] #[false, true, false, true, false, true, false] rfl rfl rfl rfl (by kernel_rfl) (by decide) (by decide) (fun K hK => ?_) (fun K hK => ?_)
                          · skip
                            refine Kd.R_lit_step k118 _ 118 ?hg (N := 14) ?hd (xs := ([] : List (S118))) (inner := []) (ok := fun _ => True) (okp := fun _ => True) ?hr ?hp (fun _ hk => hk) trivial (Below.refl _ _) (Nat.le_refl _) (by simp) ?_; (case hd => rfl); (case hg => rfl); (case hr => first | (go_simp; done) | (go_simp; rfl)); (case hp => exact (Reps.none _ _))
                            intro v188 w17 ho18 hb hg_ hnew_
                            clear hg_ hnew_
                            (first | rw [← Ny187.out] at ho18 | (simp only [Int.reduceToNat] at ho18; rw [← Ny187.out] at ho18))
                            have n0_ := Aside0.mk (Kd.S_below (by (with_reducible repeat (first | apply Kd.S_alloc | apply Kd.S_drewN | apply Kd.S_drew)); exact J5.out) hb)
                            have n1_ := Aside0.mk (Kd.S_below (by (with_reducible repeat (first | apply Kd.S_alloc | apply Kd.S_drewN | apply Kd.S_drew)); exact J6.out) hb)
                            have n2_ := Aside0.mk (Kd.R_below (by (with_reducible repeat (first | apply Kd.R_alloc | apply Kd.R_drewN | apply Kd.R_drew)); exact Jg.out) hb)
                            have n3_ := Aside0.mk (Kd.R_lower ho18 (below_size (by repeat (first | (with_reducible first | exact HB.out | apply below_alloc | apply pw_below_drewN | apply below_drew1 | refine below_set ?_ J8.out | refine below_set ?_ J9.out) | exact HB.out))))
                            have n4_ := Aside0.mk (blk_below (g := J1) (o := .cells #[.int .i64 0, .int .i64 0, .slice none 0 0, .int .i64 0, .int .i64 0, .slice none 0 0, .slice none 0 0, .slice none 0 0] 30 (0, 0)) (by (with_reducible repeat (first | refine blk_drewN ?_ _ | refine blk_drew ?_ | refine blk_alloc ?_ _)); exact J0.out) hb)
                            have n5_ := Aside0.mk (blk_below (g := J2) (o := .cells #[.int .i64 t160, .int .i64 t161, .int .i64 t162, .int .i64 t163, .slice Ao10 t164.length co10, .slice Ao11 t167.length co11] 114 (0, 0)) (by (with_reducible repeat (first | refine blk_drewN ?_ _ | refine blk_drew ?_ | refine blk_alloc ?_ _)); exact J3.out) hb)
                            have n6_ := Aside0.mk (below_step (by repeat (first | (with_reducible first | exact HB.out | apply below_alloc | apply pw_below_drewN | apply below_drew1 | refine below_set ?_ J8.out | refine below_set ?_ J9.out) | exact HB.out)) hb)
                            clear J5
                            clear J6
                            clear Jg
                            clear J0
                            clear J3
                            clear HB
                            have J5 := n0_
                            have J6 := n1_
                            have Jg := n2_
                            have Je := n3_
                            have J0 := n4_
                            have J3 := n5_
                            have HB := n6_
                            clear n0_ n1_ n2_ n3_ n4_ n5_ n6_
                            clear hb ho18
                            refine hK.out _ _ trivial (fun hHeld => ?_)
                            clear hK K
                            refine norm_ (a' := ?_) ?_ ?_
                            rotate_left
                            · show Act.put _ (some 14) _ = _
                              simp only [Act.put, List.setIfInBounds_toArray, List.set_cons_zero, List.set_cons_succ, i64_w, i32_w]
                              rfl
                            exact norm_ (by first | (simp only [putAll, Act.put, List.setIfInBounds_toArray, List.set_cons_zero, List.set_cons_succ]; done) | (simp only [putAll, Act.put, List.setIfInBounds_toArray, List.set_cons_zero, List.set_cons_succ]; rfl)) (hJ0_3 (v188, v194) _ ⟨(by (with_reducible repeat (first | apply Kd.S_alloc | apply Kd.S_drewN | apply Kd.S_drew)); exact J5.out), (by (with_reducible repeat (first | apply Kd.S_alloc | apply Kd.S_drewN | apply Kd.S_drew)); exact J6.out), (by (with_reducible repeat (first | apply Kd.R_alloc | apply Kd.R_drewN | apply Kd.R_drew)); exact Je.out), (by (with_reducible repeat (first | apply Kd.R_alloc | apply Kd.R_drewN | apply Kd.R_drew)); exact Jg.out), (by (with_reducible repeat (first | refine blk_drewN ?_ _ | refine blk_drew ?_ | refine blk_alloc ?_ _)); exact J0.out), (by (with_reducible repeat (first | refine blk_drewN ?_ _ | refine blk_drew ?_ | refine blk_alloc ?_ _)); exact J3.out), (by repeat (first | (with_reducible first | exact HB.out | apply below_alloc | apply pw_below_drewN | apply below_drew1 | refine below_set ?_ J8.out | refine below_set ?_ J9.out) | exact HB.out))⟩)
                          · skip
                            refine box_step ?hg (N := 4) ?hd (cs := #[.int .i64 0, .int .i64 0, .slice none 0 0, .slice none 0 0, .slice none 0 0]) (t := 28) ?hr ?_; (case hd => rfl); (case hg => rfl); (case hr => first | (go_simp; done) | (go_simp; rfl))
                            intro J4 hg w17 hbox hb
                            have n0_ := Aside0.mk (Kd.S_below (by (with_reducible repeat (first | apply Kd.S_alloc | apply Kd.S_drewN | apply Kd.S_drew)); exact J5.out) hb)
                            have n1_ := Aside0.mk (Kd.S_below (by (with_reducible repeat (first | apply Kd.S_alloc | apply Kd.S_drewN | apply Kd.S_drew)); exact J6.out) hb)
                            have n2_ := Aside0.mk (Kd.R_below (by (with_reducible repeat (first | apply Kd.R_alloc | apply Kd.R_drewN | apply Kd.R_drew)); exact Jg.out) hb)
                            have n3_ := Aside0.mk (blk_below (g := J1) (o := .cells #[.int .i64 0, .int .i64 0, .slice none 0 0, .int .i64 0, .int .i64 0, .slice none 0 0, .slice none 0 0, .slice none 0 0] 30 (0, 0)) (by (with_reducible repeat (first | refine blk_drewN ?_ _ | refine blk_drew ?_ | refine blk_alloc ?_ _)); exact J0.out) hb)
                            have n4_ := Aside0.mk (blk_below (g := J2) (o := .cells #[.int .i64 t160, .int .i64 t161, .int .i64 t162, .int .i64 t163, .slice Ao10 t164.length co10, .slice Ao11 t167.length co11] 114 (0, 0)) (by (with_reducible repeat (first | refine blk_drewN ?_ _ | refine blk_drew ?_ | refine blk_alloc ?_ _)); exact J3.out) hb)
                            have n5_ := Aside0.mk (below_step (by repeat (first | (with_reducible first | exact HB.out | apply below_alloc | apply pw_below_drewN | apply below_drew1 | refine below_set ?_ J8.out | refine below_set ?_ J9.out) | exact HB.out)) hb)
                            have n6_ := Aside0.mk (hbox)
                            have n7_ := Aside0.mk ((by rw [hg]; exact (below_size (by repeat (first | (with_reducible first | exact HB.out | apply below_alloc | apply pw_below_drewN | apply below_drew1 | refine below_set ?_ J8.out | refine below_set ?_ J9.out) | exact HB.out))) : w.heap.size ≤ J4))
                            have n8_ := Aside0.mk ((by rw [hg]; exact (below_size (by repeat (first | (with_reducible first | exact HB.out | apply below_alloc | apply pw_below_drewN | apply below_drew1 | refine below_set ?_ J8.out | refine below_set ?_ J9.out) | exact HB.out))) : w.heap.size ≤ J4))
                            have n9_ := Aside0.mk ((by rw [hg]; exact Nat.ne_of_lt (blk_lt (g := J1) (o := .cells #[.int .i64 0, .int .i64 0, .slice none 0 0, .int .i64 0, .int .i64 0, .slice none 0 0, .slice none 0 0, .slice none 0 0] 30 (0, 0)) (by (with_reducible repeat (first | refine blk_drewN ?_ _ | refine blk_drew ?_ | refine blk_alloc ?_ _)); exact J0.out)) : J1 ≠ J4))
                            have n10_ := Aside0.mk ((by rw [hg]; exact Nat.ne_of_gt (blk_lt (g := J1) (o := .cells #[.int .i64 0, .int .i64 0, .slice none 0 0, .int .i64 0, .int .i64 0, .slice none 0 0, .slice none 0 0, .slice none 0 0] 30 (0, 0)) (by (with_reducible repeat (first | refine blk_drewN ?_ _ | refine blk_drew ?_ | refine blk_alloc ?_ _)); exact J0.out)) : J4 ≠ J1))
                            have n11_ := Aside0.mk ((by rw [hg]; exact Nat.ne_of_lt (blk_lt (g := J2) (o := .cells #[.int .i64 t160, .int .i64 t161, .int .i64 t162, .int .i64 t163, .slice Ao10 t164.length co10, .slice Ao11 t167.length co11] 114 (0, 0)) (by (with_reducible repeat (first | refine blk_drewN ?_ _ | refine blk_drew ?_ | refine blk_alloc ?_ _)); exact J3.out)) : J2 ≠ J4))
                            have n12_ := Aside0.mk ((by rw [hg]; exact Nat.ne_of_gt (blk_lt (g := J2) (o := .cells #[.int .i64 t160, .int .i64 t161, .int .i64 t162, .int .i64 t163, .slice Ao10 t164.length co10, .slice Ao11 t167.length co11] 114 (0, 0)) (by (with_reducible repeat (first | refine blk_drewN ?_ _ | refine blk_drew ?_ | refine blk_alloc ?_ _)); exact J3.out)) : J4 ≠ J2))
                            clear J5
                            clear J6
                            clear Jg
                            clear J0
                            clear J3
                            clear HB
                            have J5 := n0_
                            have J6 := n1_
                            have Jg := n2_
                            have J0 := n3_
                            have J3 := n4_
                            have HB := n5_
                            have J7 := n6_
                            have Jn := n7_
                            have Jf := n8_
                            have Ja := n9_
                            have Jc := n10_
                            have Jb := n11_
                            have Jd := n12_
                            clear n0_ n1_ n2_ n3_ n4_ n5_ n6_ n7_ n8_ n9_ n10_ n11_ n12_
                            clear hb hbox hg
                            refine hK.out _ _ trivial (fun hHeld => ?_)
                            clear hK K
                            refine norm_ (a' := ?_) ?_ ?_
                            rotate_left
                            · show Act.put _ (some 4) _ = _
                              simp only [Act.put, List.setIfInBounds_toArray, List.set_cons_zero, List.set_cons_succ, i64_w, i32_w]
                              rfl
                            exact norm_ (by first | (simp only [putAll, Act.put, List.setIfInBounds_toArray, List.set_cons_zero, List.set_cons_succ]; done) | (simp only [putAll, Act.put, List.setIfInBounds_toArray, List.set_cons_zero, List.set_cons_succ]; rfl)) (hJ3_5 (v194, J4) _ ⟨(by (with_reducible repeat (first | apply Kd.S_alloc | apply Kd.S_drewN | apply Kd.S_drew)); exact J5.out), (by (with_reducible repeat (first | apply Kd.S_alloc | apply Kd.S_drewN | apply Kd.S_drew)); exact J6.out), (by (with_reducible repeat (first | apply Kd.R_alloc | apply Kd.R_drewN | apply Kd.R_drew)); exact Jg.out), (by (with_reducible repeat (first | refine blk_drewN ?_ _ | refine blk_drew ?_ | refine blk_alloc ?_ _)); exact J0.out), (by (with_reducible repeat (first | refine blk_drewN ?_ _ | refine blk_drew ?_ | refine blk_alloc ?_ _)); exact J3.out), (by (with_reducible repeat (first | refine blk_drewN ?_ _ | refine blk_drew ?_ | refine blk_alloc ?_ _)); exact J7.out), Jn.out, Jf.out, Ja.out, Jc.out, Jb.out, Jd.out, (by repeat (first | (with_reducible first | exact HB.out | apply below_alloc | apply pw_below_drewN | apply below_drew1 | refine below_set ?_ J8.out | refine below_set ?_ J9.out | refine below_set ?_ Jf.out) | exact HB.out))⟩)
                      · skip
                        rintro v188 w16 ⟨h0_, h1_, h2_, h3_, h4_, h5_⟩
                        have n0_ : Aside0 (Kd.S k243 243 w16 w.heap.size (fun _ => True) (.slice Ao10 t164.length co10) t164) := ⟨h0_⟩
                        have n1_ : Aside0 (Kd.S k189 189 w16 w.heap.size (fun _ => True) (.slice Ao11 t167.length co11) t167) := ⟨h1_⟩
                        have n2_ : Aside0 (Kd.R k118 118 w16 w.heap.size (fun _ => True) v188 y187) := ⟨h2_⟩
                        have n3_ : Aside0 (w16.heap[J1]? = some (.cells #[.int .i64 0, .int .i64 0, .slice none 0 0, .int .i64 0, .int .i64 0, .slice none 0 0, .slice none 0 0, .slice none 0 0] 30 (0, 0))) := ⟨h3_⟩
                        have n4_ : Aside0 (w16.heap[J2]? = some (.cells #[.int .i64 t160, .int .i64 t161, .int .i64 t162, .int .i64 t163, .slice Ao10 t164.length co10, .slice Ao11 t167.length co11] 114 (0, 0))) := ⟨h4_⟩
                        have n5_ : Aside0 (Below w.heap.size w w16) := ⟨h5_⟩
                        clear J5
                        clear J6
                        clear J0
                        clear J3
                        clear HB
                        clear h0_ h1_ h2_ h3_ h4_ h5_
                        have J5 := n0_
                        have J6 := n1_
                        have Je := n2_
                        have J0 := n3_
                        have J3 := n4_
                        have HB := n5_
                        clear n0_ n1_ n2_ n3_ n4_ n5_
                        have hHeld := trivial
                        refine norm_ (a' := ?_) ?_ ?_
                        rotate_left
                        · simp only [putAll, Act.put, List.setIfInBounds_toArray, List.set_cons_zero, List.set_cons_succ]
                          rfl
                        refine three_ (i := 2) (j := 3) (k := 5) (Ni := some 16) (Nj := some 17) (Nk := some 4) #[true, true, true, false, false, false, false] #[true, true, false, true, false, false, false] #[true, true, false, false, false, true, false] rfl rfl rfl rfl rfl rfl (by kernel_rfl) (by decide) (by decide) (by decide) (fun K hK => ?_) (fun K hK => ?_) (fun K hK => ?_)
                        · skip
                          refine Kd.R_append_rows_step k118 (w0 := w) w.heap.size (by rfl) (.tmp 14) (.tmp 15) 24 118 (.agg #[(.int .i64 0), (.int .i64 0)]) 16 rfl Try.underlying24 info118 rfl (by decide) (by omega) v188 y187 l0 _ _ _ (fun _ => True) (fun _ => False) rfl rfl ?aO ?aR (fun _ _ h => h) (fun _ h => h.elim) ?aF ?aB ?aS ?aL ?_
                          (case aR => repeat (first | exact (Kd.C_below HR0.out HB.out) | (with_reducible refine Kd.C_alloc ?_ _) | (with_reducible refine Kd.C_drewN ?_ _) | (with_reducible refine Kd.C_drew ?_)))
                          (case aB => exact (by repeat (first | (with_reducible first | exact HB.out | apply below_alloc | apply pw_below_drewN | apply below_drew1 | refine below_set ?_ J8.out | refine below_set ?_ J9.out) | exact HB.out)))
                          (case aF => exact (fun _ _ => trivial))
                          (case aO => exact (by (with_reducible repeat (first | apply Kd.R_alloc | apply Kd.R_drewN | apply Kd.R_drew)); exact Je.out))
                          (case aS => exact (below_size (by repeat (first | (with_reducible first | exact HB.out | apply below_alloc | apply pw_below_drewN | apply below_drew1 | refine below_set ?_ J8.out | refine below_set ?_ J9.out) | exact HB.out))))
                          (case aL => have := LMc4.out; omega)
                          intro v191 w17 ho hb hg hat
                          rw [← Ny190.out] at ho
                          have n0_ := Aside0.mk (blk_grown (g := J1) (o := .cells #[.int .i64 0, .int .i64 0, .slice none 0 0, .int .i64 0, .int .i64 0, .slice none 0 0, .slice none 0 0, .slice none 0 0] 30 (0, 0)) (by (with_reducible repeat (first | refine blk_drewN ?_ _ | refine blk_drew ?_ | refine blk_alloc ?_ _)); exact J0.out) hg (Kd.R_ne Je.out J0.out (by decide)))
                          have n1_ := Aside0.mk (Kd.S_over' (by (with_reducible repeat (first | apply Kd.S_alloc | apply Kd.S_drewN | apply Kd.S_drew)); exact J5.out) (Kd.R_typed (by (with_reducible repeat (first | apply Kd.R_alloc | apply Kd.R_drewN | apply Kd.R_drew)); exact Je.out)) (by decide) hg)
                          have n2_ := Aside0.mk (Kd.S_over' (by (with_reducible repeat (first | apply Kd.S_alloc | apply Kd.S_drewN | apply Kd.S_drew)); exact J6.out) (Kd.R_typed (by (with_reducible repeat (first | apply Kd.R_alloc | apply Kd.R_drewN | apply Kd.R_drew)); exact Je.out)) (by decide) hg)
                          have n3_ := Aside0.mk (blk_grown (g := J2) (o := .cells #[.int .i64 t160, .int .i64 t161, .int .i64 t162, .int .i64 t163, .slice Ao10 t164.length co10, .slice Ao11 t167.length co11] 114 (0, 0)) (by (with_reducible repeat (first | refine blk_drewN ?_ _ | refine blk_drew ?_ | refine blk_alloc ?_ _)); exact J3.out) hg (Kd.R_ne Je.out J3.out (by decide)))
                          have n4_ := Aside0.mk (hb)
                          have n5_ := Aside0.mk (ho)
                          clear J0
                          clear J5
                          clear J6
                          clear J3
                          clear HB
                          clear Je
                          have J0 := n0_
                          have J5 := n1_
                          have J6 := n2_
                          have J3 := n3_
                          have HB := n4_
                          have Jh := n5_
                          clear n0_ n1_ n2_ n3_ n4_ n5_
                          clear ho hb hg hat
                          refine hK.out _ _ trivial (fun hHeld => ?_)
                          clear hK K
                          refine norm_ (a' := ?_) ?_ ?_
                          rotate_left
                          · show Act.put _ (some 16) _ = _
                            simp only [Act.put, List.setIfInBounds_toArray, List.set_cons_zero, List.set_cons_succ, i64_w, i32_w]
                            rfl
                          exact norm_ (by first | (simp only [putAll, Act.put, List.setIfInBounds_toArray, List.set_cons_zero, List.set_cons_succ]; done) | (simp only [putAll, Act.put, List.setIfInBounds_toArray, List.set_cons_zero, List.set_cons_succ]; rfl)) (hJ0_2 (v188, v191) _ ⟨(by (with_reducible repeat (first | apply Kd.S_alloc | apply Kd.S_drewN | apply Kd.S_drew)); exact J5.out), (by (with_reducible repeat (first | apply Kd.S_alloc | apply Kd.S_drewN | apply Kd.S_drew)); exact J6.out), (by (with_reducible repeat (first | apply Kd.R_alloc | apply Kd.R_drewN | apply Kd.R_drew)); exact Jh.out), (by (with_reducible repeat (first | refine blk_drewN ?_ _ | refine blk_drew ?_ | refine blk_alloc ?_ _)); exact J0.out), (by (with_reducible repeat (first | refine blk_drewN ?_ _ | refine blk_drew ?_ | refine blk_alloc ?_ _)); exact J3.out), (by repeat (first | (with_reducible first | exact HB.out | apply below_alloc | apply pw_below_drewN | apply below_drew1 | refine below_set ?_ J8.out | refine below_set ?_ J9.out) | exact HB.out))⟩)
                        · skip
                          refine Kd.R_make_step (Kd.int .i64) _ 2 (by rfl) (N := 17) rfl 25 _ _ rfl 32 rfl rfl Try.underlying25 (.int .i64 0) 8 info2 rfl (by decide) (by omega) 0 (ok := fun _ => True) (okp := fun _ => True) rfl (fun _ hk => hk) trivial (by omega) (by omega) (Below.refl _ _) (Nat.le_refl _) ?_
                          intro v194 w17 ho18 hb hg_ hnew_
                          clear hg_ hnew_
                          (first | rw [← Ny193.out] at ho18 | (simp only [Int.reduceToNat] at ho18; rw [← Ny193.out] at ho18))
                          have n0_ := Aside0.mk (Kd.S_below (by (with_reducible repeat (first | apply Kd.S_alloc | apply Kd.S_drewN | apply Kd.S_drew)); exact J5.out) hb)
                          have n1_ := Aside0.mk (Kd.S_below (by (with_reducible repeat (first | apply Kd.S_alloc | apply Kd.S_drewN | apply Kd.S_drew)); exact J6.out) hb)
                          have n2_ := Aside0.mk (Kd.R_below (by (with_reducible repeat (first | apply Kd.R_alloc | apply Kd.R_drewN | apply Kd.R_drew)); exact Je.out) hb)
                          have n3_ := Aside0.mk (Kd.R_lower ho18 (below_size (by repeat (first | (with_reducible first | exact HB.out | apply below_alloc | apply pw_below_drewN | apply below_drew1 | refine below_set ?_ J8.out | refine below_set ?_ J9.out) | exact HB.out))))
                          have n4_ := Aside0.mk (blk_below (g := J1) (o := .cells #[.int .i64 0, .int .i64 0, .slice none 0 0, .int .i64 0, .int .i64 0, .slice none 0 0, .slice none 0 0, .slice none 0 0] 30 (0, 0)) (by (with_reducible repeat (first | refine blk_drewN ?_ _ | refine blk_drew ?_ | refine blk_alloc ?_ _)); exact J0.out) hb)
                          have n5_ := Aside0.mk (blk_below (g := J2) (o := .cells #[.int .i64 t160, .int .i64 t161, .int .i64 t162, .int .i64 t163, .slice Ao10 t164.length co10, .slice Ao11 t167.length co11] 114 (0, 0)) (by (with_reducible repeat (first | refine blk_drewN ?_ _ | refine blk_drew ?_ | refine blk_alloc ?_ _)); exact J3.out) hb)
                          have n6_ := Aside0.mk (below_step (by repeat (first | (with_reducible first | exact HB.out | apply below_alloc | apply pw_below_drewN | apply below_drew1 | refine below_set ?_ J8.out | refine below_set ?_ J9.out) | exact HB.out)) hb)
                          clear J5
                          clear J6
                          clear Je
                          clear J0
                          clear J3
                          clear HB
                          have J5 := n0_
                          have J6 := n1_
                          have Je := n2_
                          have Jg := n3_
                          have J0 := n4_
                          have J3 := n5_
                          have HB := n6_
                          clear n0_ n1_ n2_ n3_ n4_ n5_ n6_
                          clear hb ho18
                          refine hK.out _ _ trivial (fun hHeld => ?_)
                          clear hK K
                          refine norm_ (a' := ?_) ?_ ?_
                          rotate_left
                          · show Act.put _ (some 17) _ = _
                            simp only [Act.put, List.setIfInBounds_toArray, List.set_cons_zero, List.set_cons_succ, i64_w, i32_w]
                            rfl
                          exact norm_ (by first | (simp only [putAll, Act.put, List.setIfInBounds_toArray, List.set_cons_zero, List.set_cons_succ]; done) | (simp only [putAll, Act.put, List.setIfInBounds_toArray, List.set_cons_zero, List.set_cons_succ]; rfl)) (hJ0_3 (v188, v194) _ ⟨(by (with_reducible repeat (first | apply Kd.S_alloc | apply Kd.S_drewN | apply Kd.S_drew)); exact J5.out), (by (with_reducible repeat (first | apply Kd.S_alloc | apply Kd.S_drewN | apply Kd.S_drew)); exact J6.out), (by (with_reducible repeat (first | apply Kd.R_alloc | apply Kd.R_drewN | apply Kd.R_drew)); exact Je.out), (by (with_reducible repeat (first | apply Kd.R_alloc | apply Kd.R_drewN | apply Kd.R_drew)); exact Jg.out), (by (with_reducible repeat (first | refine blk_drewN ?_ _ | refine blk_drew ?_ | refine blk_alloc ?_ _)); exact J0.out), (by (with_reducible repeat (first | refine blk_drewN ?_ _ | refine blk_drew ?_ | refine blk_alloc ?_ _)); exact J3.out), (by repeat (first | (with_reducible first | exact HB.out | apply below_alloc | apply pw_below_drewN | apply below_drew1 | refine below_set ?_ J8.out | refine below_set ?_ J9.out) | exact HB.out))⟩)
                        · skip
                          refine box_step ?hg (N := 4) ?hd (cs := #[.int .i64 0, .int .i64 0, .slice none 0 0, .slice none 0 0, .slice none 0 0]) (t := 28) ?hr ?_; (case hd => rfl); (case hg => rfl); (case hr => first | (go_simp; done) | (go_simp; rfl))
                          intro J4 hg w17 hbox hb
                          have n0_ := Aside0.mk (Kd.S_below (by (with_reducible repeat (first | apply Kd.S_alloc | apply Kd.S_drewN | apply Kd.S_drew)); exact J5.out) hb)
                          have n1_ := Aside0.mk (Kd.S_below (by (with_reducible repeat (first | apply Kd.S_alloc | apply Kd.S_drewN | apply Kd.S_drew)); exact J6.out) hb)
                          have n2_ := Aside0.mk (Kd.R_below (by (with_reducible repeat (first | apply Kd.R_alloc | apply Kd.R_drewN | apply Kd.R_drew)); exact Je.out) hb)
                          have n3_ := Aside0.mk (blk_below (g := J1) (o := .cells #[.int .i64 0, .int .i64 0, .slice none 0 0, .int .i64 0, .int .i64 0, .slice none 0 0, .slice none 0 0, .slice none 0 0] 30 (0, 0)) (by (with_reducible repeat (first | refine blk_drewN ?_ _ | refine blk_drew ?_ | refine blk_alloc ?_ _)); exact J0.out) hb)
                          have n4_ := Aside0.mk (blk_below (g := J2) (o := .cells #[.int .i64 t160, .int .i64 t161, .int .i64 t162, .int .i64 t163, .slice Ao10 t164.length co10, .slice Ao11 t167.length co11] 114 (0, 0)) (by (with_reducible repeat (first | refine blk_drewN ?_ _ | refine blk_drew ?_ | refine blk_alloc ?_ _)); exact J3.out) hb)
                          have n5_ := Aside0.mk (below_step (by repeat (first | (with_reducible first | exact HB.out | apply below_alloc | apply pw_below_drewN | apply below_drew1 | refine below_set ?_ J8.out | refine below_set ?_ J9.out) | exact HB.out)) hb)
                          have n6_ := Aside0.mk (hbox)
                          have n7_ := Aside0.mk ((by rw [hg]; exact (below_size (by repeat (first | (with_reducible first | exact HB.out | apply below_alloc | apply pw_below_drewN | apply below_drew1 | refine below_set ?_ J8.out | refine below_set ?_ J9.out) | exact HB.out))) : w.heap.size ≤ J4))
                          have n8_ := Aside0.mk ((by rw [hg]; exact (below_size (by repeat (first | (with_reducible first | exact HB.out | apply below_alloc | apply pw_below_drewN | apply below_drew1 | refine below_set ?_ J8.out | refine below_set ?_ J9.out) | exact HB.out))) : w.heap.size ≤ J4))
                          have n9_ := Aside0.mk ((by rw [hg]; exact Nat.ne_of_lt (blk_lt (g := J1) (o := .cells #[.int .i64 0, .int .i64 0, .slice none 0 0, .int .i64 0, .int .i64 0, .slice none 0 0, .slice none 0 0, .slice none 0 0] 30 (0, 0)) (by (with_reducible repeat (first | refine blk_drewN ?_ _ | refine blk_drew ?_ | refine blk_alloc ?_ _)); exact J0.out)) : J1 ≠ J4))
                          have n10_ := Aside0.mk ((by rw [hg]; exact Nat.ne_of_gt (blk_lt (g := J1) (o := .cells #[.int .i64 0, .int .i64 0, .slice none 0 0, .int .i64 0, .int .i64 0, .slice none 0 0, .slice none 0 0, .slice none 0 0] 30 (0, 0)) (by (with_reducible repeat (first | refine blk_drewN ?_ _ | refine blk_drew ?_ | refine blk_alloc ?_ _)); exact J0.out)) : J4 ≠ J1))
                          have n11_ := Aside0.mk ((by rw [hg]; exact Nat.ne_of_lt (blk_lt (g := J2) (o := .cells #[.int .i64 t160, .int .i64 t161, .int .i64 t162, .int .i64 t163, .slice Ao10 t164.length co10, .slice Ao11 t167.length co11] 114 (0, 0)) (by (with_reducible repeat (first | refine blk_drewN ?_ _ | refine blk_drew ?_ | refine blk_alloc ?_ _)); exact J3.out)) : J2 ≠ J4))
                          have n12_ := Aside0.mk ((by rw [hg]; exact Nat.ne_of_gt (blk_lt (g := J2) (o := .cells #[.int .i64 t160, .int .i64 t161, .int .i64 t162, .int .i64 t163, .slice Ao10 t164.length co10, .slice Ao11 t167.length co11] 114 (0, 0)) (by (with_reducible repeat (first | refine blk_drewN ?_ _ | refine blk_drew ?_ | refine blk_alloc ?_ _)); exact J3.out)) : J4 ≠ J2))
                          clear J5
                          clear J6
                          clear Je
                          clear J0
                          clear J3
                          clear HB
                          have J5 := n0_
                          have J6 := n1_
                          have Je := n2_
                          have J0 := n3_
                          have J3 := n4_
                          have HB := n5_
                          have J7 := n6_
                          have Jn := n7_
                          have Jf := n8_
                          have Ja := n9_
                          have Jc := n10_
                          have Jb := n11_
                          have Jd := n12_
                          clear n0_ n1_ n2_ n3_ n4_ n5_ n6_ n7_ n8_ n9_ n10_ n11_ n12_
                          clear hb hbox hg
                          refine hK.out _ _ trivial (fun hHeld => ?_)
                          clear hK K
                          refine norm_ (a' := ?_) ?_ ?_
                          rotate_left
                          · show Act.put _ (some 4) _ = _
                            simp only [Act.put, List.setIfInBounds_toArray, List.set_cons_zero, List.set_cons_succ, i64_w, i32_w]
                            rfl
                          exact norm_ (by first | (simp only [putAll, Act.put, List.setIfInBounds_toArray, List.set_cons_zero, List.set_cons_succ]; done) | (simp only [putAll, Act.put, List.setIfInBounds_toArray, List.set_cons_zero, List.set_cons_succ]; rfl)) (hJ0_5 (v188, J4) _ ⟨(by (with_reducible repeat (first | apply Kd.S_alloc | apply Kd.S_drewN | apply Kd.S_drew)); exact J5.out), (by (with_reducible repeat (first | apply Kd.S_alloc | apply Kd.S_drewN | apply Kd.S_drew)); exact J6.out), (by (with_reducible repeat (first | apply Kd.R_alloc | apply Kd.R_drewN | apply Kd.R_drew)); exact Je.out), (by (with_reducible repeat (first | refine blk_drewN ?_ _ | refine blk_drew ?_ | refine blk_alloc ?_ _)); exact J0.out), (by (with_reducible repeat (first | refine blk_drewN ?_ _ | refine blk_drew ?_ | refine blk_alloc ?_ _)); exact J3.out), (by (with_reducible repeat (first | refine blk_drewN ?_ _ | refine blk_drew ?_ | refine blk_alloc ?_ _)); exact J7.out), Jn.out, Jf.out, Ja.out, Jc.out, Jb.out, Jd.out, (by repeat (first | (with_reducible first | exact HB.out | apply below_alloc | apply pw_below_drewN | apply below_drew1 | refine below_set ?_ J8.out | refine below_set ?_ J9.out | refine below_set ?_ Jf.out) | exact HB.out))⟩)
                    · skip
                      rintro ⟨v194, J4⟩ w17 ⟨h0_, h1_, h2_, h3_, h4_, h5_, h6_, h7_, h8_, h9_, h10_, h11_, h12_⟩
                      have n0_ : Aside0 (Kd.S k243 243 w17 w.heap.size (fun _ => True) (.slice Ao10 t164.length co10) t164) := ⟨h0_⟩
                      have n1_ : Aside0 (Kd.S k189 189 w17 w.heap.size (fun _ => True) (.slice Ao11 t167.length co11) t167) := ⟨h1_⟩
                      have n2_ : Aside0 (Kd.R (Kd.int .i64) 2 w17 w.heap.size (fun _ => True) v194 y193) := ⟨h2_⟩
                      have n3_ : Aside0 (w17.heap[J1]? = some (.cells #[.int .i64 0, .int .i64 0, .slice none 0 0, .int .i64 0, .int .i64 0, .slice none 0 0, .slice none 0 0, .slice none 0 0] 30 (0, 0))) := ⟨h3_⟩
                      have n4_ : Aside0 (w17.heap[J2]? = some (.cells #[.int .i64 t160, .int .i64 t161, .int .i64 t162, .int .i64 t163, .slice Ao10 t164.length co10, .slice Ao11 t167.length co11] 114 (0, 0))) := ⟨h4_⟩
                      have n5_ : Aside0 (w17.heap[J4]? = some (.cells #[.int .i64 0, .int .i64 0, .slice none 0 0, .slice none 0 0, .slice none 0 0] 28 (0, 0))) := ⟨h5_⟩
                      have n6_ : Aside0 (w.heap.size ≤ J4) := ⟨h6_⟩
                      have n7_ : Aside0 (w.heap.size ≤ J4) := ⟨h7_⟩
                      have n8_ : Aside0 (J1 ≠ J4) := ⟨h8_⟩
                      have n9_ : Aside0 (J4 ≠ J1) := ⟨h9_⟩
                      have n10_ : Aside0 (J2 ≠ J4) := ⟨h10_⟩
                      have n11_ : Aside0 (J4 ≠ J2) := ⟨h11_⟩
                      have n12_ : Aside0 (Below w.heap.size w w17) := ⟨h12_⟩
                      clear J5
                      clear J6
                      clear J0
                      clear J3
                      clear HB
                      clear h0_ h1_ h2_ h3_ h4_ h5_ h6_ h7_ h8_ h9_ h10_ h11_ h12_
                      have J5 := n0_
                      have J6 := n1_
                      have Jg := n2_
                      have J0 := n3_
                      have J3 := n4_
                      have J7 := n5_
                      have Jn := n6_
                      have Jf := n7_
                      have Ja := n8_
                      have Jc := n9_
                      have Jb := n10_
                      have Jd := n11_
                      have HB := n12_
                      clear n0_ n1_ n2_ n3_ n4_ n5_ n6_ n7_ n8_ n9_ n10_ n11_ n12_
                      have hHeld := trivial
                      refine norm_ (a' := ?_) ?_ ?_
                      rotate_left
                      · simp only [putAll, Act.put, List.setIfInBounds_toArray, List.set_cons_zero, List.set_cons_succ]
                        rfl
                      refine one_ (i := 0) (N := some 14) #[true, true, false, true, false, true, false] rfl rfl (by kernel_rfl) (by decide) (fun K hK => ?_)
                      refine Kd.R_lit_step k118 _ 118 ?hg (N := 14) ?hd (xs := ([] : List (S118))) (inner := []) (ok := fun _ => True) (okp := fun _ => True) ?hr ?hp (fun _ hk => hk) trivial (Below.refl _ _) (Nat.le_refl _) (by simp) ?_; (case hd => rfl); (case hg => rfl); (case hr => first | (go_simp; done) | (go_simp; rfl)); (case hp => exact (Reps.none _ _))
                      intro v188 w18 ho19 hb hg_ hnew_
                      clear hg_ hnew_
                      (first | rw [← Ny187.out] at ho19 | (simp only [Int.reduceToNat] at ho19; rw [← Ny187.out] at ho19))
                      have n0_ := Aside0.mk (Kd.S_below (by (with_reducible repeat (first | apply Kd.S_alloc | apply Kd.S_drewN | apply Kd.S_drew)); exact J5.out) hb)
                      have n1_ := Aside0.mk (Kd.S_below (by (with_reducible repeat (first | apply Kd.S_alloc | apply Kd.S_drewN | apply Kd.S_drew)); exact J6.out) hb)
                      have n2_ := Aside0.mk (Kd.R_below (by (with_reducible repeat (first | apply Kd.R_alloc | apply Kd.R_drewN | apply Kd.R_drew)); exact Jg.out) hb)
                      have n3_ := Aside0.mk (Kd.R_lower ho19 (below_size (by repeat (first | (with_reducible first | exact HB.out | apply below_alloc | apply pw_below_drewN | apply below_drew1 | refine below_set ?_ J8.out | refine below_set ?_ J9.out | refine below_set ?_ Jf.out) | exact HB.out))))
                      have n4_ := Aside0.mk (blk_below (g := J1) (o := .cells #[.int .i64 0, .int .i64 0, .slice none 0 0, .int .i64 0, .int .i64 0, .slice none 0 0, .slice none 0 0, .slice none 0 0] 30 (0, 0)) (by (with_reducible repeat (first | refine blk_drewN ?_ _ | refine blk_drew ?_ | refine blk_alloc ?_ _)); exact J0.out) hb)
                      have n5_ := Aside0.mk (blk_below (g := J2) (o := .cells #[.int .i64 t160, .int .i64 t161, .int .i64 t162, .int .i64 t163, .slice Ao10 t164.length co10, .slice Ao11 t167.length co11] 114 (0, 0)) (by (with_reducible repeat (first | refine blk_drewN ?_ _ | refine blk_drew ?_ | refine blk_alloc ?_ _)); exact J3.out) hb)
                      have n6_ := Aside0.mk (blk_below (g := J4) (o := .cells #[.int .i64 0, .int .i64 0, .slice none 0 0, .slice none 0 0, .slice none 0 0] 28 (0, 0)) (by (with_reducible repeat (first | refine blk_drewN ?_ _ | refine blk_drew ?_ | refine blk_alloc ?_ _)); exact J7.out) hb)
                      have n7_ := Aside0.mk (below_step (by repeat (first | (with_reducible first | exact HB.out | apply below_alloc | apply pw_below_drewN | apply below_drew1 | refine below_set ?_ J8.out | refine below_set ?_ J9.out | refine below_set ?_ Jf.out) | exact HB.out)) hb)
                      clear J5
                      clear J6
                      clear Jg
                      clear J0
                      clear J3
                      clear J7
                      clear HB
                      have J5 := n0_
                      have J6 := n1_
                      have Jg := n2_
                      have Je := n3_
                      have J0 := n4_
                      have J3 := n5_
                      have J7 := n6_
                      have HB := n7_
                      clear n0_ n1_ n2_ n3_ n4_ n5_ n6_ n7_
                      clear hb ho19
                      refine hK.out _ _ trivial (fun hHeld => ?_)
                      clear hK K
                      refine norm_ (a' := ?_) ?_ ?_
                      rotate_left
                      · show Act.put _ (some 14) _ = _
                        simp only [Act.put, List.setIfInBounds_toArray, List.set_cons_zero, List.set_cons_succ, i64_w, i32_w]
                        rfl
                      exact norm_ (by first | (simp only [putAll, Act.put, List.setIfInBounds_toArray, List.set_cons_zero, List.set_cons_succ]; done) | (simp only [putAll, Act.put, List.setIfInBounds_toArray, List.set_cons_zero, List.set_cons_succ]; rfl)) (hJ0_3_5 (v188, v194, J4) _ ⟨(by (with_reducible repeat (first | apply Kd.S_alloc | apply Kd.S_drewN | apply Kd.S_drew)); exact J5.out), (by (with_reducible repeat (first | apply Kd.S_alloc | apply Kd.S_drewN | apply Kd.S_drew)); exact J6.out), (by (with_reducible repeat (first | apply Kd.R_alloc | apply Kd.R_drewN | apply Kd.R_drew)); exact Je.out), (by (with_reducible repeat (first | apply Kd.R_alloc | apply Kd.R_drewN | apply Kd.R_drew)); exact Jg.out), (by (with_reducible repeat (first | refine blk_drewN ?_ _ | refine blk_drew ?_ | refine blk_alloc ?_ _)); exact J0.out), (by (with_reducible repeat (first | refine blk_drewN ?_ _ | refine blk_drew ?_ | refine blk_alloc ?_ _)); exact J3.out), (by (with_reducible repeat (first | refine blk_drewN ?_ _ | refine blk_drew ?_ | refine blk_alloc ?_ _)); exact J7.out), Jn.out, Jf.out, Ja.out, Jc.out, Jb.out, Jd.out, (by repeat (first | (with_reducible first | exact HB.out | apply below_alloc | apply pw_below_drewN | apply below_drew1 | refine below_set ?_ J8.out | refine below_set ?_ J9.out | refine below_set ?_ Jf.out) | exact HB.out))⟩)
                  · skip
                    rintro ⟨v188, J4⟩ w17 ⟨h0_, h1_, h2_, h3_, h4_, h5_, h6_, h7_, h8_, h9_, h10_, h11_, h12_⟩
                    have n0_ : Aside0 (Kd.S k243 243 w17 w.heap.size (fun _ => True) (.slice Ao10 t164.length co10) t164) := ⟨h0_⟩
                    have n1_ : Aside0 (Kd.S k189 189 w17 w.heap.size (fun _ => True) (.slice Ao11 t167.length co11) t167) := ⟨h1_⟩
                    have n2_ : Aside0 (Kd.R k118 118 w17 w.heap.size (fun _ => True) v188 y187) := ⟨h2_⟩
                    have n3_ : Aside0 (w17.heap[J1]? = some (.cells #[.int .i64 0, .int .i64 0, .slice none 0 0, .int .i64 0, .int .i64 0, .slice none 0 0, .slice none 0 0, .slice none 0 0] 30 (0, 0))) := ⟨h3_⟩
                    have n4_ : Aside0 (w17.heap[J2]? = some (.cells #[.int .i64 t160, .int .i64 t161, .int .i64 t162, .int .i64 t163, .slice Ao10 t164.length co10, .slice Ao11 t167.length co11] 114 (0, 0))) := ⟨h4_⟩
                    have n5_ : Aside0 (w17.heap[J4]? = some (.cells #[.int .i64 0, .int .i64 0, .slice none 0 0, .slice none 0 0, .slice none 0 0] 28 (0, 0))) := ⟨h5_⟩
                    have n6_ : Aside0 (w.heap.size ≤ J4) := ⟨h6_⟩
                    have n7_ : Aside0 (w.heap.size ≤ J4) := ⟨h7_⟩
                    have n8_ : Aside0 (J1 ≠ J4) := ⟨h8_⟩
                    have n9_ : Aside0 (J4 ≠ J1) := ⟨h9_⟩
                    have n10_ : Aside0 (J2 ≠ J4) := ⟨h10_⟩
                    have n11_ : Aside0 (J4 ≠ J2) := ⟨h11_⟩
                    have n12_ : Aside0 (Below w.heap.size w w17) := ⟨h12_⟩
                    clear J5
                    clear J6
                    clear J0
                    clear J3
                    clear HB
                    clear h0_ h1_ h2_ h3_ h4_ h5_ h6_ h7_ h8_ h9_ h10_ h11_ h12_
                    have J5 := n0_
                    have J6 := n1_
                    have Je := n2_
                    have J0 := n3_
                    have J3 := n4_
                    have J7 := n5_
                    have Jn := n6_
                    have Jf := n7_
                    have Ja := n8_
                    have Jc := n9_
                    have Jb := n10_
                    have Jd := n11_
                    have HB := n12_
                    clear n0_ n1_ n2_ n3_ n4_ n5_ n6_ n7_ n8_ n9_ n10_ n11_ n12_
                    have hHeld := trivial
                    refine norm_ (a' := ?_) ?_ ?_
                    rotate_left
                    · simp only [putAll, Act.put, List.setIfInBounds_toArray, List.set_cons_zero, List.set_cons_succ]
                      rfl
                    refine two_ (i := 2) (j := 3) (Ni := some 16) (Nj := some 17) #[true, true, true, false, false, true, false] #[true, true, false, true, false, true, false] rfl rfl rfl rfl (by kernel_rfl) (by decide) (by decide) (fun K hK => ?_) (fun K hK => ?_)
                    · skip
                      refine Kd.R_append_rows_step k118 (w0 := w) w.heap.size (by rfl) (.tmp 14) (.tmp 15) 24 118 (.agg #[(.int .i64 0), (.int .i64 0)]) 16 rfl Try.underlying24 info118 rfl (by decide) (by omega) v188 y187 l0 _ _ _ (fun _ => True) (fun _ => False) rfl rfl ?aO ?aR (fun _ _ h => h) (fun _ h => h.elim) ?aF ?aB ?aS ?aL ?_
                      (case aR => repeat (first | exact (Kd.C_below HR0.out HB.out) | (with_reducible refine Kd.C_alloc ?_ _) | (with_reducible refine Kd.C_drewN ?_ _) | (with_reducible refine Kd.C_drew ?_)))
                      (case aB => exact (by repeat (first | (with_reducible first | exact HB.out | apply below_alloc | apply pw_below_drewN | apply below_drew1 | refine below_set ?_ J8.out | refine below_set ?_ J9.out | refine below_set ?_ Jf.out) | exact HB.out)))
                      (case aF => exact (fun _ _ => trivial))
                      (case aO => exact (by (with_reducible repeat (first | apply Kd.R_alloc | apply Kd.R_drewN | apply Kd.R_drew)); exact Je.out))
                      (case aS => exact (below_size (by repeat (first | (with_reducible first | exact HB.out | apply below_alloc | apply pw_below_drewN | apply below_drew1 | refine below_set ?_ J8.out | refine below_set ?_ J9.out | refine below_set ?_ Jf.out) | exact HB.out))))
                      (case aL => have := LMc4.out; omega)
                      intro v191 w18 ho hb hg hat
                      rw [← Ny190.out] at ho
                      have n0_ := Aside0.mk (blk_grown (g := J1) (o := .cells #[.int .i64 0, .int .i64 0, .slice none 0 0, .int .i64 0, .int .i64 0, .slice none 0 0, .slice none 0 0, .slice none 0 0] 30 (0, 0)) (by (with_reducible repeat (first | refine blk_drewN ?_ _ | refine blk_drew ?_ | refine blk_alloc ?_ _)); exact J0.out) hg (Kd.R_ne Je.out J0.out (by decide)))
                      have n1_ := Aside0.mk (Kd.S_over' (by (with_reducible repeat (first | apply Kd.S_alloc | apply Kd.S_drewN | apply Kd.S_drew)); exact J5.out) (Kd.R_typed (by (with_reducible repeat (first | apply Kd.R_alloc | apply Kd.R_drewN | apply Kd.R_drew)); exact Je.out)) (by decide) hg)
                      have n2_ := Aside0.mk (Kd.S_over' (by (with_reducible repeat (first | apply Kd.S_alloc | apply Kd.S_drewN | apply Kd.S_drew)); exact J6.out) (Kd.R_typed (by (with_reducible repeat (first | apply Kd.R_alloc | apply Kd.R_drewN | apply Kd.R_drew)); exact Je.out)) (by decide) hg)
                      have n3_ := Aside0.mk (blk_grown (g := J2) (o := .cells #[.int .i64 t160, .int .i64 t161, .int .i64 t162, .int .i64 t163, .slice Ao10 t164.length co10, .slice Ao11 t167.length co11] 114 (0, 0)) (by (with_reducible repeat (first | refine blk_drewN ?_ _ | refine blk_drew ?_ | refine blk_alloc ?_ _)); exact J3.out) hg (Kd.R_ne Je.out J3.out (by decide)))
                      have n4_ := Aside0.mk (blk_grown (g := J4) (o := .cells #[.int .i64 0, .int .i64 0, .slice none 0 0, .slice none 0 0, .slice none 0 0] 28 (0, 0)) (by (with_reducible repeat (first | refine blk_drewN ?_ _ | refine blk_drew ?_ | refine blk_alloc ?_ _)); exact J7.out) hg (Kd.R_ne Je.out J7.out (by decide)))
                      have n5_ := Aside0.mk (hb)
                      have n6_ := Aside0.mk (ho)
                      clear J0
                      clear J5
                      clear J6
                      clear J3
                      clear J7
                      clear HB
                      clear Je
                      have J0 := n0_
                      have J5 := n1_
                      have J6 := n2_
                      have J3 := n3_
                      have J7 := n4_
                      have HB := n5_
                      have Jh := n6_
                      clear n0_ n1_ n2_ n3_ n4_ n5_ n6_
                      clear ho hb hg hat
                      refine hK.out _ _ trivial (fun hHeld => ?_)
                      clear hK K
                      refine norm_ (a' := ?_) ?_ ?_
                      rotate_left
                      · show Act.put _ (some 16) _ = _
                        simp only [Act.put, List.setIfInBounds_toArray, List.set_cons_zero, List.set_cons_succ, i64_w, i32_w]
                        rfl
                      exact norm_ (by first | (simp only [putAll, Act.put, List.setIfInBounds_toArray, List.set_cons_zero, List.set_cons_succ]; done) | (simp only [putAll, Act.put, List.setIfInBounds_toArray, List.set_cons_zero, List.set_cons_succ]; rfl)) (hJ0_2_5 (v188, v191, J4) _ ⟨(by (with_reducible repeat (first | apply Kd.S_alloc | apply Kd.S_drewN | apply Kd.S_drew)); exact J5.out), (by (with_reducible repeat (first | apply Kd.S_alloc | apply Kd.S_drewN | apply Kd.S_drew)); exact J6.out), (by (with_reducible repeat (first | apply Kd.R_alloc | apply Kd.R_drewN | apply Kd.R_drew)); exact Jh.out), (by (with_reducible repeat (first | refine blk_drewN ?_ _ | refine blk_drew ?_ | refine blk_alloc ?_ _)); exact J0.out), (by (with_reducible repeat (first | refine blk_drewN ?_ _ | refine blk_drew ?_ | refine blk_alloc ?_ _)); exact J3.out), (by (with_reducible repeat (first | refine blk_drewN ?_ _ | refine blk_drew ?_ | refine blk_alloc ?_ _)); exact J7.out), Jn.out, Jf.out, Ja.out, Jc.out, Jb.out, Jd.out, (by repeat (first | (with_reducible first | exact HB.out | apply below_alloc | apply pw_below_drewN | apply below_drew1 | refine below_set ?_ J8.out | refine below_set ?_ J9.out | refine below_set ?_ Jf.out) | exact HB.out))⟩)
                    · skip
                      refine Kd.R_make_step (Kd.int .i64) _ 2 (by rfl) (N := 17) rfl 25 _ _ rfl 32 rfl rfl Try.underlying25 (.int .i64 0) 8 info2 rfl (by decide) (by omega) 0 (ok := fun _ => True) (okp := fun _ => True) rfl (fun _ hk => hk) trivial (by omega) (by omega) (Below.refl _ _) (Nat.le_refl _) ?_
                      intro v194 w18 ho19 hb hg_ hnew_
                      clear hg_ hnew_
                      (first | rw [← Ny193.out] at ho19 | (simp only [Int.reduceToNat] at ho19; rw [← Ny193.out] at ho19))
                      have n0_ := Aside0.mk (Kd.S_below (by (with_reducible repeat (first | apply Kd.S_alloc | apply Kd.S_drewN | apply Kd.S_drew)); exact J5.out) hb)
                      have n1_ := Aside0.mk (Kd.S_below (by (with_reducible repeat (first | apply Kd.S_alloc | apply Kd.S_drewN | apply Kd.S_drew)); exact J6.out) hb)
                      have n2_ := Aside0.mk (Kd.R_below (by (with_reducible repeat (first | apply Kd.R_alloc | apply Kd.R_drewN | apply Kd.R_drew)); exact Je.out) hb)
                      have n3_ := Aside0.mk (Kd.R_lower ho19 (below_size (by repeat (first | (with_reducible first | exact HB.out | apply below_alloc | apply pw_below_drewN | apply below_drew1 | refine below_set ?_ J8.out | refine below_set ?_ J9.out | refine below_set ?_ Jf.out) | exact HB.out))))
                      have n4_ := Aside0.mk (blk_below (g := J1) (o := .cells #[.int .i64 0, .int .i64 0, .slice none 0 0, .int .i64 0, .int .i64 0, .slice none 0 0, .slice none 0 0, .slice none 0 0] 30 (0, 0)) (by (with_reducible repeat (first | refine blk_drewN ?_ _ | refine blk_drew ?_ | refine blk_alloc ?_ _)); exact J0.out) hb)
                      have n5_ := Aside0.mk (blk_below (g := J2) (o := .cells #[.int .i64 t160, .int .i64 t161, .int .i64 t162, .int .i64 t163, .slice Ao10 t164.length co10, .slice Ao11 t167.length co11] 114 (0, 0)) (by (with_reducible repeat (first | refine blk_drewN ?_ _ | refine blk_drew ?_ | refine blk_alloc ?_ _)); exact J3.out) hb)
                      have n6_ := Aside0.mk (blk_below (g := J4) (o := .cells #[.int .i64 0, .int .i64 0, .slice none 0 0, .slice none 0 0, .slice none 0 0] 28 (0, 0)) (by (with_reducible repeat (first | refine blk_drewN ?_ _ | refine blk_drew ?_ | refine blk_alloc ?_ _)); exact J7.out) hb)
                      have n7_ := Aside0.mk (below_step (by repeat (first | (with_reducible first | exact HB.out | apply below_alloc | apply pw_below_drewN | apply below_drew1 | refine below_set ?_ J8.out | refine below_set ?_ J9.out | refine below_set ?_ Jf.out) | exact HB.out)) hb)
                      clear J5
                      clear J6
                      clear Je
                      clear J0
                      clear J3
                      clear J7
                      clear HB
                      have J5 := n0_
                      have J6 := n1_
                      have Je := n2_
                      have Jg := n3_
                      have J0 := n4_
                      have J3 := n5_
                      have J7 := n6_
                      have HB := n7_
                      clear n0_ n1_ n2_ n3_ n4_ n5_ n6_ n7_
                      clear hb ho19
                      refine hK.out _ _ trivial (fun hHeld => ?_)
                      clear hK K
                      refine norm_ (a' := ?_) ?_ ?_
                      rotate_left
                      · show Act.put _ (some 17) _ = _
                        simp only [Act.put, List.setIfInBounds_toArray, List.set_cons_zero, List.set_cons_succ, i64_w, i32_w]
                        rfl
                      exact norm_ (by first | (simp only [putAll, Act.put, List.setIfInBounds_toArray, List.set_cons_zero, List.set_cons_succ]; done) | (simp only [putAll, Act.put, List.setIfInBounds_toArray, List.set_cons_zero, List.set_cons_succ]; rfl)) (hJ0_3_5 (v188, v194, J4) _ ⟨(by (with_reducible repeat (first | apply Kd.S_alloc | apply Kd.S_drewN | apply Kd.S_drew)); exact J5.out), (by (with_reducible repeat (first | apply Kd.S_alloc | apply Kd.S_drewN | apply Kd.S_drew)); exact J6.out), (by (with_reducible repeat (first | apply Kd.R_alloc | apply Kd.R_drewN | apply Kd.R_drew)); exact Je.out), (by (with_reducible repeat (first | apply Kd.R_alloc | apply Kd.R_drewN | apply Kd.R_drew)); exact Jg.out), (by (with_reducible repeat (first | refine blk_drewN ?_ _ | refine blk_drew ?_ | refine blk_alloc ?_ _)); exact J0.out), (by (with_reducible repeat (first | refine blk_drewN ?_ _ | refine blk_drew ?_ | refine blk_alloc ?_ _)); exact J3.out), (by (with_reducible repeat (first | refine blk_drewN ?_ _ | refine blk_drew ?_ | refine blk_alloc ?_ _)); exact J7.out), Jn.out, Jf.out, Ja.out, Jc.out, Jb.out, Jd.out, (by repeat (first | (with_reducible first | exact HB.out | apply below_alloc | apply pw_below_drewN | apply below_drew1 | refine below_set ?_ J8.out | refine below_set ?_ J9.out | refine below_set ?_ Jf.out) | exact HB.out))⟩)
                · skip
                  rintro ⟨v188, v194⟩ w18 ⟨h0_, h1_, h2_, h3_, h4_, h5_, h6_⟩
                  have n0_ : Aside0 (Kd.S k243 243 w18 w.heap.size (fun _ => True) (.slice Ao10 t164.length co10) t164) := ⟨h0_⟩
                  have n1_ : Aside0 (Kd.S k189 189 w18 w.heap.size (fun _ => True) (.slice Ao11 t167.length co11) t167) := ⟨h1_⟩
                  have n2_ : Aside0 (Kd.R k118 118 w18 w.heap.size (fun _ => True) v188 y187) := ⟨h2_⟩
                  have n3_ : Aside0 (Kd.R (Kd.int .i64) 2 w18 w.heap.size (fun _ => True) v194 y193) := ⟨h3_⟩
                  have n4_ : Aside0 (w18.heap[J1]? = some (.cells #[.int .i64 0, .int .i64 0, .slice none 0 0, .int .i64 0, .int .i64 0, .slice none 0 0, .slice none 0 0, .slice none 0 0] 30 (0, 0))) := ⟨h4_⟩
                  have n5_ : Aside0 (w18.heap[J2]? = some (.cells #[.int .i64 t160, .int .i64 t161, .int .i64 t162, .int .i64 t163, .slice Ao10 t164.length co10, .slice Ao11 t167.length co11] 114 (0, 0))) := ⟨h5_⟩
                  have n6_ : Aside0 (Below w.heap.size w w18) := ⟨h6_⟩
                  clear J5
                  clear J6
                  clear J0
                  clear J3
                  clear HB
                  clear h0_ h1_ h2_ h3_ h4_ h5_ h6_
                  have J5 := n0_
                  have J6 := n1_
                  have Je := n2_
                  have Jg := n3_
                  have J0 := n4_
                  have J3 := n5_
                  have HB := n6_
                  clear n0_ n1_ n2_ n3_ n4_ n5_ n6_
                  have hHeld := trivial
                  refine norm_ (a' := ?_) ?_ ?_
                  rotate_left
                  · simp only [putAll, Act.put, List.setIfInBounds_toArray, List.set_cons_zero, List.set_cons_succ]
                    rfl
                  refine two_ (i := 2) (j := 5) (Ni := some 16) (Nj := some 4) #[true, true, true, true, false, false, false] #[true, true, false, true, false, true, false] rfl rfl rfl rfl (by kernel_rfl) (by decide) (by decide) (fun K hK => ?_) (fun K hK => ?_)
                  · skip
                    refine Kd.R_append_rows_step k118 (w0 := w) w.heap.size (by rfl) (.tmp 14) (.tmp 15) 24 118 (.agg #[(.int .i64 0), (.int .i64 0)]) 16 rfl Try.underlying24 info118 rfl (by decide) (by omega) v188 y187 l0 _ _ _ (fun _ => True) (fun _ => False) rfl rfl ?aO ?aR (fun _ _ h => h) (fun _ h => h.elim) ?aF ?aB ?aS ?aL ?_
                    (case aR => repeat (first | exact (Kd.C_below HR0.out HB.out) | (with_reducible refine Kd.C_alloc ?_ _) | (with_reducible refine Kd.C_drewN ?_ _) | (with_reducible refine Kd.C_drew ?_)))
                    (case aB => exact (by repeat (first | (with_reducible first | exact HB.out | apply below_alloc | apply pw_below_drewN | apply below_drew1 | refine below_set ?_ J8.out | refine below_set ?_ J9.out) | exact HB.out)))
                    (case aF => exact (fun _ _ => trivial))
                    (case aO => exact (by (with_reducible repeat (first | apply Kd.R_alloc | apply Kd.R_drewN | apply Kd.R_drew)); exact Je.out))
                    (case aS => exact (below_size (by repeat (first | (with_reducible first | exact HB.out | apply below_alloc | apply pw_below_drewN | apply below_drew1 | refine below_set ?_ J8.out | refine below_set ?_ J9.out) | exact HB.out))))
                    (case aL => have := LMc4.out; omega)
                    intro v191 w19 ho hb hg hat
                    rw [← Ny190.out] at ho
                    have n0_ := Aside0.mk (blk_grown (g := J1) (o := .cells #[.int .i64 0, .int .i64 0, .slice none 0 0, .int .i64 0, .int .i64 0, .slice none 0 0, .slice none 0 0, .slice none 0 0] 30 (0, 0)) (by (with_reducible repeat (first | refine blk_drewN ?_ _ | refine blk_drew ?_ | refine blk_alloc ?_ _)); exact J0.out) hg (Kd.R_ne Je.out J0.out (by decide)))
                    have n1_ := Aside0.mk (Kd.S_over' (by (with_reducible repeat (first | apply Kd.S_alloc | apply Kd.S_drewN | apply Kd.S_drew)); exact J5.out) (Kd.R_typed (by (with_reducible repeat (first | apply Kd.R_alloc | apply Kd.R_drewN | apply Kd.R_drew)); exact Je.out)) (by decide) hg)
                    have n2_ := Aside0.mk (Kd.S_over' (by (with_reducible repeat (first | apply Kd.S_alloc | apply Kd.S_drewN | apply Kd.S_drew)); exact J6.out) (Kd.R_typed (by (with_reducible repeat (first | apply Kd.R_alloc | apply Kd.R_drewN | apply Kd.R_drew)); exact Je.out)) (by decide) hg)
                    have n3_ := Aside0.mk (blk_grown (g := J2) (o := .cells #[.int .i64 t160, .int .i64 t161, .int .i64 t162, .int .i64 t163, .slice Ao10 t164.length co10, .slice Ao11 t167.length co11] 114 (0, 0)) (by (with_reducible repeat (first | refine blk_drewN ?_ _ | refine blk_drew ?_ | refine blk_alloc ?_ _)); exact J3.out) hg (Kd.R_ne Je.out J3.out (by decide)))
                    have n4_ := Aside0.mk (Kd.R_over' (by (with_reducible repeat (first | apply Kd.R_alloc | apply Kd.R_drewN | apply Kd.R_drew)); exact Jg.out) (Kd.R_typed (by (with_reducible repeat (first | apply Kd.R_alloc | apply Kd.R_drewN | apply Kd.R_drew)); exact Je.out)) (by decide) hg)
                    have n5_ := Aside0.mk (hb)
                    have n6_ := Aside0.mk (ho)
                    clear J0
                    clear J5
                    clear J6
                    clear J3
                    clear Jg
                    clear HB
                    clear Je
                    have J0 := n0_
                    have J5 := n1_
                    have J6 := n2_
                    have J3 := n3_
                    have Jg := n4_
                    have HB := n5_
                    have Jh := n6_
                    clear n0_ n1_ n2_ n3_ n4_ n5_ n6_
                    clear ho hb hg hat
                    obtain ⟨Ao20, co20, eo20⟩ := Kd.R_slice Jg.out
                    (first | subst eo20 | (injection eo20 with f1_ f2_ f3_; have f4_ := f1_.symm; have f5_ := f3_.symm; clear f1_ f2_ f3_; subst f4_; subst f5_))
                    obtain ⟨Ao21, co21, eo21⟩ := Kd.R_slice Jh.out
                    (first | subst eo21 | (injection eo21 with f1_ f2_ f3_; have f4_ := f1_.symm; have f5_ := f3_.symm; clear f1_ f2_ f3_; subst f4_; subst f5_))
                    refine hK.out _ _ trivial (fun hHeld => ?_)
                    clear hK K
                    refine norm_ (a' := ?_) ?_ ?_
                    rotate_left
                    · show Act.put _ (some 16) _ = _
                      simp only [Act.put, List.setIfInBounds_toArray, List.set_cons_zero, List.set_cons_succ, i64_w, i32_w]
                      rfl
                    refine pure_ (i := 4) (N := some 18) (v := ?_) (a' := ?_) #[true, true, true, true, true, false, false] rfl rfl (by kernel_rfl) (fun _ _ _ h => h) (Or.inl ⟨by rfl, ?_⟩) ?_ ?_
                    rotate_left
                    · intro w'
                      go_simp
                      with_reducible rfl
                    rotate_left
                    · simp only [Act.put, List.setIfInBounds_toArray, List.set_cons_zero, List.set_cons_succ, i64_w, i32_w]
                      rfl
                    exact norm_ (by first | (simp only [putAll, Act.put, List.setIfInBounds_toArray, List.set_cons_zero, List.set_cons_succ]; done) | (simp only [putAll, Act.put, List.setIfInBounds_toArray, List.set_cons_zero, List.set_cons_succ]; rfl)) (hJ0_2_3 (v188, .slice Ao21 y190.length co21, .slice Ao20 y193.length co20) _ ⟨(by (with_reducible repeat (first | apply Kd.S_alloc | apply Kd.S_drewN | apply Kd.S_drew)); exact J5.out), (by (with_reducible repeat (first | apply Kd.S_alloc | apply Kd.S_drewN | apply Kd.S_drew)); exact J6.out), (by (with_reducible repeat (first | apply Kd.R_alloc | apply Kd.R_drewN | apply Kd.R_drew)); exact Jh.out), (by (with_reducible repeat (first | apply Kd.R_alloc | apply Kd.R_drewN | apply Kd.R_drew)); exact Jg.out), (by (with_reducible repeat (first | refine blk_drewN ?_ _ | refine blk_drew ?_ | refine blk_alloc ?_ _)); exact J0.out), (by (with_reducible repeat (first | refine blk_drewN ?_ _ | refine blk_drew ?_ | refine blk_alloc ?_ _)); exact J3.out), (by repeat (first | (with_reducible first | exact HB.out | apply below_alloc | apply pw_below_drewN | apply below_drew1 | refine below_set ?_ J8.out | refine below_set ?_ J9.out) | exact HB.out))⟩)
                  · skip
                    refine box_step ?hg (N := 4) ?hd (cs := #[.int .i64 0, .int .i64 0, .slice none 0 0, .slice none 0 0, .slice none 0 0]) (t := 28) ?hr ?_; (case hd => rfl); (case hg => rfl); (case hr => first | (go_simp; done) | (go_simp; rfl))
                    intro J4 hg w19 hbox hb
                    have n0_ := Aside0.mk (Kd.S_below (by (with_reducible repeat (first | apply Kd.S_alloc | apply Kd.S_drewN | apply Kd.S_drew)); exact J5.out) hb)
                    have n1_ := Aside0.mk (Kd.S_below (by (with_reducible repeat (first | apply Kd.S_alloc | apply Kd.S_drewN | apply Kd.S_drew)); exact J6.out) hb)
                    have n2_ := Aside0.mk (Kd.R_below (by (with_reducible repeat (first | apply Kd.R_alloc | apply Kd.R_drewN | apply Kd.R_drew)); exact Je.out) hb)
                    have n3_ := Aside0.mk (Kd.R_below (by (with_reducible repeat (first | apply Kd.R_alloc | apply Kd.R_drewN | apply Kd.R_drew)); exact Jg.out) hb)
                    have n4_ := Aside0.mk (blk_below (g := J1) (o := .cells #[.int .i64 0, .int .i64 0, .slice none 0 0, .int .i64 0, .int .i64 0, .slice none 0 0, .slice none 0 0, .slice none 0 0] 30 (0, 0)) (by (with_reducible repeat (first | refine blk_drewN ?_ _ | refine blk_drew ?_ | refine blk_alloc ?_ _)); exact J0.out) hb)
                    have n5_ := Aside0.mk (blk_below (g := J2) (o := .cells #[.int .i64 t160, .int .i64 t161, .int .i64 t162, .int .i64 t163, .slice Ao10 t164.length co10, .slice Ao11 t167.length co11] 114 (0, 0)) (by (with_reducible repeat (first | refine blk_drewN ?_ _ | refine blk_drew ?_ | refine blk_alloc ?_ _)); exact J3.out) hb)
                    have n6_ := Aside0.mk (below_step (by repeat (first | (with_reducible first | exact HB.out | apply below_alloc | apply pw_below_drewN | apply below_drew1 | refine below_set ?_ J8.out | refine below_set ?_ J9.out) | exact HB.out)) hb)
                    have n7_ := Aside0.mk (hbox)
                    have n8_ := Aside0.mk ((by rw [hg]; exact (below_size (by repeat (first | (with_reducible first | exact HB.out | apply below_alloc | apply pw_below_drewN | apply below_drew1 | refine below_set ?_ J8.out | refine below_set ?_ J9.out) | exact HB.out))) : w.heap.size ≤ J4))
                    have n9_ := Aside0.mk ((by rw [hg]; exact (below_size (by repeat (first | (with_reducible first | exact HB.out | apply below_alloc | apply pw_below_drewN | apply below_drew1 | refine below_set ?_ J8.out | refine below_set ?_ J9.out) | exact HB.out))) : w.heap.size ≤ J4))
                    have n10_ := Aside0.mk ((by rw [hg]; exact Nat.ne_of_lt (blk_lt (g := J1) (o := .cells #[.int .i64 0, .int .i64 0, .slice none 0 0, .int .i64 0, .int .i64 0, .slice none 0 0, .slice none 0 0, .slice none 0 0] 30 (0, 0)) (by (with_reducible repeat (first | refine blk_drewN ?_ _ | refine blk_drew ?_ | refine blk_alloc ?_ _)); exact J0.out)) : J1 ≠ J4))
                    have n11_ := Aside0.mk ((by rw [hg]; exact Nat.ne_of_gt (blk_lt (g := J1) (o := .cells #[.int .i64 0, .int .i64 0, .slice none 0 0, .int .i64 0, .int .i64 0, .slice none 0 0, .slice none 0 0, .slice none 0 0] 30 (0, 0)) (by (with_reducible repeat (first | refine blk_drewN ?_ _ | refine blk_drew ?_ | refine blk_alloc ?_ _)); exact J0.out)) : J4 ≠ J1))
                    have n12_ := Aside0.mk ((by rw [hg]; exact Nat.ne_of_lt (blk_lt (g := J2) (o := .cells #[.int .i64 t160, .int .i64 t161, .int .i64 t162, .int .i64 t163, .slice Ao10 t164.length co10, .slice Ao11 t167.length co11] 114 (0, 0)) (by (with_reducible repeat (first | refine blk_drewN ?_ _ | refine blk_drew ?_ | refine blk_alloc ?_ _)); exact J3.out)) : J2 ≠ J4))
                    have n13_ := Aside0.mk ((by rw [hg]; exact Nat.ne_of_gt (blk_lt (g := J2) (o := .cells #[.int .i64 t160, .int .i64 t161, .int .i64 t162, .int .i64 t163, .slice Ao10 t164.length co10, .slice Ao11 t167.length co11] 114 (0, 0)) (by (with_reducible repeat (first | refine blk_drewN ?_ _ | refine blk_drew ?_ | refine blk_alloc ?_ _)); exact J3.out)) : J4 ≠ J2))
                    clear J5
                    clear J6
                    clear Je
                    clear Jg
                    clear J0
                    clear J3
                    clear HB
                    have J5 := n0_
                    have J6 := n1_
                    have Je := n2_
                    have Jg := n3_
                    have J0 := n4_
                    have J3 := n5_
                    have HB := n6_
                    have J7 := n7_
                    have Jn := n8_
                    have Jf := n9_
                    have Ja := n10_
                    have Jc := n11_
                    have Jb := n12_
                    have Jd := n13_
                    clear n0_ n1_ n2_ n3_ n4_ n5_ n6_ n7_ n8_ n9_ n10_ n11_ n12_ n13_
                    clear hb hbox hg
                    refine hK.out _ _ trivial (fun hHeld => ?_)
                    clear hK K
                    refine norm_ (a' := ?_) ?_ ?_
                    rotate_left
                    · show Act.put _ (some 4) _ = _
                      simp only [Act.put, List.setIfInBounds_toArray, List.set_cons_zero, List.set_cons_succ, i64_w, i32_w]
                      rfl
                    exact norm_ (by first | (simp only [putAll, Act.put, List.setIfInBounds_toArray, List.set_cons_zero, List.set_cons_succ]; done) | (simp only [putAll, Act.put, List.setIfInBounds_toArray, List.set_cons_zero, List.set_cons_succ]; rfl)) (hJ0_3_5 (v188, v194, J4) _ ⟨(by (with_reducible repeat (first | apply Kd.S_alloc | apply Kd.S_drewN | apply Kd.S_drew)); exact J5.out), (by (with_reducible repeat (first | apply Kd.S_alloc | apply Kd.S_drewN | apply Kd.S_drew)); exact J6.out), (by (with_reducible repeat (first | apply Kd.R_alloc | apply Kd.R_drewN | apply Kd.R_drew)); exact Je.out), (by (with_reducible repeat (first | apply Kd.R_alloc | apply Kd.R_drewN | apply Kd.R_drew)); exact Jg.out), (by (with_reducible repeat (first | refine blk_drewN ?_ _ | refine blk_drew ?_ | refine blk_alloc ?_ _)); exact J0.out), (by (with_reducible repeat (first | refine blk_drewN ?_ _ | refine blk_drew ?_ | refine blk_alloc ?_ _)); exact J3.out), (by (with_reducible repeat (first | refine blk_drewN ?_ _ | refine blk_drew ?_ | refine blk_alloc ?_ _)); exact J7.out), Jn.out, Jf.out, Ja.out, Jc.out, Jb.out, Jd.out, (by repeat (first | (with_reducible first | exact HB.out | apply below_alloc | apply pw_below_drewN | apply below_drew1 | refine below_set ?_ J8.out | refine below_set ?_ J9.out | refine below_set ?_ Jf.out) | exact HB.out))⟩)
              · skip
                rintro ⟨v188, v191⟩ w17 ⟨h0_, h1_, h2_, h3_, h4_, h5_⟩
                have n0_ : Aside0 (Kd.S k243 243 w17 w.heap.size (fun _ => True) (.slice Ao10 t164.length co10) t164) := ⟨h0_⟩
                have n1_ : Aside0 (Kd.S k189 189 w17 w.heap.size (fun _ => True) (.slice Ao11 t167.length co11) t167) := ⟨h1_⟩
                have n2_ : Aside0 (Kd.R k118 118 w17 w.heap.size (fun _ => True) v191 y190) := ⟨h2_⟩
                have n3_ : Aside0 (w17.heap[J1]? = some (.cells #[.int .i64 0, .int .i64 0, .slice none 0 0, .int .i64 0, .int .i64 0, .slice none 0 0, .slice none 0 0, .slice none 0 0] 30 (0, 0))) := ⟨h3_⟩
                have n4_ : Aside0 (w17.heap[J2]? = some (.cells #[.int .i64 t160, .int .i64 t161, .int .i64 t162, .int .i64 t163, .slice Ao10 t164.length co10, .slice Ao11 t167.length co11] 114 (0, 0))) := ⟨h4_⟩
                have n5_ : Aside0 (Below w.heap.size w w17) := ⟨h5_⟩
                clear J5
                clear J6
                clear J0
                clear J3
                clear HB
                clear h0_ h1_ h2_ h3_ h4_ h5_
                have J5 := n0_
                have J6 := n1_
                have Jh := n2_
                have J0 := n3_
                have J3 := n4_
                have HB := n5_
                clear n0_ n1_ n2_ n3_ n4_ n5_
                have hHeld := trivial
                refine norm_ (a' := ?_) ?_ ?_
                rotate_left
                · simp only [putAll, Act.put, List.setIfInBounds_toArray, List.set_cons_zero, List.set_cons_succ]
                  rfl
                refine two_ (i := 3) (j := 5) (Ni := some 17) (Nj := some 4) #[true, true, true, true, false, false, false] #[true, true, true, false, false, true, false] rfl rfl rfl rfl (by kernel_rfl) (by decide) (by decide) (fun K hK => ?_) (fun K hK => ?_)
                · skip
                  refine Kd.R_make_step (Kd.int .i64) _ 2 (by rfl) (N := 17) rfl 25 _ _ rfl 32 rfl rfl Try.underlying25 (.int .i64 0) 8 info2 rfl (by decide) (by omega) 0 (ok := fun _ => True) (okp := fun _ => True) rfl (fun _ hk => hk) trivial (by omega) (by omega) (Below.refl _ _) (Nat.le_refl _) ?_
                  intro v194 w18 ho19 hb hg_ hnew_
                  clear hg_ hnew_
                  (first | rw [← Ny193.out] at ho19 | (simp only [Int.reduceToNat] at ho19; rw [← Ny193.out] at ho19))
                  have n0_ := Aside0.mk (Kd.S_below (by (with_reducible repeat (first | apply Kd.S_alloc | apply Kd.S_drewN | apply Kd.S_drew)); exact J5.out) hb)
                  have n1_ := Aside0.mk (Kd.S_below (by (with_reducible repeat (first | apply Kd.S_alloc | apply Kd.S_drewN | apply Kd.S_drew)); exact J6.out) hb)
                  have n2_ := Aside0.mk (Kd.R_below (by (with_reducible repeat (first | apply Kd.R_alloc | apply Kd.R_drewN | apply Kd.R_drew)); exact Jh.out) hb)
                  have n3_ := Aside0.mk (Kd.R_lower ho19 (below_size (by repeat (first | (with_reducible first | exact HB.out | apply below_alloc | apply pw_below_drewN | apply below_drew1 | refine below_set ?_ J8.out | refine below_set ?_ J9.out) | exact HB.out))))
                  have n4_ := Aside0.mk (blk_below (g := J1) (o := .cells #[.int .i64 0, .int .i64 0, .slice none 0 0, .int .i64 0, .int .i64 0, .slice none 0 0, .slice none 0 0, .slice none 0 0] 30 (0, 0)) (by (with_reducible repeat (first | refine blk_drewN ?_ _ | refine blk_drew ?_ | refine blk_alloc ?_ _)); exact J0.out) hb)
                  have n5_ := Aside0.mk (blk_below (g := J2) (o := .cells #[.int .i64 t160, .int .i64 t161, .int .i64 t162, .int .i64 t163, .slice Ao10 t164.length co10, .slice Ao11 t167.length co11] 114 (0, 0)) (by (with_reducible repeat (first | refine blk_drewN ?_ _ | refine blk_drew ?_ | refine blk_alloc ?_ _)); exact J3.out) hb)
                  have n6_ := Aside0.mk (below_step (by repeat (first | (with_reducible first | exact HB.out | apply below_alloc | apply pw_below_drewN | apply below_drew1 | refine below_set ?_ J8.out | refine below_set ?_ J9.out) | exact HB.out)) hb)
                  clear J5
                  clear J6
                  clear Jh
                  clear J0
                  clear J3
                  clear HB
                  have J5 := n0_
                  have J6 := n1_
                  have Jh := n2_
                  have Jg := n3_
                  have J0 := n4_
                  have J3 := n5_
                  have HB := n6_
                  clear n0_ n1_ n2_ n3_ n4_ n5_ n6_
                  clear hb ho19
                  obtain ⟨Ao20, co20, eo20⟩ := Kd.R_slice Jg.out
                  (first | subst eo20 | (injection eo20 with f1_ f2_ f3_; have f4_ := f1_.symm; have f5_ := f3_.symm; clear f1_ f2_ f3_; subst f4_; subst f5_))
                  obtain ⟨Ao21, co21, eo21⟩ := Kd.R_slice Jh.out
                  (first | subst eo21 | (injection eo21 with f1_ f2_ f3_; have f4_ := f1_.symm; have f5_ := f3_.symm; clear f1_ f2_ f3_; subst f4_; subst f5_))
                  refine hK.out _ _ trivial (fun hHeld => ?_)
                  clear hK K
                  refine norm_ (a' := ?_) ?_ ?_
                  rotate_left
                  · show Act.put _ (some 17) _ = _
                    simp only [Act.put, List.setIfInBounds_toArray, List.set_cons_zero, List.set_cons_succ, i64_w, i32_w]
                    rfl
                  refine pure_ (i := 4) (N := some 18) (v := ?_) (a' := ?_) #[true, true, true, true, true, false, false] rfl rfl (by kernel_rfl) (fun _ _ _ h => h) (Or.inl ⟨by rfl, ?_⟩) ?_ ?_
                  rotate_left
                  · intro w'
                    go_simp
                    with_reducible rfl
                  rotate_left
                  · simp only [Act.put, List.setIfInBounds_toArray, List.set_cons_zero, List.set_cons_succ, i64_w, i32_w]
                    rfl
                  exact norm_ (by first | (simp only [putAll, Act.put, List.setIfInBounds_toArray, List.set_cons_zero, List.set_cons_succ]; done) | (simp only [putAll, Act.put, List.setIfInBounds_toArray, List.set_cons_zero, List.set_cons_succ]; rfl)) (hJ0_2_3 (v188, .slice Ao21 y190.length co21, .slice Ao20 y193.length co20) _ ⟨(by (with_reducible repeat (first | apply Kd.S_alloc | apply Kd.S_drewN | apply Kd.S_drew)); exact J5.out), (by (with_reducible repeat (first | apply Kd.S_alloc | apply Kd.S_drewN | apply Kd.S_drew)); exact J6.out), (by (with_reducible repeat (first | apply Kd.R_alloc | apply Kd.R_drewN | apply Kd.R_drew)); exact Jh.out), (by (with_reducible repeat (first | apply Kd.R_alloc | apply Kd.R_drewN | apply Kd.R_drew)); exact Jg.out), (by (with_reducible repeat (first | refine blk_drewN ?_ _ | refine blk_drew ?_ | refine blk_alloc ?_ _)); exact J0.out), (by (with_reducible repeat (first | refine blk_drewN ?_ _ | refine blk_drew ?_ | refine blk_alloc ?_ _)); exact J3.out), (by repeat (first | (with_reducible first | exact HB.out | apply below_alloc | apply pw_below_drewN | apply below_drew1 | refine below_set ?_ J8.out | refine below_set ?_ J9.out) | exact HB.out))⟩)
                · skip
                  refine box_step ?hg (N := 4) ?hd (cs := #[.int .i64 0, .int .i64 0, .slice none 0 0, .slice none 0 0, .slice none 0 0]) (t := 28) ?hr ?_; (case hd => rfl); (case hg => rfl); (case hr => first | (go_simp; done) | (go_simp; rfl))
                  intro J4 hg w18 hbox hb
                  have n0_ := Aside0.mk (Kd.S_below (by (with_reducible repeat (first | apply Kd.S_alloc | apply Kd.S_drewN | apply Kd.S_drew)); exact J5.out) hb)
                  have n1_ := Aside0.mk (Kd.S_below (by (with_reducible repeat (first | apply Kd.S_alloc | apply Kd.S_drewN | apply Kd.S_drew)); exact J6.out) hb)
                  have n2_ := Aside0.mk (Kd.R_below (by (with_reducible repeat (first | apply Kd.R_alloc | apply Kd.R_drewN | apply Kd.R_drew)); exact Jh.out) hb)
                  have n3_ := Aside0.mk (blk_below (g := J1) (o := .cells #[.int .i64 0, .int .i64 0, .slice none 0 0, .int .i64 0, .int .i64 0, .slice none 0 0, .slice none 0 0, .slice none 0 0] 30 (0, 0)) (by (with_reducible repeat (first | refine blk_drewN ?_ _ | refine blk_drew ?_ | refine blk_alloc ?_ _)); exact J0.out) hb)
                  have n4_ := Aside0.mk (blk_below (g := J2) (o := .cells #[.int .i64 t160, .int .i64 t161, .int .i64 t162, .int .i64 t163, .slice Ao10 t164.length co10, .slice Ao11 t167.length co11] 114 (0, 0)) (by (with_reducible repeat (first | refine blk_drewN ?_ _ | refine blk_drew ?_ | refine blk_alloc ?_ _)); exact J3.out) hb)
                  have n5_ := Aside0.mk (below_step (by repeat (first | (with_reducible first | exact HB.out | apply below_alloc | apply pw_below_drewN | apply below_drew1 | refine below_set ?_ J8.out | refine below_set ?_ J9.out) | exact HB.out)) hb)
                  have n6_ := Aside0.mk (hbox)
                  have n7_ := Aside0.mk ((by rw [hg]; exact (below_size (by repeat (first | (with_reducible first | exact HB.out | apply below_alloc | apply pw_below_drewN | apply below_drew1 | refine below_set ?_ J8.out | refine below_set ?_ J9.out) | exact HB.out))) : w.heap.size ≤ J4))
                  have n8_ := Aside0.mk ((by rw [hg]; exact (below_size (by repeat (first | (with_reducible first | exact HB.out | apply below_alloc | apply pw_below_drewN | apply below_drew1 | refine below_set ?_ J8.out | refine below_set ?_ J9.out) | exact HB.out))) : w.heap.size ≤ J4))
                  have n9_ := Aside0.mk ((by rw [hg]; exact Nat.ne_of_lt (blk_lt (g := J1) (o := .cells #[.int .i64 0, .int .i64 0, .slice none 0 0, .int .i64 0, .int .i64 0, .slice none 0 0, .slice none 0 0, .slice none 0 0] 30 (0, 0)) (by (with_reducible repeat (first | refine blk_drewN ?_ _ | refine blk_drew ?_ | refine blk_alloc ?_ _)); exact J0.out)) : J1 ≠ J4))
                  have n10_ := Aside0.mk ((by rw [hg]; exact Nat.ne_of_gt (blk_lt (g := J1) (o := .cells #[.int .i64 0, .int .i64 0, .slice none 0 0, .int .i64 0, .int .i64 0, .slice none 0 0, .slice none 0 0, .slice none 0 0] 30 (0, 0)) (by (with_reducible repeat (first | refine blk_drewN ?_ _ | refine blk_drew ?_ | refine blk_alloc ?_ _)); exact J0.out)) : J4 ≠ J1))
                  have n11_ := Aside0.mk ((by rw [hg]; exact Nat.ne_of_lt (blk_lt (g := J2) (o := .cells #[.int .i64 t160, .int .i64 t161, .int .i64 t162, .int .i64 t163, .slice Ao10 t164.length co10, .slice Ao11 t167.length co11] 114 (0, 0)) (by (with_reducible repeat (first | refine blk_drewN ?_ _ | refine blk_drew ?_ | refine blk_alloc ?_ _)); exact J3.out)) : J2 ≠ J4))
                  have n12_ := Aside0.mk ((by rw [hg]; exact Nat.ne_of_gt (blk_lt (g := J2) (o := .cells #[.int .i64 t160, .int .i64 t161, .int .i64 t162, .int .i64 t163, .slice Ao10 t164.length co10, .slice Ao11 t167.length co11] 114 (0, 0)) (by (with_reducible repeat (first | refine blk_drewN ?_ _ | refine blk_drew ?_ | refine blk_alloc ?_ _)); exact J3.out)) : J4 ≠ J2))
                  clear J5
                  clear J6
                  clear Jh
                  clear J0
                  clear J3
                  clear HB
                  have J5 := n0_
                  have J6 := n1_
                  have Jh := n2_
                  have J0 := n3_
                  have J3 := n4_
                  have HB := n5_
                  have J7 := n6_
                  have Jn := n7_
                  have Jf := n8_
                  have Ja := n9_
                  have Jc := n10_
                  have Jb := n11_
                  have Jd := n12_
                  clear n0_ n1_ n2_ n3_ n4_ n5_ n6_ n7_ n8_ n9_ n10_ n11_ n12_
                  clear hb hbox hg
                  refine hK.out _ _ trivial (fun hHeld => ?_)
                  clear hK K
                  refine norm_ (a' := ?_) ?_ ?_
                  rotate_left
                  · show Act.put _ (some 4) _ = _
                    simp only [Act.put, List.setIfInBounds_toArray, List.set_cons_zero, List.set_cons_succ, i64_w, i32_w]
                    rfl
                  exact norm_ (by first | (simp only [putAll, Act.put, List.setIfInBounds_toArray, List.set_cons_zero, List.set_cons_succ]; done) | (simp only [putAll, Act.put, List.setIfInBounds_toArray, List.set_cons_zero, List.set_cons_succ]; rfl)) (hJ0_2_5 (v188, v191, J4) _ ⟨(by (with_reducible repeat (first | apply Kd.S_alloc | apply Kd.S_drewN | apply Kd.S_drew)); exact J5.out), (by (with_reducible repeat (first | apply Kd.S_alloc | apply Kd.S_drewN | apply Kd.S_drew)); exact J6.out), (by (with_reducible repeat (first | apply Kd.R_alloc | apply Kd.R_drewN | apply Kd.R_drew)); exact Jh.out), (by (with_reducible repeat (first | refine blk_drewN ?_ _ | refine blk_drew ?_ | refine blk_alloc ?_ _)); exact J0.out), (by (with_reducible repeat (first | refine blk_drewN ?_ _ | refine blk_drew ?_ | refine blk_alloc ?_ _)); exact J3.out), (by (with_reducible repeat (first | refine blk_drewN ?_ _ | refine blk_drew ?_ | refine blk_alloc ?_ _)); exact J7.out), Jn.out, Jf.out, Ja.out, Jc.out, Jb.out, Jd.out, (by repeat (first | (with_reducible first | exact HB.out | apply below_alloc | apply pw_below_drewN | apply below_drew1 | refine below_set ?_ J8.out | refine below_set ?_ J9.out | refine below_set ?_ Jf.out) | exact HB.out))⟩)
            · skip
              rintro ⟨v188, v194, J4⟩ w19 ⟨h0_, h1_, h2_, h3_, h4_, h5_, h6_, h7_, h8_, h9_, h10_, h11_, h12_, h13_⟩
              have n0_ : Aside0 (Kd.S k243 243 w19 w.heap.size (fun _ => True) (.slice Ao10 t164.length co10) t164) := ⟨h0_⟩
              have n1_ : Aside0 (Kd.S k189 189 w19 w.heap.size (fun _ => True) (.slice Ao11 t167.length co11) t167) := ⟨h1_⟩
              have n2_ : Aside0 (Kd.R k118 118 w19 w.heap.size (fun _ => True) v188 y187) := ⟨h2_⟩
              have n3_ : Aside0 (Kd.R (Kd.int .i64) 2 w19 w.heap.size (fun _ => True) v194 y193) := ⟨h3_⟩
              have n4_ : Aside0 (w19.heap[J1]? = some (.cells #[.int .i64 0, .int .i64 0, .slice none 0 0, .int .i64 0, .int .i64 0, .slice none 0 0, .slice none 0 0, .slice none 0 0] 30 (0, 0))) := ⟨h4_⟩
              have n5_ : Aside0 (w19.heap[J2]? = some (.cells #[.int .i64 t160, .int .i64 t161, .int .i64 t162, .int .i64 t163, .slice Ao10 t164.length co10, .slice Ao11 t167.length co11] 114 (0, 0))) := ⟨h5_⟩
              have n6_ : Aside0 (w19.heap[J4]? = some (.cells #[.int .i64 0, .int .i64 0, .slice none 0 0, .slice none 0 0, .slice none 0 0] 28 (0, 0))) := ⟨h6_⟩
              have n7_ : Aside0 (w.heap.size ≤ J4) := ⟨h7_⟩
              have n8_ : Aside0 (w.heap.size ≤ J4) := ⟨h8_⟩
              have n9_ : Aside0 (J1 ≠ J4) := ⟨h9_⟩
              have n10_ : Aside0 (J4 ≠ J1) := ⟨h10_⟩
              have n11_ : Aside0 (J2 ≠ J4) := ⟨h11_⟩
              have n12_ : Aside0 (J4 ≠ J2) := ⟨h12_⟩
              have n13_ : Aside0 (Below w.heap.size w w19) := ⟨h13_⟩
              clear J5
              clear J6
              clear J0
              clear J3
              clear HB
              clear h0_ h1_ h2_ h3_ h4_ h5_ h6_ h7_ h8_ h9_ h10_ h11_ h12_ h13_
              have J5 := n0_
              have J6 := n1_
              have Je := n2_
              have Jg := n3_
              have J0 := n4_
              have J3 := n5_
              have J7 := n6_
              have Jn := n7_
              have Jf := n8_
              have Ja := n9_
              have Jc := n10_
              have Jb := n11_
              have Jd := n12_
              have HB := n13_
              clear n0_ n1_ n2_ n3_ n4_ n5_ n6_ n7_ n8_ n9_ n10_ n11_ n12_ n13_
              have hHeld := trivial
              refine norm_ (a' := ?_) ?_ ?_
              rotate_left
              · simp only [putAll, Act.put, List.setIfInBounds_toArray, List.set_cons_zero, List.set_cons_succ]
                rfl
              refine one_ (i := 2) (N := some 16) #[true, true, true, true, false, true, false] rfl rfl (by kernel_rfl) (by decide) (fun K hK => ?_)
              refine Kd.R_append_rows_step k118 (w0 := w) w.heap.size (by rfl) (.tmp 14) (.tmp 15) 24 118 (.agg #[(.int .i64 0), (.int .i64 0)]) 16 rfl Try.underlying24 info118 rfl (by decide) (by omega) v188 y187 l0 _ _ _ (fun _ => True) (fun _ => False) rfl rfl ?aO ?aR (fun _ _ h => h) (fun _ h => h.elim) ?aF ?aB ?aS ?aL ?_
              (case aR => repeat (first | exact (Kd.C_below HR0.out HB.out) | (with_reducible refine Kd.C_alloc ?_ _) | (with_reducible refine Kd.C_drewN ?_ _) | (with_reducible refine Kd.C_drew ?_)))
              (case aB => exact (by repeat (first | (with_reducible first | exact HB.out | apply below_alloc | apply pw_below_drewN | apply below_drew1 | refine below_set ?_ J8.out | refine below_set ?_ J9.out | refine below_set ?_ Jf.out) | exact HB.out)))
              (case aF => exact (fun _ _ => trivial))
              (case aO => exact (by (with_reducible repeat (first | apply Kd.R_alloc | apply Kd.R_drewN | apply Kd.R_drew)); exact Je.out))
              (case aS => exact (below_size (by repeat (first | (with_reducible first | exact HB.out | apply below_alloc | apply pw_below_drewN | apply below_drew1 | refine below_set ?_ J8.out | refine below_set ?_ J9.out | refine below_set ?_ Jf.out) | exact HB.out))))
              (case aL => have := LMc4.out; omega)
              intro v191 w20 ho hb hg hat
              rw [← Ny190.out] at ho
              have n0_ := Aside0.mk (blk_grown (g := J1) (o := .cells #[.int .i64 0, .int .i64 0, .slice none 0 0, .int .i64 0, .int .i64 0, .slice none 0 0, .slice none 0 0, .slice none 0 0] 30 (0, 0)) (by (with_reducible repeat (first | refine blk_drewN ?_ _ | refine blk_drew ?_ | refine blk_alloc ?_ _)); exact J0.out) hg (Kd.R_ne Je.out J0.out (by decide)))
              have n1_ := Aside0.mk (Kd.S_over' (by (with_reducible repeat (first | apply Kd.S_alloc | apply Kd.S_drewN | apply Kd.S_drew)); exact J5.out) (Kd.R_typed (by (with_reducible repeat (first | apply Kd.R_alloc | apply Kd.R_drewN | apply Kd.R_drew)); exact Je.out)) (by decide) hg)
              have n2_ := Aside0.mk (Kd.S_over' (by (with_reducible repeat (first | apply Kd.S_alloc | apply Kd.S_drewN | apply Kd.S_drew)); exact J6.out) (Kd.R_typed (by (with_reducible repeat (first | apply Kd.R_alloc | apply Kd.R_drewN | apply Kd.R_drew)); exact Je.out)) (by decide) hg)
              have n3_ := Aside0.mk (blk_grown (g := J2) (o := .cells #[.int .i64 t160, .int .i64 t161, .int .i64 t162, .int .i64 t163, .slice Ao10 t164.length co10, .slice Ao11 t167.length co11] 114 (0, 0)) (by (with_reducible repeat (first | refine blk_drewN ?_ _ | refine blk_drew ?_ | refine blk_alloc ?_ _)); exact J3.out) hg (Kd.R_ne Je.out J3.out (by decide)))
              have n4_ := Aside0.mk (Kd.R_over' (by (with_reducible repeat (first | apply Kd.R_alloc | apply Kd.R_drewN | apply Kd.R_drew)); exact Jg.out) (Kd.R_typed (by (with_reducible repeat (first | apply Kd.R_alloc | apply Kd.R_drewN | apply Kd.R_drew)); exact Je.out)) (by decide) hg)
              have n5_ := Aside0.mk (blk_grown (g := J4) (o := .cells #[.int .i64 0, .int .i64 0, .slice none 0 0, .slice none 0 0, .slice none 0 0] 28 (0, 0)) (by (with_reducible repeat (first | refine blk_drewN ?_ _ | refine blk_drew ?_ | refine blk_alloc ?_ _)); exact J7.out) hg (Kd.R_ne Je.out J7.out (by decide)))
              have n6_ := Aside0.mk (hb)
              have n7_ := Aside0.mk (ho)
              clear J0
              clear J5
              clear J6
              clear J3
              clear Jg
              clear J7
              clear HB
              clear Je
              have J0 := n0_
              have J5 := n1_
              have J6 := n2_
              have J3 := n3_
              have Jg := n4_
              have J7 := n5_
              have HB := n6_
              have Jh := n7_
              clear n0_ n1_ n2_ n3_ n4_ n5_ n6_ n7_
              clear ho hb hg hat
              obtain ⟨Ao21, co21, eo21⟩ := Kd.R_slice Jg.out
              (first | subst eo21 | (injection eo21 with f1_ f2_ f3_; have f4_ := f1_.symm; have f5_ := f3_.symm; clear f1_ f2_ f3_; subst f4_; subst f5_))
              obtain ⟨Ao22, co22, eo22⟩ := Kd.R_slice Jh.out
              (first | subst eo22 | (injection eo22 with f1_ f2_ f3_; have f4_ := f1_.symm; have f5_ := f3_.symm; clear f1_ f2_ f3_; subst f4_; subst f5_))
              refine hK.out _ _ trivial (fun hHeld => ?_)
              clear hK K
              refine norm_ (a' := ?_) ?_ ?_
              rotate_left
              · show Act.put _ (some 16) _ = _
                simp only [Act.put, List.setIfInBounds_toArray, List.set_cons_zero, List.set_cons_succ, i64_w, i32_w]
                rfl
              refine pure_ (i := 4) (N := some 18) (v := ?_) (a' := ?_) #[true, true, true, true, true, true, false] rfl rfl (by kernel_rfl) (fun _ _ _ h => h) (Or.inl ⟨by rfl, ?_⟩) ?_ ?_
              rotate_left
              · intro w'
                go_simp
                with_reducible rfl
              rotate_left
              · simp only [Act.put, List.setIfInBounds_toArray, List.set_cons_zero, List.set_cons_succ, i64_w, i32_w]
                rfl
              exact norm_ (by first | (simp only [putAll, Act.put, List.setIfInBounds_toArray, List.set_cons_zero, List.set_cons_succ]; done) | (simp only [putAll, Act.put, List.setIfInBounds_toArray, List.set_cons_zero, List.set_cons_succ]; rfl)) (hJ0_2_3_5 (v188, .slice Ao22 y190.length co22, .slice Ao21 y193.length co21, J4) _ ⟨(by (with_reducible repeat (first | apply Kd.S_alloc | apply Kd.S_drewN | apply Kd.S_drew)); exact J5.out), (by (with_reducible repeat (first | apply Kd.S_alloc | apply Kd.S_drewN | apply Kd.S_drew)); exact J6.out), (by (with_reducible repeat (first | apply Kd.R_alloc | apply Kd.R_drewN | apply Kd.R_drew)); exact Jh.out), (by (with_reducible repeat (first | apply Kd.R_alloc | apply Kd.R_drewN | apply Kd.R_drew)); exact Jg.out), (by (with_reducible repeat (first | refine blk_drewN ?_ _ | refine blk_drew ?_ | refine blk_alloc ?_ _)); exact J0.out), (by (with_reducible repeat (first | refine blk_drewN ?_ _ | refine blk_drew ?_ | refine blk_alloc ?_ _)); exact J3.out), (by (with_reducible repeat (first | refine blk_drewN ?_ _ | refine blk_drew ?_ | refine blk_alloc ?_ _)); exact J7.out), Jn.out, Jf.out, Ja.out, Jc.out, Jb.out, Jd.out, (by repeat (first | (with_reducible first | exact HB.out | apply below_alloc | apply pw_below_drewN | apply below_drew1 | refine below_set ?_ J8.out | refine below_set ?_ J9.out | refine below_set ?_ Jf.out) | exact HB.out))⟩)
          · skip
            rintro ⟨v188, v191, J4⟩ w18 ⟨h0_, h1_, h2_, h3_, h4_, h5_, h6_, h7_, h8_, h9_, h10_, h11_, h12_⟩
            have n0_ : Aside0 (Kd.S k243 243 w18 w.heap.size (fun _ => True) (.slice Ao10 t164.length co10) t164) := ⟨h0_⟩
            have n1_ : Aside0 (Kd.S k189 189 w18 w.heap.size (fun _ => True) (.slice Ao11 t167.length co11) t167) := ⟨h1_⟩
            have n2_ : Aside0 (Kd.R k118 118 w18 w.heap.size (fun _ => True) v191 y190) := ⟨h2_⟩
            have n3_ : Aside0 (w18.heap[J1]? = some (.cells #[.int .i64 0, .int .i64 0, .slice none 0 0, .int .i64 0, .int .i64 0, .slice none 0 0, .slice none 0 0, .slice none 0 0] 30 (0, 0))) := ⟨h3_⟩
            have n4_ : Aside0 (w18.heap[J2]? = some (.cells #[.int .i64 t160, .int .i64 t161, .int .i64 t162, .int .i64 t163, .slice Ao10 t164.length co10, .slice Ao11 t167.length co11] 114 (0, 0))) := ⟨h4_⟩
            have n5_ : Aside0 (w18.heap[J4]? = some (.cells #[.int .i64 0, .int .i64 0, .slice none 0 0, .slice none 0 0, .slice none 0 0] 28 (0, 0))) := ⟨h5_⟩
            have n6_ : Aside0 (w.heap.size ≤ J4) := ⟨h6_⟩
            have n7_ : Aside0 (w.heap.size ≤ J4) := ⟨h7_⟩
            have n8_ : Aside0 (J1 ≠ J4) := ⟨h8_⟩
            have n9_ : Aside0 (J4 ≠ J1) := ⟨h9_⟩
            have n10_ : Aside0 (J2 ≠ J4) := ⟨h10_⟩
            have n11_ : Aside0 (J4 ≠ J2) := ⟨h11_⟩
            have n12_ : Aside0 (Below w.heap.size w w18) := ⟨h12_⟩
            clear J5
            clear J6
            clear J0
            clear J3
            clear HB
            clear h0_ h1_ h2_ h3_ h4_ h5_ h6_ h7_ h8_ h9_ h10_ h11_ h12_
            have J5 := n0_
            have J6 := n1_
            have Jh := n2_
            have J0 := n3_
            have J3 := n4_
            have J7 := n5_
            have Jn := n6_
            have Jf := n7_
            have Ja := n8_
            have Jc := n9_
            have Jb := n10_
            have Jd := n11_
            have HB := n12_
            clear n0_ n1_ n2_ n3_ n4_ n5_ n6_ n7_ n8_ n9_ n10_ n11_ n12_
            have hHeld := trivial
            refine norm_ (a' := ?_) ?_ ?_
            rotate_left
            · simp only [putAll, Act.put, List.setIfInBounds_toArray, List.set_cons_zero, List.set_cons_succ]
              rfl
            refine one_ (i := 3) (N := some 17) #[true, true, true, true, false, true, false] rfl rfl (by kernel_rfl) (by decide) (fun K hK => ?_)
            refine Kd.R_make_step (Kd.int .i64) _ 2 (by rfl) (N := 17) rfl 25 _ _ rfl 32 rfl rfl Try.underlying25 (.int .i64 0) 8 info2 rfl (by decide) (by omega) 0 (ok := fun _ => True) (okp := fun _ => True) rfl (fun _ hk => hk) trivial (by omega) (by omega) (Below.refl _ _) (Nat.le_refl _) ?_
            intro v194 w19 ho20 hb hg_ hnew_
            clear hg_ hnew_
            (first | rw [← Ny193.out] at ho20 | (simp only [Int.reduceToNat] at ho20; rw [← Ny193.out] at ho20))
            have n0_ := Aside0.mk (Kd.S_below (by (with_reducible repeat (first | apply Kd.S_alloc | apply Kd.S_drewN | apply Kd.S_drew)); exact J5.out) hb)
            have n1_ := Aside0.mk (Kd.S_below (by (with_reducible repeat (first | apply Kd.S_alloc | apply Kd.S_drewN | apply Kd.S_drew)); exact J6.out) hb)
            have n2_ := Aside0.mk (Kd.R_below (by (with_reducible repeat (first | apply Kd.R_alloc | apply Kd.R_drewN | apply Kd.R_drew)); exact Jh.out) hb)
            have n3_ := Aside0.mk (Kd.R_lower ho20 (below_size (by repeat (first | (with_reducible first | exact HB.out | apply below_alloc | apply pw_below_drewN | apply below_drew1 | refine below_set ?_ J8.out | refine below_set ?_ J9.out | refine below_set ?_ Jf.out) | exact HB.out))))
            have n4_ := Aside0.mk (blk_below (g := J1) (o := .cells #[.int .i64 0, .int .i64 0, .slice none 0 0, .int .i64 0, .int .i64 0, .slice none 0 0, .slice none 0 0, .slice none 0 0] 30 (0, 0)) (by (with_reducible repeat (first | refine blk_drewN ?_ _ | refine blk_drew ?_ | refine blk_alloc ?_ _)); exact J0.out) hb)
            have n5_ := Aside0.mk (blk_below (g := J2) (o := .cells #[.int .i64 t160, .int .i64 t161, .int .i64 t162, .int .i64 t163, .slice Ao10 t164.length co10, .slice Ao11 t167.length co11] 114 (0, 0)) (by (with_reducible repeat (first | refine blk_drewN ?_ _ | refine blk_drew ?_ | refine blk_alloc ?_ _)); exact J3.out) hb)
            have n6_ := Aside0.mk (blk_below (g := J4) (o := .cells #[.int .i64 0, .int .i64 0, .slice none 0 0, .slice none 0 0, .slice none 0 0] 28 (0, 0)) (by (with_reducible repeat (first | refine blk_drewN ?_ _ | refine blk_drew ?_ | refine blk_alloc ?_ _)); exact J7.out) hb)
            have n7_ := Aside0.mk (below_step (by repeat (first | (with_reducible first | exact HB.out | apply below_alloc | apply pw_below_drewN | apply below_drew1 | refine below_set ?_ J8.out | refine below_set ?_ J9.out | refine below_set ?_ Jf.out) | exact HB.out)) hb)
            clear J5
            clear J6
            clear Jh
            clear J0
            clear J3
            clear J7
            clear HB
            have J5 := n0_
            have J6 := n1_
            have Jh := n2_
            have Jg := n3_
            have J0 := n4_
            have J3 := n5_
            have J7 := n6_
            have HB := n7_
            clear n0_ n1_ n2_ n3_ n4_ n5_ n6_ n7_
            clear hb ho20
            obtain ⟨Ao21, co21, eo21⟩ := Kd.R_slice Jg.out
            (first | subst eo21 | (injection eo21 with f1_ f2_ f3_; have f4_ := f1_.symm; have f5_ := f3_.symm; clear f1_ f2_ f3_; subst f4_; subst f5_))
            obtain ⟨Ao22, co22, eo22⟩ := Kd.R_slice Jh.out
            (first | subst eo22 | (injection eo22 with f1_ f2_ f3_; have f4_ := f1_.symm; have f5_ := f3_.symm; clear f1_ f2_ f3_; subst f4_; subst f5_))
            refine hK.out _ _ trivial (fun hHeld => ?_)
            clear hK K
            refine norm_ (a' := ?_) ?_ ?_
            rotate_left
            · show Act.put _ (some 17) _ = _
              simp only [Act.put, List.setIfInBounds_toArray, List.set_cons_zero, List.set_cons_succ, i64_w, i32_w]
              rfl
            refine pure_ (i := 4) (N := some 18) (v := ?_) (a' := ?_) #[true, true, true, true, true, true, false] rfl rfl (by kernel_rfl) (fun _ _ _ h => h) (Or.inl ⟨by rfl, ?_⟩) ?_ ?_
            rotate_left
            · intro w'
              go_simp
              with_reducible rfl
            rotate_left
            · simp only [Act.put, List.setIfInBounds_toArray, List.set_cons_zero, List.set_cons_succ, i64_w, i32_w]
              rfl
            exact norm_ (by first | (simp only [putAll, Act.put, List.setIfInBounds_toArray, List.set_cons_zero, List.set_cons_succ]; done) | (simp only [putAll, Act.put, List.setIfInBounds_toArray, List.set_cons_zero, List.set_cons_succ]; rfl)) (hJ0_2_3_5 (v188, .slice Ao22 y190.length co22, .slice Ao21 y193.length co21, J4) _ ⟨(by (with_reducible repeat (first | apply Kd.S_alloc | apply Kd.S_drewN | apply Kd.S_drew)); exact J5.out), (by (with_reducible repeat (first | apply Kd.S_alloc | apply Kd.S_drewN | apply Kd.S_drew)); exact J6.out), (by (with_reducible repeat (first | apply Kd.R_alloc | apply Kd.R_drewN | apply Kd.R_drew)); exact Jh.out), (by (with_reducible repeat (first | apply Kd.R_alloc | apply Kd.R_drewN | apply Kd.R_drew)); exact Jg.out), (by (with_reducible repeat (first | refine blk_drewN ?_ _ | refine blk_drew ?_ | refine blk_alloc ?_ _)); exact J0.out), (by (with_reducible repeat (first | refine blk_drewN ?_ _ | refine blk_drew ?_ | refine blk_alloc ?_ _)); exact J3.out), (by (with_reducible repeat (first | refine blk_drewN ?_ _ | refine blk_drew ?_ | refine blk_alloc ?_ _)); exact J7.out), Jn.out, Jf.out, Ja.out, Jc.out, Jb.out, Jd.out, (by repeat (first | (with_reducible first | exact HB.out | apply below_alloc | apply pw_below_drewN | apply below_drew1 | refine below_set ?_ J8.out | refine below_set ?_ J9.out | refine below_set ?_ Jf.out) | exact HB.out))⟩)
        · skip
          rintro ⟨v188, v191, v194⟩ w21 ⟨h0_, h1_, h2_, h3_, h4_, h5_, h6_⟩
          have n0_ : Aside0 (Kd.S k243 243 w21 w.heap.size (fun _ => True) (.slice Ao10 t164.length co10) t164) := ⟨h0_⟩
          have n1_ : Aside0 (Kd.S k189 189 w21 w.heap.size (fun _ => True) (.slice Ao11 t167.length co11) t167) := ⟨h1_⟩
          have n2_ : Aside0 (Kd.R k118 118 w21 w.heap.size (fun _ => True) v191 y190) := ⟨h2_⟩
          have n3_ : Aside0 (Kd.R (Kd.int .i64) 2 w21 w.heap.size (fun _ => True) v194 y193) := ⟨h3_⟩
          have n4_ : Aside0 (w21.heap[J1]? = some (.cells #[.int .i64 0, .int .i64 0, .slice none 0 0, .int .i64 0, .int .i64 0, .slice none 0 0, .slice none 0 0, .slice none 0 0] 30 (0, 0))) := ⟨h4_⟩
          have n5_ : Aside0 (w21.heap[J2]? = some (.cells #[.int .i64 t160, .int .i64 t161, .int .i64 t162, .int .i64 t163, .slice Ao10 t164.length co10, .slice Ao11 t167.length co11] 114 (0, 0))) := ⟨h5_⟩
          have n6_ : Aside0 (Below w.heap.size w w21) := ⟨h6_⟩
          clear J5
          clear J6
          clear J0
          clear J3
          clear HB
          clear h0_ h1_ h2_ h3_ h4_ h5_ h6_
          have J5 := n0_
          have J6 := n1_
          have Jh := n2_
          have Jg := n3_
          have J0 := n4_
          have J3 := n5_
          have HB := n6_
          clear n0_ n1_ n2_ n3_ n4_ n5_ n6_
          have hHeld := trivial
          obtain ⟨Ao22, co22, eo22⟩ := Kd.R_slice Jg.out
          (first | subst eo22 | (injection eo22 with f1_ f2_ f3_; have f4_ := f1_.symm; have f5_ := f3_.symm; clear f1_ f2_ f3_; subst f4_; subst f5_))
          obtain ⟨Ao23, co23, eo23⟩ := Kd.R_slice Jh.out
          (first | subst eo23 | (injection eo23 with f1_ f2_ f3_; have f4_ := f1_.symm; have f5_ := f3_.symm; clear f1_ f2_ f3_; subst f4_; subst f5_))
          refine norm_ (a' := ?_) ?_ ?_
          rotate_left
          · simp only [putAll, Act.put, List.setIfInBounds_toArray, List.set_cons_zero, List.set_cons_succ]
            rfl
          refine one_ (i := 5) (N := some 4) #[true, true, true, true, true, true, false] rfl rfl (by kernel_rfl) (by decide) (fun K hK => ?_)
          refine box_step ?hg (N := 4) ?hd (cs := #[.int .i64 0, .int .i64 0, .slice none 0 0, .slice none 0 0, .slice none 0 0]) (t := 28) ?hr ?_; (case hd => rfl); (case hg => rfl); (case hr => first | (go_simp; done) | (go_simp; rfl))
          intro J4 hg w24 hbox hb
          have n0_ := Aside0.mk (Kd.S_below (by (with_reducible repeat (first | apply Kd.S_alloc | apply Kd.S_drewN | apply Kd.S_drew)); exact J5.out) hb)
          have n1_ := Aside0.mk (Kd.S_below (by (with_reducible repeat (first | apply Kd.S_alloc | apply Kd.S_drewN | apply Kd.S_drew)); exact J6.out) hb)
          have n2_ := Aside0.mk (Kd.R_below (by (with_reducible repeat (first | apply Kd.R_alloc | apply Kd.R_drewN | apply Kd.R_drew)); exact Jh.out) hb)
          have n3_ := Aside0.mk (Kd.R_below (by (with_reducible repeat (first | apply Kd.R_alloc | apply Kd.R_drewN | apply Kd.R_drew)); exact Jg.out) hb)
          have n4_ := Aside0.mk (blk_below (g := J1) (o := .cells #[.int .i64 0, .int .i64 0, .slice none 0 0, .int .i64 0, .int .i64 0, .slice none 0 0, .slice none 0 0, .slice none 0 0] 30 (0, 0)) (by (with_reducible repeat (first | refine blk_drewN ?_ _ | refine blk_drew ?_ | refine blk_alloc ?_ _)); exact J0.out) hb)
          have n5_ := Aside0.mk (blk_below (g := J2) (o := .cells #[.int .i64 t160, .int .i64 t161, .int .i64 t162, .int .i64 t163, .slice Ao10 t164.length co10, .slice Ao11 t167.length co11] 114 (0, 0)) (by (with_reducible repeat (first | refine blk_drewN ?_ _ | refine blk_drew ?_ | refine blk_alloc ?_ _)); exact J3.out) hb)
          have n6_ := Aside0.mk (below_step (by repeat (first | (with_reducible first | exact HB.out | apply below_alloc | apply pw_below_drewN | apply below_drew1 | refine below_set ?_ J8.out | refine below_set ?_ J9.out) | exact HB.out)) hb)
          have n7_ := Aside0.mk (hbox)
          have n8_ := Aside0.mk ((by rw [hg]; exact (below_size (by repeat (first | (with_reducible first | exact HB.out | apply below_alloc | apply pw_below_drewN | apply below_drew1 | refine below_set ?_ J8.out | refine below_set ?_ J9.out) | exact HB.out))) : w.heap.size ≤ J4))
          have n9_ := Aside0.mk ((by rw [hg]; exact (below_size (by repeat (first | (with_reducible first | exact HB.out | apply below_alloc | apply pw_below_drewN | apply below_drew1 | refine below_set ?_ J8.out | refine below_set ?_ J9.out) | exact HB.out))) : w.heap.size ≤ J4))
          have n10_ := Aside0.mk ((by rw [hg]; exact Nat.ne_of_lt (blk_lt (g := J1) (o := .cells #[.int .i64 0, .int .i64 0, .slice none 0 0, .int .i64 0, .int .i64 0, .slice none 0 0, .slice none 0 0, .slice none 0 0] 30 (0, 0)) (by (with_reducible repeat (first | refine blk_drewN ?_ _ | refine blk_drew ?_ | refine blk_alloc ?_ _)); exact J0.out)) : J1 ≠ J4))
          have n11_ := Aside0.mk ((by rw [hg]; exact Nat.ne_of_gt (blk_lt (g := J1) (o := .cells #[.int .i64 0, .int .i64 0, .slice none 0 0, .int .i64 0, .int .i64 0, .slice none 0 0, .slice none 0 0, .slice none 0 0] 30 (0, 0)) (by (with_reducible repeat (first | refine blk_drewN ?_ _ | refine blk_drew ?_ | refine blk_alloc ?_ _)); exact J0.out)) : J4 ≠ J1))
          have n12_ := Aside0.mk ((by rw [hg]; exact Nat.ne_of_lt (blk_lt (g := J2) (o := .cells #[.int .i64 t160, .int .i64 t161, .int .i64 t162, .int .i64 t163, .slice Ao10 t164.length co10, .slice Ao11 t167.length co11] 114 (0, 0)) (by (with_reducible repeat (first | refine blk_drewN ?_ _ | refine blk_drew ?_ | refine blk_alloc ?_ _)); exact J3.out)) : J2 ≠ J4))
          have n13_ := Aside0.mk ((by rw [hg]; exact Nat.ne_of_gt (blk_lt (g := J2) (o := .cells #[.int .i64 t160, .int .i64 t161, .int .i64 t162, .int .i64 t163, .slice Ao10 t164.length co10, .slice Ao11 t167.length co11] 114 (0, 0)) (by (with_reducible repeat (first | refine blk_drewN ?_ _ | refine blk_drew ?_ | refine blk_alloc ?_ _)); exact J3.out)) : J4 ≠ J2))
          clear J5
          clear J6
          clear Jh
          clear Jg
          clear J0
          clear J3
          clear HB
          have J5 := n0_
          have J6 := n1_
          have Jh := n2_
          have Jg := n3_
          have J0 := n4_
          have J3 := n5_
          have HB := n6_
          have J7 := n7_
          have Jn := n8_
          have Jf := n9_
          have Ja := n10_
          have Jc := n11_
          have Jb := n12_
          have Jd := n13_
          clear n0_ n1_ n2_ n3_ n4_ n5_ n6_ n7_ n8_ n9_ n10_ n11_ n12_ n13_
          clear hb hbox hg
          refine hK.out _ _ trivial (fun hHeld => ?_)
          clear hK K
          refine norm_ (a' := ?_) ?_ ?_
          rotate_left
          · show Act.put _ (some 4) _ = _
            simp only [Act.put, List.setIfInBounds_toArray, List.set_cons_zero, List.set_cons_succ, i64_w, i32_w]
            rfl
          exact norm_ (by first | (simp only [putAll, Act.put, List.setIfInBounds_toArray, List.set_cons_zero, List.set_cons_succ]; done) | (simp only [putAll, Act.put, List.setIfInBounds_toArray, List.set_cons_zero, List.set_cons_succ]; rfl)) (hJ0_2_3_5 (v188, .slice Ao23 y190.length co23, .slice Ao22 y193.length co22, J4) _ ⟨(by (with_reducible repeat (first | apply Kd.S_alloc | apply Kd.S_drewN | apply Kd.S_drew)); exact J5.out), (by (with_reducible repeat (first | apply Kd.S_alloc | apply Kd.S_drewN | apply Kd.S_drew)); exact J6.out), (by (with_reducible repeat (first | apply Kd.R_alloc | apply Kd.R_drewN | apply Kd.R_drew)); exact Jh.out), (by (with_reducible repeat (first | apply Kd.R_alloc | apply Kd.R_drewN | apply Kd.R_drew)); exact Jg.out), (by (with_reducible repeat (first | refine blk_drewN ?_ _ | refine blk_drew ?_ | refine blk_alloc ?_ _)); exact J0.out), (by (with_reducible repeat (first | refine blk_drewN ?_ _ | refine blk_drew ?_ | refine blk_alloc ?_ _)); exact J3.out), (by (with_reducible repeat (first | refine blk_drewN ?_ _ | refine blk_drew ?_ | refine blk_alloc ?_ _)); exact J7.out), Jn.out, Jf.out, Ja.out, Jc.out, Jb.out, Jd.out, (by repeat (first | (with_reducible first | exact HB.out | apply below_alloc | apply pw_below_drewN | apply below_drew1 | refine below_set ?_ J8.out | refine below_set ?_ J9.out | refine below_set ?_ Jf.out) | exact HB.out))⟩)
      rintro ⟨v188, v191, v194, J4⟩ w22 ⟨h0_, h1_, h2_, h3_, h4_, h5_, h6_, h7_, h8_, h9_, h10_, h11_, h12_, h13_⟩
      have n0_ : Aside0 (Kd.S k243 243 w22 w.heap.size (fun _ => True) (.slice Ao10 t164.length co10) t164) := ⟨h0_⟩
      have n1_ : Aside0 (Kd.S k189 189 w22 w.heap.size (fun _ => True) (.slice Ao11 t167.length co11) t167) := ⟨h1_⟩
      have n2_ : Aside0 (Kd.R k118 118 w22 w.heap.size (fun _ => True) v191 y190) := ⟨h2_⟩
      have n3_ : Aside0 (Kd.R (Kd.int .i64) 2 w22 w.heap.size (fun _ => True) v194 y193) := ⟨h3_⟩
      have n4_ : Aside0 (w22.heap[J1]? = some (.cells #[.int .i64 0, .int .i64 0, .slice none 0 0, .int .i64 0, .int .i64 0, .slice none 0 0, .slice none 0 0, .slice none 0 0] 30 (0, 0))) := ⟨h4_⟩
      have n5_ : Aside0 (w22.heap[J2]? = some (.cells #[.int .i64 t160, .int .i64 t161, .int .i64 t162, .int .i64 t163, .slice Ao10 t164.length co10, .slice Ao11 t167.length co11] 114 (0, 0))) := ⟨h5_⟩
      have n6_ : Aside0 (w22.heap[J4]? = some (.cells #[.int .i64 0, .int .i64 0, .slice none 0 0, .slice none 0 0, .slice none 0 0] 28 (0, 0))) := ⟨h6_⟩
      have n7_ : Aside0 (w.heap.size ≤ J4) := ⟨h7_⟩
      have n8_ : Aside0 (w.heap.size ≤ J4) := ⟨h8_⟩
      have n9_ : Aside0 (J1 ≠ J4) := ⟨h9_⟩
      have n10_ : Aside0 (J4 ≠ J1) := ⟨h10_⟩
      have n11_ : Aside0 (J2 ≠ J4) := ⟨h11_⟩
      have n12_ : Aside0 (J4 ≠ J2) := ⟨h12_⟩
      have n13_ : Aside0 (Below w.heap.size w w22) := ⟨h13_⟩
      clear J5
      clear J6
      clear J0
      clear J3
      clear HB
      clear h0_ h1_ h2_ h3_ h4_ h5_ h6_ h7_ h8_ h9_ h10_ h11_ h12_ h13_
      have J5 := n0_
      have J6 := n1_
      have Jh := n2_
      have Jg := n3_
      have J0 := n4_
      have J3 := n5_
      have J7 := n6_
      have Jn := n7_
      have Jf := n8_
      have Ja := n9_
      have Jc := n10_
      have Jb := n11_
      have Jd := n12_
      have HB := n13_
      clear n0_ n1_ n2_ n3_ n4_ n5_ n6_ n7_ n8_ n9_ n10_ n11_ n12_ n13_
      have hHeld := trivial
      obtain ⟨Ao23, co23, eo23⟩ := Kd.R_slice Jg.out
      (first | subst eo23 | (injection eo23 with f1_ f2_ f3_; have f4_ := f1_.symm; have f5_ := f3_.symm; clear f1_ f2_ f3_; subst f4_; subst f5_))
      obtain ⟨Ao24, co24, eo24⟩ := Kd.R_slice Jh.out
      (first | subst eo24 | (injection eo24 with f1_ f2_ f3_; have f4_ := f1_.symm; have f5_ := f3_.symm; clear f1_ f2_ f3_; subst f4_; subst f5_))
      refine norm_ (a' := ?_) ?_ ?_
      rotate_left
      · simp only [putAll, Act.put, List.setIfInBounds_toArray, List.set_cons_zero, List.set_cons_succ]
        rfl
      refine one_ (i := 6) (N := none) #[true, true, true, true, true, true, true] rfl rfl (by kernel_rfl) (by decide) (fun K hK => ?_)
      have hs25 : w22.cell? ⟨J4, 0, none⟩ = some (.int .i64 0) := (blk_cell J7.out 0).trans rfl
      have hfs25 := blk_frozen J7.out 0
      have hns25_0 := Ja.out
      have hns25_1 := Jb.out
      have hms25_0 := Jc.out
      have hms25_1 := Jd.out
      have hs26 : w22.cell? ⟨J4, 1, none⟩ = some (.int .i64 0) := (blk_cell J7.out 1).trans rfl
      have hfs26 := blk_frozen J7.out 1
      have hns26_0 := Ja.out
      have hns26_1 := Jb.out
      have hms26_0 := Jc.out
      have hms26_1 := Jd.out
      have hs27 : w22.cell? ⟨J4, 2, none⟩ = some (.slice none 0 0) := (blk_cell J7.out 2).trans rfl
      have hfs27 := blk_frozen J7.out 2
      have hns27_0 := Ja.out
      have hns27_1 := Jb.out
      have hms27_0 := Jc.out
      have hms27_1 := Jd.out
      have hs28 : w22.cell? ⟨J4, 3, none⟩ = some (.slice none 0 0) := (blk_cell J7.out 3).trans rfl
      have hfs28 := blk_frozen J7.out 3
      have hns28_0 := Ja.out
      have hns28_1 := Jb.out
      have hms28_0 := Jc.out
      have hms28_1 := Jd.out
      have hs29 : w22.cell? ⟨J4, 4, none⟩ = some (.slice none 0 0) := (blk_cell J7.out 4).trans rfl
      have hfs29 := blk_frozen J7.out 4
      have hns29_0 := Ja.out
      have hns29_1 := Jb.out
      have hms29_0 := Jc.out
      have hms29_1 := Jd.out
      refine skip_ (w1 := ?_) (by rfl) rfl ?_ ?_
      rotate_left
      · go_simp
        rfl
      refine hK.out _ _ trivial (fun hHeld => ?_)
      clear hK K
      refine done_ (by kernel_rfl) ?_
      try go_wp2
      go_loopg [5] k (fun kq v5 w' => ∃ (x5_1 : Int) (Jm : Int) (Ji : List Int) (Ju : Value), v5 = .int .i64 x5_1 ∧ Aside0 (spec_NewCopies.l0 kq l0 x5_1 2 Jm y190 Ji = some (r1, r2, r3, r4, r5, r6, r7, r8)) ∧ Aside0 (kq ≤ k) ∧ Aside0 (Kd.S k243 243 w' w.heap.size (fun _ => True) (.slice Ao10 t164.length co10) t164) ∧ Aside0 (Kd.S k189 189 w' w.heap.size (fun _ => True) (.slice Ao11 t167.length co11) t167) ∧ Aside0 (Kd.R k118 118 w' w.heap.size (fun _ => True) (.slice Ao24 y190.length co24) y190) ∧ Aside0 (Kd.R (Kd.int .i64) 2 w' w.heap.size (fun _ => True) Ju Ji) ∧ Aside0 (w'.heap[J1]? = some (.cells #[.int .i64 0, .int .i64 0, (.slice none 0 0), .int .i64 0, .int .i64 0, (.slice none 0 0), (.slice none 0 0), (.slice none 0 0)] 30 (0, 0))) ∧ Aside0 (w'.heap[J2]? = some (.cells #[.int .i64 t160, .int .i64 t161, .int .i64 t162, .int .i64 t163, (.slice Ao10 t164.length co10), (.slice Ao11 t167.length co11)] 114 (0, 0))) ∧ Aside0 (w'.heap[J4]? = some (.cells #[.int .i64 2, .int .i64 Jm, (.slice Ao24 y190.length co24), Ju, (.slice none 0 0)] 28 (0, 0))) ∧ Aside0 (Below w.heap.size w w'))
      case atStart => exact ⟨(0), (0), (y193), (.slice Ao23 y193.length co23), (by first | rfl | (simp; done) | (simp [*]; done)), H', ⟨Nat.le_refl _⟩, ⟨by (with_reducible repeat (first | apply Kd.S_alloc | apply Kd.S_drewN | apply Kd.S_drew)); exact Kd.S_mono (Kd.S_far (p := ⟨J4, 4, none⟩) (Kd.S_far (p := ⟨J4, 3, none⟩) (Kd.S_far (p := ⟨J4, 2, none⟩) (Kd.S_far (p := ⟨J4, 1, none⟩) (Kd.S_far (p := ⟨J4, 0, none⟩) (Kd.S_types J5.out J7.out (by decide)) (fun _ hk => hk.2) (.int .i64 2)) (fun _ hk => hk.2) (.int .i64 0)) (fun _ hk => hk.2) (.slice Ao24 y190.length co24)) (fun _ hk => hk.2) (.slice Ao23 y193.length co23)) (fun _ hk => hk.2) (.slice none 0 0)) (fun _ hk => trivial)⟩, ⟨by (with_reducible repeat (first | apply Kd.S_alloc | apply Kd.S_drewN | apply Kd.S_drew)); exact Kd.S_mono (Kd.S_far (p := ⟨J4, 4, none⟩) (Kd.S_far (p := ⟨J4, 3, none⟩) (Kd.S_far (p := ⟨J4, 2, none⟩) (Kd.S_far (p := ⟨J4, 1, none⟩) (Kd.S_far (p := ⟨J4, 0, none⟩) (Kd.S_types J6.out J7.out (by decide)) (fun _ hk => hk.2) (.int .i64 2)) (fun _ hk => hk.2) (.int .i64 0)) (fun _ hk => hk.2) (.slice Ao24 y190.length co24)) (fun _ hk => hk.2) (.slice Ao23 y193.length co23)) (fun _ hk => hk.2) (.slice none 0 0)) (fun _ hk => trivial)⟩, ⟨by (with_reducible repeat (first | apply Kd.R_alloc | apply Kd.R_drewN | apply Kd.R_drew)); exact Kd.R_mono (Kd.R_far (p := ⟨J4, 4, none⟩) (Kd.R_far (p := ⟨J4, 3, none⟩) (Kd.R_far (p := ⟨J4, 2, none⟩) (Kd.R_far (p := ⟨J4, 1, none⟩) (Kd.R_far (p := ⟨J4, 0, none⟩) (Kd.R_types Jh.out J7.out (by decide)) (fun _ hk => hk.2) (.int .i64 2)) (fun _ hk => hk.2) (.int .i64 0)) (fun _ hk => hk.2) (.slice Ao24 y190.length co24)) (fun _ hk => hk.2) (.slice Ao23 y193.length co23)) (fun _ hk => hk.2) (.slice none 0 0)) (fun _ hk => trivial)⟩, ⟨by (with_reducible repeat (first | apply Kd.R_alloc | apply Kd.R_drewN | apply Kd.R_drew)); exact Kd.R_mono (Kd.R_far (p := ⟨J4, 4, none⟩) (Kd.R_far (p := ⟨J4, 3, none⟩) (Kd.R_far (p := ⟨J4, 2, none⟩) (Kd.R_far (p := ⟨J4, 1, none⟩) (Kd.R_far (p := ⟨J4, 0, none⟩) (Kd.R_types Jg.out J7.out (by decide)) (fun _ hk => hk.2) (.int .i64 2)) (fun _ hk => hk.2) (.int .i64 0)) (fun _ hk => hk.2) (.slice Ao24 y190.length co24)) (fun _ hk => hk.2) (.slice Ao23 y193.length co23)) (fun _ hk => hk.2) (.slice none 0 0)) (fun _ hk => trivial)⟩, ⟨by (with_reducible repeat (first | refine blk_drewN ?_ _ | refine blk_drew ?_ | refine blk_alloc ?_ _)); refine blk_far ?_ Ja.out _; (with_reducible repeat (first | refine blk_drewN ?_ _ | refine blk_drew ?_ | refine blk_alloc ?_ _)); refine blk_far ?_ Ja.out _; (with_reducible repeat (first | refine blk_drewN ?_ _ | refine blk_drew ?_ | refine blk_alloc ?_ _)); refine blk_far ?_ Ja.out _; (with_reducible repeat (first | refine blk_drewN ?_ _ | refine blk_drew ?_ | refine blk_alloc ?_ _)); refine blk_far ?_ Ja.out _; (with_reducible repeat (first | refine blk_drewN ?_ _ | refine blk_drew ?_ | refine blk_alloc ?_ _)); refine blk_far ?_ Ja.out _; (with_reducible repeat (first | refine blk_drewN ?_ _ | refine blk_drew ?_ | refine blk_alloc ?_ _)); exact J0.out⟩, ⟨by (with_reducible repeat (first | refine blk_drewN ?_ _ | refine blk_drew ?_ | refine blk_alloc ?_ _)); refine blk_far ?_ Jb.out _; (with_reducible repeat (first | refine blk_drewN ?_ _ | refine blk_drew ?_ | refine blk_alloc ?_ _)); refine blk_far ?_ Jb.out _; (with_reducible repeat (first | refine blk_drewN ?_ _ | refine blk_drew ?_ | refine blk_alloc ?_ _)); refine blk_far ?_ Jb.out _; (with_reducible repeat (first | refine blk_drewN ?_ _ | refine blk_drew ?_ | refine blk_alloc ?_ _)); refine blk_far ?_ Jb.out _; (with_reducible repeat (first | refine blk_drewN ?_ _ | refine blk_drew ?_ | refine blk_alloc ?_ _)); refine blk_far ?_ Jb.out _; (with_reducible repeat (first | refine blk_drewN ?_ _ | refine blk_drew ?_ | refine blk_alloc ?_ _)); exact J3.out⟩, ⟨by (with_reducible repeat (first | refine blk_drewN ?_ _ | refine blk_drew ?_ | refine blk_alloc ?_ _)); refine blk_put (cs := #[.int .i64 2, .int .i64 0, .slice Ao24 y190.length co24, .slice Ao23 y193.length co23, .slice none 0 0]) ?_ 4 _ rfl; (with_reducible repeat (first | refine blk_drewN ?_ _ | refine blk_drew ?_ | refine blk_alloc ?_ _)); refine blk_put (cs := #[.int .i64 2, .int .i64 0, .slice Ao24 y190.length co24, .slice none 0 0, .slice none 0 0]) ?_ 3 _ rfl; (with_reducible repeat (first | refine blk_drewN ?_ _ | refine blk_drew ?_ | refine blk_alloc ?_ _)); refine blk_put (cs := #[.int .i64 2, .int .i64 0, .slice none 0 0, .slice none 0 0, .slice none 0 0]) ?_ 2 _ rfl; (with_reducible repeat (first | refine blk_drewN ?_ _ | refine blk_drew ?_ | refine blk_alloc ?_ _)); refine blk_put (cs := #[.int .i64 2, .int .i64 0, .slice none 0 0, .slice none 0 0, .slice none 0 0]) ?_ 1 _ rfl; (with_reducible repeat (first | refine blk_drewN ?_ _ | refine blk_drew ?_ | refine blk_alloc ?_ _)); refine blk_put (cs := #[.int .i64 0, .int .i64 0, .slice none 0 0, .slice none 0 0, .slice none 0 0]) ?_ 0 _ rfl; (with_reducible repeat (first | refine blk_drewN ?_ _ | refine blk_drew ?_ | refine blk_alloc ?_ _)); exact J7.out⟩, ⟨by repeat (first | (with_reducible first | exact HB.out | apply below_alloc | apply pw_below_drewN | apply below_drew1 | refine below_set ?_ J8.out | refine below_set ?_ J9.out | refine below_set ?_ Jf.out) | exact HB.out)⟩⟩
      case round =>
        clear H'
        try clear p2
        try clear c4
        obtain ⟨x5_1, Jm, Ji, Ju, rfl, HA, HK1, Jp, Jq, Jo, Jk, J0, J3, J7, HB⟩ := hrel
        cases gk with
        | zero => exact absurd HA.out (by simp [spec_NewCopies.l0])
        | succ k1 =>
          have H := HA.out
          clear HA
          simp only [spec_NewCopies.l0] at H
          by_cases c30 : x5_1 < (l0.length : Int)
          · rw [if_pos c30] at H
            have c30b0 : decide (x5_1 < (l0.length : Int)) = true := decide_eq_true c30
            clear c30
            by_cases c31 : 0 ≤ x5_1
            · rw [if_pos c31] at H
              have c31b0 : decide (0 ≤ x5_1) = true := decide_eq_true c31
              clear c31
              by_cases c32 : 0 ≤ ((rd_T118 l0 x5_1).f0)
              · rw [if_pos c32] at H
                have c32b0 : decide (0 ≤ ((rd_T118 l0 x5_1).f0)) = true := decide_eq_true c32
                clear c32
                by_cases c33 : ((rd_T118 l0 x5_1).f0) < (Ji.length : Int)
                · rw [if_pos c33] at H
                  have c33b0 : decide (((rd_T118 l0 x5_1).f0) < (Ji.length : Int)) = true := decide_eq_true c33
                  clear c33
                  obtain ⟨y198, hy198⟩ : ∃ y_ : List Int, y_ = (Ji.set (((rd_T118 l0 x5_1).f0) : Int).toNat 1) := ⟨_, rfl⟩
                  replace H : (spec_NewCopies.l0 k1 l0 (wrap64 (x5_1 + 1)) 2 1 y190 y198) = some (r1, r2, r3, r4, r5, r6, r7, r8) := by first | (rw [hy198]; with_reducible exact H) | (have H2_ := (Option.bind_some _ _).symm.trans H; rw [hy198]; with_reducible exact H2_) | (have H2_ := (Option.bind_some _ _).symm.trans H; with_reducible exact H2_) | with_reducible exact H | (rw [hy198]; exact H) | exact H
                  have Ny198 := Aside0.mk hy198
                  clear hy198
                  have H' := Aside0.mk H
                  clear H
                  try go_wp2
                  have n0_ := Aside0.mk (Kd.S_drew Jp.out)
                  have n1_ := Aside0.mk (Kd.S_drew Jq.out)
                  have n2_ := Aside0.mk (Kd.R_drew Jo.out)
                  have n3_ := Aside0.mk (Kd.R_drew Jk.out)
                  have n4_ := Aside0.mk (blk_drew J0.out)
                  have n5_ := Aside0.mk (blk_drew J3.out)
                  have n6_ := Aside0.mk (blk_drew J7.out)
                  have n7_ := Aside0.mk (below_drew1 HB.out)
                  clear Jp
                  clear Jq
                  clear Jo
                  clear Jk
                  clear J0
                  clear J3
                  clear J7
                  clear HB
                  have Jp := n0_
                  have Jq := n1_
                  have Jo := n2_
                  have Jk := n3_
                  have J0 := n4_
                  have J3 := n5_
                  have J7 := n6_
                  have HB := n7_
                  clear n0_ n1_ n2_ n3_ n4_ n5_ n6_ n7_
                  have p197 : 0 ≤ (x5_1 : Int) := od
                  have q197 : x5_1 < (l0.length : Int) := od
                  obtain ⟨ad197, e197, Js, Jt⟩ := at_T118 HR0.out x5_1 p197 q197
                  have hw197_1 := Jt
                  have hw197_0 := Js
                  cases e197
                  replace Js := (HB.out.cell (World.block_lt_of_cell? w _ Js)).trans Js
                  replace Jt := (HB.out.cell (World.block_lt_of_cell? w _ Jt)).trans Jt
                  replace p197 := eq_true p197
                  replace q197 := eq_true q197
                  have p34 : 0 ≤ (((rd_T118 l0 x5_1).f0) : Int) := od
                  have q34 : (((rd_T118 l0 x5_1).f0) : Int) < ((Ji.length : Int) : Int) := od
                  obtain ⟨go34, co34, eo34, JE, gl34, cl34, HG34⟩ := Kd.R_form Jk.out (by omega)
                  (first | cases eo34 | (injection eo34 with ea_ en_ ec_; (first | subst ea_ | (injection ea_ with ea_; subst ea_)); subst ec_; clear en_))
                  have GB34 := Aside0.mk JE
                  have GG34 := Aside0.mk HG34
                  clear JE gl34 HG34
                  obtain ⟨JF, hf34_0⟩ := Kd.R_celln 0 Jk.out (((rd_T118 l0 x5_1).f0) : Int) p34 q34
                  replace p34 := eq_true p34
                  replace q34 := eq_true q34
                  have HP36 := Kd.R_putn Jk.out (((rd_T118 l0 x5_1).f0) : Int) 1
                  rw [← Ny198.out] at HP36
                  have HQ36 := Aside0.mk HP36
                  clear HP36
                  refine start_ (n := 9) (S := fun w' => w'.cell? ⟨J4, 0, none⟩ = some (.int .i64 2) ∧ w'.cell? ⟨J4, 1, none⟩ = some (.int .i64 Jm) ∧ w'.cell? ⟨J4, 2, none⟩ = some (.slice Ao24 y190.length co24) ∧ w'.cell? ⟨J4, 3, none⟩ = some (.slice (some ⟨go34, 0, none⟩) Ji.length co34) ∧ w'.cell? ⟨J4, 4, none⟩ = some (.slice none 0 0) ∧ w'.cell? (ad197.add ((x5_1).toNat * 2)) = some (.int .i64 ((rd_T118 l0 x5_1).f0)) ∧ w'.cell? ⟨(ad197.add ((x5_1).toNat * 2)).block, (ad197.add ((x5_1).toNat * 2)).off + 1, none⟩ = some (.int .i64 ((rd_T118 l0 x5_1).f1))) (ds := [8]) #[false, false, false, false, false, false, false, false, false] (by kernel_rfl) rfl rfl ⟨(blk_cell J7.out 0).trans rfl, (blk_cell J7.out 1).trans rfl, (blk_cell J7.out 2).trans rfl, (blk_cell J7.out 3).trans rfl, (blk_cell J7.out 4).trans rfl, ((HB.out.cell (World.block_lt_of_cell? w _ hw197_0)).trans hw197_0), ((HB.out.cell (World.block_lt_of_cell? w _ hw197_1)).trans hw197_1)⟩ (fun hHeld => ?_); refine with_tabW spec_NewCopies.tab8 spec_NewCopies.bits8 (fun HT_ HW_ => ?_)
                  generalize wr.drew = w35 at Jp Jq Jo Jk J0 J3 J7 HB GG34 HQ36 hf34_0 Js Jt JF hHeld ⊢
                  refine pure_ (i := 0) (N := some 25) (v := ?_) (a' := ?_) #[true, false, false, false, false, false, false, false, false] rfl rfl (any_of HT_.out (by kernel_rfl)) (fun _ _ _ h => h) (Or.inl ⟨by rfl, ?_⟩) ?_ ?_
                  rotate_left
                  · intro w'
                    go_simp
                    with_reducible rfl
                  rotate_left
                  · simp only [Act.put, List.setIfInBounds_toArray, List.set_cons_zero, List.set_cons_succ, i64_w, i32_w]
                    rfl
                  refine pure_ (i := 2) (N := some 27) (v := ?_) (a' := ?_) #[true, false, true, false, false, false, false, false, false] rfl rfl (any_of HT_.out (by kernel_rfl)) (fun _ _ _ h => h) (Or.inl ⟨by rfl, ?_⟩) ?_ ?_
                  rotate_left
                  · intro w'
                    go_simp
                    with_reducible rfl
                  rotate_left
                  · simp only [Act.put, List.setIfInBounds_toArray, List.set_cons_zero, List.set_cons_succ, i64_w, i32_w]
                    rfl
                  refine pure_ (i := 3) (N := some 28) (v := ?_) (a' := ?_) #[true, false, true, true, false, false, false, false, false] rfl rfl (any_of HT_.out (by kernel_rfl)) (fun _ _ _ h => h) (Or.inl ⟨by rfl, ?_⟩) ?_ ?_
                  rotate_left
                  · intro w'
                    go_simp
                    with_reducible rfl
                  rotate_left
                  · simp only [Act.put, List.setIfInBounds_toArray, List.set_cons_zero, List.set_cons_succ, i64_w, i32_w]
                    rfl
                  refine pure_ (i := 4) (N := some 29) (v := ?_) (a' := ?_) #[true, false, true, true, true, false, false, false, false] rfl rfl (any_of HT_.out (by kernel_rfl)) (fun _ _ _ h => h) (Or.inl ⟨by rfl, ?_⟩) ?_ ?_
                  rotate_left
                  · intro w'
                    go_simp
                    with_reducible rfl
                  rotate_left
                  · simp only [Act.put, List.setIfInBounds_toArray, List.set_cons_zero, List.set_cons_succ, i64_w, i32_w]
                    rfl
                  refine pure_ (i := 5) (N := some 30) (v := ?_) (a' := ?_) #[true, false, true, true, true, true, false, false, false] rfl rfl (any_of HT_.out (by kernel_rfl)) (fun _ _ _ h => h) (Or.inl ⟨by rfl, ?_⟩) ?_ ?_
                  rotate_left
                  · intro w'
                    go_simp
                    with_reducible rfl
                  rotate_left
                  · simp only [Act.put, List.setIfInBounds_toArray, List.set_cons_zero, List.set_cons_succ, i64_w, i32_w]
                    rfl
                  refine take_ (i := 1) (N := some 26) (v := ?_) (a' := ?_) #[true, true, true, true, true, true, false, false, false] rfl rfl (take_ofW HT_.out HW_.out (by kernel_rfl)) (fun _ _ _ h => h) (Or.inl ⟨by rfl, ?_⟩) hHeld ?_ ?_
                  rotate_left
                  · rintro w' ⟨s0, s1, s2, s3, s4, s5, s6⟩
                    go_simp
                    with_reducible rfl
                  rotate_left
                  · simp only [Act.put, List.setIfInBounds_toArray, List.set_cons_zero, List.set_cons_succ, i64_w, i32_w]
                    rfl
                  refine take_ (i := 6) (N := some 31) (v := ?_) (a' := ?_) #[true, true, true, true, true, true, true, false, false] rfl rfl (take_ofW HT_.out HW_.out (by kernel_rfl)) (fun _ _ _ h => h) (Or.inl ⟨by rfl, ?_⟩) hHeld ?_ ?_
                  rotate_left
                  · rintro w' ⟨s0, s1, s2, s3, s4, s5, s6⟩
                    go_simp
                    with_reducible rfl
                  rotate_left
                  · simp only [Act.put, List.setIfInBounds_toArray, List.set_cons_zero, List.set_cons_succ, i64_w, i32_w]
                    rfl
                  refine pure_ (i := 7) (N := some 32) (v := ?_) (a' := ?_) #[true, true, true, true, true, true, true, true, false] rfl rfl (any_of HT_.out (by kernel_rfl)) (fun _ _ _ h => h) (Or.inl ⟨by rfl, ?_⟩) ?_ ?_
                  rotate_left
                  · intro w'
                    go_simp
                    with_reducible rfl
                  rotate_left
                  · simp only [Act.put, List.setIfInBounds_toArray, List.set_cons_zero, List.set_cons_succ, i64_w, i32_w]
                    rfl
                  refine last_ (i := 8) (N := none) #[true, true, true, true, true, true, true, true, true] rfl rfl (one_of HT_.out (by kernel_rfl)) (by decide) (fun K hK => ?_)
                  refine skip_ (w1 := ?_) (by rfl) rfl ?_ ?_
                  rotate_left
                  · go_simp
                    rfl
                  refine hK.out _ _ ?_
                  clear hK K
                  refine done_ (done_of HT_.out (by kernel_rfl)) ?_
                  have n0_ : Aside0 (Kd.S k243 243 (w35.setCell ⟨go34, (((rd_T118 l0 x5_1).f0) : Int).toNat, none⟩ (.int .i64 1)) w.heap.size (fun _ => True) (.slice Ao10 t164.length co10) t164) := ⟨by (with_reducible repeat (first | apply Kd.S_alloc | apply Kd.S_drewN | apply Kd.S_drew)); exact Kd.S_mono (Kd.S_far (p := ⟨go34, (((rd_T118 l0 x5_1).f0) : Int).toNat, none⟩) (Kd.S_types Jp.out GG34.out (by decide)) (fun _ hk => hk.2) (.int .i64 1)) (fun _ hk => trivial)⟩
                  have n1_ : Aside0 (Kd.S k189 189 (w35.setCell ⟨go34, (((rd_T118 l0 x5_1).f0) : Int).toNat, none⟩ (.int .i64 1)) w.heap.size (fun _ => True) (.slice Ao11 t167.length co11) t167) := ⟨by (with_reducible repeat (first | apply Kd.S_alloc | apply Kd.S_drewN | apply Kd.S_drew)); exact Kd.S_mono (Kd.S_far (p := ⟨go34, (((rd_T118 l0 x5_1).f0) : Int).toNat, none⟩) (Kd.S_types Jq.out GG34.out (by decide)) (fun _ hk => hk.2) (.int .i64 1)) (fun _ hk => trivial)⟩
                  have n2_ : Aside0 (Kd.R k118 118 (w35.setCell ⟨go34, (((rd_T118 l0 x5_1).f0) : Int).toNat, none⟩ (.int .i64 1)) w.heap.size (fun _ => True) (.slice Ao24 y190.length co24) y190) := ⟨by (with_reducible repeat (first | apply Kd.R_alloc | apply Kd.R_drewN | apply Kd.R_drew)); exact Kd.R_mono (Kd.R_far (p := ⟨go34, (((rd_T118 l0 x5_1).f0) : Int).toNat, none⟩) (Kd.R_types Jo.out GG34.out (by decide)) (fun _ hk => hk.2) (.int .i64 1)) (fun _ hk => trivial)⟩
                  have n3_ : Aside0 (Kd.R (Kd.int .i64) 2 (w35.setCell ⟨go34, (((rd_T118 l0 x5_1).f0) : Int).toNat, none⟩ (.int .i64 1)) w.heap.size (fun _ => True) (.slice (some ⟨go34, 0, none⟩) Ji.length co34) y198) := ⟨by (with_reducible repeat (first | apply Kd.R_alloc | apply Kd.R_drewN | apply Kd.R_drew)); exact HQ36.out⟩
                  have n4_ : Aside0 ((w35.setCell ⟨go34, (((rd_T118 l0 x5_1).f0) : Int).toNat, none⟩ (.int .i64 1)).heap[J1]? = some (.cells #[.int .i64 0, .int .i64 0, .slice none 0 0, .int .i64 0, .int .i64 0, .slice none 0 0, .slice none 0 0, .slice none 0 0] 30 (0, 0))) := ⟨by (with_reducible repeat (first | refine blk_drewN ?_ _ | refine blk_drew ?_ | refine blk_alloc ?_ _)); refine blk_far ?_ (by have h_ := Kd.R_ne Jk.out J0.out (by decide); intro e_; exact h_ (by rw [e_]; rfl)) _; (with_reducible repeat (first | refine blk_drewN ?_ _ | refine blk_drew ?_ | refine blk_alloc ?_ _)); exact J0.out⟩
                  have n5_ : Aside0 ((w35.setCell ⟨go34, (((rd_T118 l0 x5_1).f0) : Int).toNat, none⟩ (.int .i64 1)).heap[J2]? = some (.cells #[.int .i64 t160, .int .i64 t161, .int .i64 t162, .int .i64 t163, .slice Ao10 t164.length co10, .slice Ao11 t167.length co11] 114 (0, 0))) := ⟨by (with_reducible repeat (first | refine blk_drewN ?_ _ | refine blk_drew ?_ | refine blk_alloc ?_ _)); refine blk_far ?_ (by have h_ := Kd.R_ne Jk.out J3.out (by decide); intro e_; exact h_ (by rw [e_]; rfl)) _; (with_reducible repeat (first | refine blk_drewN ?_ _ | refine blk_drew ?_ | refine blk_alloc ?_ _)); exact J3.out⟩
                  have n6_ : Aside0 ((w35.setCell ⟨go34, (((rd_T118 l0 x5_1).f0) : Int).toNat, none⟩ (.int .i64 1)).heap[J4]? = some (.cells #[.int .i64 2, .int .i64 Jm, .slice Ao24 y190.length co24, .slice (some ⟨go34, 0, none⟩) Ji.length co34, .slice none 0 0] 28 (0, 0))) := ⟨by (with_reducible repeat (first | refine blk_drewN ?_ _ | refine blk_drew ?_ | refine blk_alloc ?_ _)); refine blk_far ?_ (by have h_ := Kd.R_ne Jk.out J7.out (by decide); intro e_; exact h_ (by rw [e_]; rfl)) _; (with_reducible repeat (first | refine blk_drewN ?_ _ | refine blk_drew ?_ | refine blk_alloc ?_ _)); exact J7.out⟩
                  have n7_ : Aside0 (Below w.heap.size w (w35.setCell ⟨go34, (((rd_T118 l0 x5_1).f0) : Int).toNat, none⟩ (.int .i64 1))) := ⟨by repeat (first | (with_reducible first | exact HB.out | apply below_alloc | apply pw_below_drewN | apply below_drew1 | refine below_set ?_ GB34.out | refine below_set ?_ J8.out | refine below_set ?_ J9.out | refine below_set ?_ Jf.out) | exact HB.out)⟩
                  (try clear Jp)
                  (try clear Jq)
                  (try clear Jo)
                  (try clear Jk)
                  (try clear J0)
                  (try clear J3)
                  (try clear J7)
                  (try clear HB)
                  generalize (w35.setCell ⟨go34, (((rd_T118 l0 x5_1).f0) : Int).toNat, none⟩ (.int .i64 1)) = w37 at n0_ n1_ n2_ n3_ n4_ n5_ n6_ n7_ ⊢
                  have Jp := n0_
                  have Jq := n1_
                  have Jo := n2_
                  have Jk := n3_
                  have J0 := n4_
                  have J3 := n5_
                  have J7 := n6_
                  have HB := n7_
                  clear n0_ n1_ n2_ n3_ n4_ n5_ n6_ n7_
                  have hnb38 := Jc.out
                  have hnc38 := Ja.out
                  have hnb39 := Jd.out
                  have hnc39 := Jb.out
                  have JI : w37.cell? ⟨J4, 0, none⟩ = some (.int .i64 2) := (blk_cell J7.out 0).trans rfl
                  have JJ : w37.cell? ⟨J4, 1, none⟩ = some (.int .i64 Jm) := (blk_cell J7.out 1).trans rfl
                  have JK : w37.cell? ⟨J4, 2, none⟩ = some (.slice Ao24 y190.length co24) := (blk_cell J7.out 2).trans rfl
                  have JL : w37.cell? ⟨J4, 3, none⟩ = some (.slice (some ⟨go34, 0, none⟩) Ji.length co34) := (blk_cell J7.out 3).trans rfl
                  have JM : w37.cell? ⟨J4, 4, none⟩ = some (.slice none 0 0) := (blk_cell J7.out 4).trans rfl
                  have JN := blk_frozen J7.out 0
                  have JO := blk_frozen J7.out 1
                  have JP := blk_frozen J7.out 2
                  have JQ := blk_frozen J7.out 3
                  have JR := blk_frozen J7.out 4
                  try go_wp2
                  go_roundg k1
                  case measure => have := HK1.out; omega
                  case rel => exact ⟨(wrap64 (x5_1 + 1)), (1), (y198), (.slice (some ⟨go34, 0, none⟩) Ji.length co34), (by first | rfl | (simp; done) | (simp [*]; done)), H', ⟨by have := HK1.out; omega⟩, ⟨by (with_reducible repeat (first | apply Kd.S_alloc | apply Kd.S_drewN | apply Kd.S_drew)); exact Kd.S_mono (Kd.S_far (p := ⟨J4, 1, none⟩) (Kd.S_types Jp.out J7.out (by decide)) (fun _ hk => hk.2) (.int .i64 1)) (fun _ hk => trivial)⟩, ⟨by (with_reducible repeat (first | apply Kd.S_alloc | apply Kd.S_drewN | apply Kd.S_drew)); exact Kd.S_mono (Kd.S_far (p := ⟨J4, 1, none⟩) (Kd.S_types Jq.out J7.out (by decide)) (fun _ hk => hk.2) (.int .i64 1)) (fun _ hk => trivial)⟩, ⟨by (with_reducible repeat (first | apply Kd.R_alloc | apply Kd.R_drewN | apply Kd.R_drew)); exact Kd.R_mono (Kd.R_far (p := ⟨J4, 1, none⟩) (Kd.R_types Jo.out J7.out (by decide)) (fun _ hk => hk.2) (.int .i64 1)) (fun _ hk => trivial)⟩, ⟨by (with_reducible repeat (first | apply Kd.R_alloc | apply Kd.R_drewN | apply Kd.R_drew)); exact Kd.R_mono (Kd.R_far (p := ⟨J4, 1, none⟩) (Kd.R_types Jk.out J7.out (by decide)) (fun _ hk => hk.2) (.int .i64 1)) (fun _ hk => trivial)⟩, ⟨by (with_reducible repeat (first | refine blk_drewN ?_ _ | refine blk_drew ?_ | refine blk_alloc ?_ _)); refine blk_far ?_ Ja.out _; (with_reducible repeat (first | refine blk_drewN ?_ _ | refine blk_drew ?_ | refine blk_alloc ?_ _)); exact J0.out⟩, ⟨by (with_reducible repeat (first | refine blk_drewN ?_ _ | refine blk_drew ?_ | refine blk_alloc ?_ _)); refine blk_far ?_ Jb.out _; (with_reducible repeat (first | refine blk_drewN ?_ _ | refine blk_drew ?_ | refine blk_alloc ?_ _)); exact J3.out⟩, ⟨by (with_reducible repeat (first | refine blk_drewN ?_ _ | refine blk_drew ?_ | refine blk_alloc ?_ _)); refine blk_put (cs := #[.int .i64 2, .int .i64 Jm, .slice Ao24 y190.length co24, .slice (some ⟨go34, 0, none⟩) Ji.length co34, .slice none 0 0]) ?_ 1 _ rfl; (with_reducible repeat (first | refine blk_drewN ?_ _ | refine blk_drew ?_ | refine blk_alloc ?_ _)); exact J7.out⟩, ⟨by repeat (first | (with_reducible first | exact HB.out | apply below_alloc | apply pw_below_drewN | apply below_drew1 | refine below_set ?_ J8.out | refine below_set ?_ J9.out | refine below_set ?_ Jf.out) | exact HB.out)⟩⟩
                · rw [if_neg c33] at H
                  exact absurd H (by simp)
              · rw [if_neg c32] at H
                exact absurd H (by simp)
            · rw [if_neg c31] at H
              exact absurd H (by simp)
          · rw [if_neg c30] at H
            have c30b0 : decide (x5_1 < (l0.length : Int)) = false := decide_eq_false c30
            clear c30
            simp only [Option.some.injEq, Prod.mk.injEq] at H
            obtain ⟨rfl, rfl, rfl, rfl, rfl, rfl, rfl, rfl⟩ := H
            have hnb41 := Jc.out
            have hnc41 := Ja.out
            have hnb42 := Jd.out
            have hnc42 := Jb.out
            have JS : wr.cell? ⟨J4, 0, none⟩ = some (.int .i64 2) := (blk_cell J7.out 0).trans rfl
            have JT : wr.cell? ⟨J4, 1, none⟩ = some (.int .i64 Jm) := (blk_cell J7.out 1).trans rfl
            have JU : wr.cell? ⟨J4, 2, none⟩ = some (.slice Ao24 y190.length co24) := (blk_cell J7.out 2).trans rfl
            have JV : wr.cell? ⟨J4, 3, none⟩ = some (Ju) := (blk_cell J7.out 3).trans rfl
            have JW : wr.cell? ⟨J4, 4, none⟩ = some (.slice none 0 0) := (blk_cell J7.out 4).trans rfl
            have JX := blk_frozen J7.out 0
            have JY := blk_frozen J7.out 1
            have JZ := blk_frozen J7.out 2
            have K0 := blk_frozen J7.out 3
            have K1 := blk_frozen J7.out 4
            obtain ⟨Ao44, co44, eo44⟩ := Kd.R_slice Jk.out
            subst eo44
            have hnb45 := Jj.out
            have hnc45 := Jr.out
            have K2 : wr.cell? ⟨J1, 0, none⟩ = some (.int .i64 0) := (blk_cell J0.out 0).trans rfl
            have K3 : wr.cell? ⟨J1, 1, none⟩ = some (.int .i64 0) := (blk_cell J0.out 1).trans rfl
            have K4 : wr.cell? ⟨J1, 2, none⟩ = some (.slice none 0 0) := (blk_cell J0.out 2).trans rfl
            have K5 : wr.cell? ⟨J1, 3, none⟩ = some (.int .i64 0) := (blk_cell J0.out 3).trans rfl
            have K6 : wr.cell? ⟨J1, 4, none⟩ = some (.int .i64 0) := (blk_cell J0.out 4).trans rfl
            have K7 : wr.cell? ⟨J1, 5, none⟩ = some (.slice none 0 0) := (blk_cell J0.out 5).trans rfl
            have K8 : wr.cell? ⟨J1, 6, none⟩ = some (.slice none 0 0) := (blk_cell J0.out 6).trans rfl
            have K9 : wr.cell? ⟨J1, 7, none⟩ = some (.slice none 0 0) := (blk_cell J0.out 7).trans rfl
            have Ka := blk_frozen J0.out 0
            have Kb := blk_frozen J0.out 1
            have Kc := blk_frozen J0.out 2
            have Ke := blk_frozen J0.out 3
            have Kf := blk_frozen J0.out 4
            have Kg := blk_frozen J0.out 5
            have Kh := blk_frozen J0.out 6
            have Ki := blk_frozen J0.out 7
            go_wp2
            refine bodyPost_ret (results_cell_row rfl _ _ J1 30 #[.int .i64 0, .int .i64 0, .slice none 0 0, .int .i64 2, .int .i64 Jm, .slice Ao24 y190.length co24, .slice Ao44 Ji.length co44, .slice none 0 0] (0, 0) _ rfl (by (with_reducible repeat (first | refine blk_drewN ?_ _ | refine blk_drew ?_ | refine blk_alloc ?_ _)); refine blk_put (cs := #[.int .i64 0, .int .i64 0, .slice none 0 0, .int .i64 2, .int .i64 Jm, .slice Ao24 y190.length co24, .slice Ao44 Ji.length co44, .slice none 0 0]) ?_ 7 _ rfl; (with_reducible repeat (first | refine blk_drewN ?_ _ | refine blk_drew ?_ | refine blk_alloc ?_ _)); refine blk_put (cs := #[.int .i64 0, .int .i64 0, .slice none 0 0, .int .i64 2, .int .i64 Jm, .slice Ao24 y190.length co24, .slice none 0 0, .slice none 0 0]) ?_ 6 _ rfl; (with_reducible repeat (first | refine blk_drewN ?_ _ | refine blk_drew ?_ | refine blk_alloc ?_ _)); refine blk_put (cs := #[.int .i64 0, .int .i64 0, .slice none 0 0, .int .i64 2, .int .i64 Jm, .slice none 0 0, .slice none 0 0, .slice none 0 0]) ?_ 5 _ rfl; (with_reducible repeat (first | refine blk_drewN ?_ _ | refine blk_drew ?_ | refine blk_alloc ?_ _)); refine blk_put (cs := #[.int .i64 0, .int .i64 0, .slice none 0 0, .int .i64 2, .int .i64 0, .slice none 0 0, .slice none 0 0, .slice none 0 0]) ?_ 4 _ rfl; (with_reducible repeat (first | refine blk_drewN ?_ _ | refine blk_drew ?_ | refine blk_alloc ?_ _)); refine blk_put (cs := #[.int .i64 0, .int .i64 0, .slice none 0 0, .int .i64 0, .int .i64 0, .slice none 0 0, .slice none 0 0, .slice none 0 0]) ?_ 3 _ rfl; (with_reducible repeat (first | refine blk_drewN ?_ _ | refine blk_drew ?_ | refine blk_alloc ?_ _)); refine blk_put (cs := #[.int .i64 0, .int .i64 0, .slice none 0 0, .int .i64 0, .int .i64 0, .slice none 0 0, .slice none 0 0, .slice none 0 0]) ?_ 2 _ rfl; (with_reducible repeat (first | refine blk_drewN ?_ _ | refine blk_drew ?_ | refine blk_alloc ?_ _)); refine blk_put (cs := #[.int .i64 0, .int .i64 0, .slice none 0 0, .int .i64 0, .int .i64 0, .slice none 0 0, .slice none 0 0, .slice none 0 0]) ?_ 1 _ rfl; (with_reducible repeat (first | refine blk_drewN ?_ _ | refine blk_drew ?_ | refine blk_alloc ?_ _)); refine blk_put (cs := #[.int .i64 0, .int .i64 0, .slice none 0 0, .int .i64 0, .int .i64 0, .slice none 0 0, .slice none 0 0, .slice none 0 0]) ?_ 0 _ rfl; (with_reducible repeat (first | refine blk_drewN ?_ _ | refine blk_drew ?_ | refine blk_alloc ?_ _)); exact J0.out) Try.underlying30 rfl (by kernel_rfl)) rfl ?_
            exact ⟨_, _, _, _, by first | rfl | (simp [errW_none, errW_some] <;> rfl) | (simp [*, errW_none, errW_some] <;> rfl), by first | exact Kd.R_nil _ _ _ _ _ | exact Kd.N_nil _ _ _ _ _ | exact Kd.V_nil _ _ _ _ _ | exact Kd.Q_nil _ _ _ _ _ | exact Kd.S_nil _ _ _ _ _, by (with_reducible repeat (first | apply Kd.R_alloc | apply Kd.R_drewN | apply Kd.R_drew)); exact Kd.R_mono (Kd.R_far (p := ⟨J1, 7, none⟩) (Kd.R_far (p := ⟨J1, 6, none⟩) (Kd.R_far (p := ⟨J1, 5, none⟩) (Kd.R_far (p := ⟨J1, 4, none⟩) (Kd.R_far (p := ⟨J1, 3, none⟩) (Kd.R_far (p := ⟨J1, 2, none⟩) (Kd.R_far (p := ⟨J1, 1, none⟩) (Kd.R_far (p := ⟨J1, 0, none⟩) (Kd.R_types Jo.out J0.out (by decide)) (fun _ hk => hk.2) (.int .i64 0)) (fun _ hk => hk.2) (.int .i64 0)) (fun _ hk => hk.2) (.slice none 0 0)) (fun _ hk => hk.2) (.int .i64 2)) (fun _ hk => hk.2) (.int .i64 Jm)) (fun _ hk => hk.2) (.slice Ao24 y190.length co24)) (fun _ hk => hk.2) (.slice Ao44 Ji.length co44)) (fun _ hk => hk.2) (.slice none 0 0)) (fun _ hk => (by simp [Value.ownBlock])), by (with_reducible repeat (first | apply Kd.R_alloc | apply Kd.R_drewN | apply Kd.R_drew)); exact Kd.R_mono (Kd.R_far (p := ⟨J1, 7, none⟩) (Kd.R_far (p := ⟨J1, 6, none⟩) (Kd.R_far (p := ⟨J1, 5, none⟩) (Kd.R_far (p := ⟨J1, 4, none⟩) (Kd.R_far (p := ⟨J1, 3, none⟩) (Kd.R_far (p := ⟨J1, 2, none⟩) (Kd.R_far (p := ⟨J1, 1, none⟩) (Kd.R_far (p := ⟨J1, 0, none⟩) (Kd.R_types Jk.out J0.out (by decide)) (fun _ hk => hk.2) (.int .i64 0)) (fun _ hk => hk.2) (.int .i64 0)) (fun _ hk => hk.2) (.slice none 0 0)) (fun _ hk => hk.2) (.int .i64 2)) (fun _ hk => hk.2) (.int .i64 Jm)) (fun _ hk => hk.2) (.slice Ao24 y190.length co24)) (fun _ hk => hk.2) (.slice Ao44 Ji.length co44)) (fun _ hk => hk.2) (.slice none 0 0)) (fun _ hk => trivial), by first | exact Kd.S_nil _ _ _ _ _ | exact Kd.N_nil _ _ _ _ _ | exact Kd.V_nil _ _ _ _ _ | exact Kd.Q_nil _ _ _ _ _ | exact Kd.R_nil _ _ _ _ _, by repeat (first | (with_reducible first | exact HB.out | apply below_alloc | apply pw_below_drewN | apply below_drew1 | refine below_set ?_ J8.out | refine below_set ?_ J9.out | refine below_set ?_ Jf.out) | exact HB.out)⟩
    · rw [if_neg c4] at H
      exact absurd H (by simp)
  · rw [if_neg c3] at H
    have c3b0 : (t160 == 0) = false := beq_eq_false_iff_ne.mpr c3
    have c3b1 : (t160 != 0) = true := bne_iff_ne.mpr c3
    replace H := Option.bind_eq_some_iff.mp H
    obtain ⟨⟨t171, t172, t173, t176, t177, t178, t181, t184⟩, A470, H⟩ := H
    replace H : (some (t171, t172, t173, t176, t177, t178, t181, t184)) = some (r1, r2, r3, r4, r5, r6, r7, r8) := H
    have A47 := Aside0.mk A470
    clear A470
    simp only [Option.some.injEq, Prod.mk.injEq] at H
    obtain ⟨rfl, rfl, rfl, rfl, rfl, rfl, rfl, rfl⟩ := H
    go_enter Try.func10, Try.ntmps10
    go_wp2_with (first | ((with_reducible refine gate_dst (N := 2) rfl ?_); refine box_event ?hg (N := 2) ?hd (cs := #[.int .i64 0, .int .i64 0, .slice none 0 0, .int .i64 0, .int .i64 0, .slice none 0 0, .slice none 0 0, .slice none 0 0]) (t := 30) ?hr ?_; (case hd => rfl); (case hg => rfl); (case hr => first | (go_simp; done) | (go_simp; rfl)); intro J1 hg w48 hbox hb; have n0_ := Aside0.mk (below_step bo hb); have n1_ := Aside0.mk (hbox); have n2_ := Aside0.mk ((by rw [hg]; exact (below_size bo) : w.heap.size ≤ J1)); have n3_ := Aside0.mk ((by rw [hg]; exact (below_size bo) : w.heap.size ≤ J1)); clear HB; have HB := n0_; have J0 := n1_; have JG := n2_; have J8 := n3_; clear n0_ n1_ n2_ n3_; clear hb hbox hg) | ((with_reducible refine gate_callee (f := 51) rfl ?_); refine goesL_ (some 7) rfl rfl Try.func51 (by kernel_rfl) rfl #[.slice A0 l0.length c0] rfl (by (try simp only [List.map_toArray, List.map_cons, List.map_nil]); first | done | rfl | (simp only [List.length_drop, List.length_take]; rfl)) ?_; (with_reducible refine (spec_NewEngine.calls k _ _ l0 t160 t161 t162 t163 t164 t167 _ ?side1 ?side2 A2.out).mono ?_); (case side1 => repeat (first | exact (Kd.C_below HR0.out HB.out) | (with_reducible refine Kd.C_alloc ?_ _) | (with_reducible refine Kd.C_drewN ?_ _) | (with_reducible refine Kd.C_drew ?_))); (case side2 => exact HC0.out); rintro e w49 ⟨v165, v168, rfl, ho0, ho1, hb⟩; refine ⟨_, rfl, ?_⟩; have n0_ := Aside0.mk (Kd.S_lower ho0 (below_size (by repeat (first | (with_reducible first | exact HB.out | apply below_alloc | apply pw_below_drewN | apply below_drew1 | refine below_set ?_ J8.out) | exact HB.out)))); have n1_ := Aside0.mk (Kd.S_lower ho1 (below_size (by repeat (first | (with_reducible first | exact HB.out | apply below_alloc | apply pw_below_drewN | apply below_drew1 | refine below_set ?_ J8.out) | exact HB.out)))); have n2_ := Aside0.mk (blk_below (g := J1) (o := .cells #[.int .i64 0, .int .i64 0, .slice none 0 0, .int .i64 0, .int .i64 0, .slice none 0 0, .slice none 0 0, .slice none 0 0] 30 (0, 0)) (by (with_reducible repeat (first | refine blk_drewN ?_ _ | refine blk_drew ?_ | refine blk_alloc ?_ _)); exact J0.out) hb); have n3_ := Aside0.mk (below_step (by repeat (first | (with_reducible first | exact HB.out | apply below_alloc | apply pw_below_drewN | apply below_drew1 | refine below_set ?_ J8.out) | exact HB.out)) hb); clear J0; clear HB; have J5 := n0_; have J6 := n1_; have J0 := n2_; have HB := n3_; clear n0_ n1_ n2_ n3_; (try clear hb); (try clear hb2); (try clear hk); (try clear hi); (try clear ho0); (try clear ho1)) | ((with_reducible refine gate_dst (N := 3) rfl ?_); refine box_event ?hg (N := 3) ?hd (cs := #[.int .i64 0, .int .i64 0, .int .i64 0, .int .i64 0, .slice none 0 0, .slice none 0 0]) (t := 114) ?hr ?_; (case hd => rfl); (case hg => rfl); (case hr => first | (go_simp; done) | (go_simp; rfl)); intro J2 hg w50 hbox hb; have n0_ := Aside0.mk (Kd.S_below (by (with_reducible repeat (first | apply Kd.S_alloc | apply Kd.S_drewN | apply Kd.S_drew)); exact J5.out) hb); have n1_ := Aside0.mk (Kd.S_below (by (with_reducible repeat (first | apply Kd.S_alloc | apply Kd.S_drewN | apply Kd.S_drew)); exact J6.out) hb); have n2_ := Aside0.mk (blk_below (g := J1) (o := .cells #[.int .i64 0, .int .i64 0, .slice none 0 0, .int .i64 0, .int .i64 0, .slice none 0 0, .slice none 0 0, .slice none 0 0] 30 (0, 0)) (by (with_reducible repeat (first | refine blk_drewN ?_ _ | refine blk_drew ?_ | refine blk_alloc ?_ _)); exact J0.out) hb); have n3_ := Aside0.mk (below_step (by repeat (first | (with_reducible first | exact HB.out | apply below_alloc | apply pw_below_drewN | apply below_drew1 | refine below_set ?_ J8.out) | exact HB.out)) hb); have n4_ := Aside0.mk (hbox); have n5_ := Aside0.mk ((by rw [hg]; exact (below_size (by repeat (first | (with_reducible first | exact HB.out | apply below_alloc | apply pw_below_drewN | apply below_drew1 | refine below_set ?_ J8.out) | exact HB.out))) : w.heap.size ≤ J2)); have n6_ := Aside0.mk ((by rw [hg]; exact (below_size (by repeat (first | (with_reducible first | exact HB.out | apply below_alloc | apply pw_below_drewN | apply below_drew1 | refine below_set ?_ J8.out) | exact HB.out))) : w.heap.size ≤ J2)); have n7_ := Aside0.mk ((by rw [hg]; exact Nat.ne_of_lt (blk_lt (g := J1) (o := .cells #[.int .i64 0, .int .i64 0, .slice none 0 0, .int .i64 0, .int .i64 0, .slice none 0 0, .slice none 0 0, .slice none 0 0] 30 (0, 0)) (by (with_reducible repeat (first | refine blk_drewN ?_ _ | refine blk_drew ?_ | refine blk_alloc ?_ _)); exact J0.out)) : J1 ≠ J2)); have n8_ := Aside0.mk ((by rw [hg]; exact Nat.ne_of_gt (blk_lt (g := J1) (o := .cells #[.int .i64 0, .int .i64 0, .slice none 0 0, .int .i64 0, .int .i64 0, .slice none 0 0, .slice none 0 0, .slice none 0 0] 30 (0, 0)) (by (with_reducible repeat (first | refine blk_drewN ?_ _ | refine blk_drew ?_ | refine blk_alloc ?_ _)); exact J0.out)) : J2 ≠ J1)); clear J5; clear J6; clear J0; clear HB; have J5 := n0_; have J6 := n1_; have J0 := n2_; have HB := n3_; have J3 := n4_; have JH := n5_; have J9 := n6_; have Jj := n7_; have Jr := n8_; clear n0_ n1_ n2_ n3_ n4_ n5_ n6_ n7_ n8_; clear hb hbox hg; have hnb51 := Jr.out; have hnc51 := Jj.out; have Kj : w50.cell? ⟨J2, 0, none⟩ = some (.int .i64 0) := (blk_cell J3.out 0).trans rfl; have Kk : w50.cell? ⟨J2, 1, none⟩ = some (.int .i64 0) := (blk_cell J3.out 1).trans rfl; have Kl : w50.cell? ⟨J2, 2, none⟩ = some (.int .i64 0) := (blk_cell J3.out 2).trans rfl; have Km : w50.cell? ⟨J2, 3, none⟩ = some (.int .i64 0) := (blk_cell J3.out 3).trans rfl; have Kn : w50.cell? ⟨J2, 4, none⟩ = some (.slice none 0 0) := (blk_cell J3.out 4).trans rfl; have Ko : w50.cell? ⟨J2, 5, none⟩ = some (.slice none 0 0) := (blk_cell J3.out 5).trans rfl; have Kp := blk_frozen J3.out 0; have Kq := blk_frozen J3.out 1; have Kr := blk_frozen J3.out 2; have Ks := blk_frozen J3.out 3; have Kt := blk_frozen J3.out 4; have Ku := blk_frozen J3.out 5; obtain ⟨Ao53, co53, eo53⟩ := Kd.S_slice J5.out; subst eo53; obtain ⟨Ao54, co54, eo54⟩ := Kd.S_slice J6.out; subst eo54) | ((with_reducible refine gate_callee (f := 52) rfl ?_); refine goesL_ (some 13) rfl rfl Try.func52 (by kernel_rfl) rfl #[.int .i64 t160] rfl (by (try simp only [List.map_toArray, List.map_cons, List.map_nil]); first | done | rfl | (simp only [List.length_drop, List.length_take]; rfl)) ?_; (with_reducible refine (spec_l9Bad.calls t160 t171 t172 t173 t176 t177 t178 t181 t184 _ A47.out).mono ?_); rintro e w55 ⟨v174, v179, v182, v185, rfl, ho0, ho1, ho2, ho3, hb⟩; refine ⟨_, rfl, ?_⟩; have n0_ := Aside0.mk (Kd.S_below (by (with_reducible repeat (first | apply Kd.S_alloc | apply Kd.S_drewN | apply Kd.S_drew)); exact (Kd.S_mono (Kd.S_far (p := ⟨J2, 5, none⟩) (Kd.S_far (p := ⟨J2, 4, none⟩) (Kd.S_far (p := ⟨J2, 3, none⟩) (Kd.S_far (p := ⟨J2, 2, none⟩) (Kd.S_far (p := ⟨J2, 1, none⟩) (Kd.S_far (p := ⟨J2, 0, none⟩) (Kd.S_types J5.out J3.out (by decide)) (fun _ hk => hk.2) (.int .i64 t160)) (fun _ hk => hk.2) (.int .i64 t161)) (fun _ hk => hk.2) (.int .i64 t162)) (fun _ hk => hk.2) (.int .i64 t163)) (fun _ hk => hk.2) (.slice Ao53 t164.length co53)) (fun _ hk => hk.2) (.slice Ao54 t167.length co54)) (fun _ h_ => h_.1))) hb); have n1_ := Aside0.mk (Kd.S_below (by (with_reducible repeat (first | apply Kd.S_alloc | apply Kd.S_drewN | apply Kd.S_drew)); exact (Kd.S_mono (Kd.S_far (p := ⟨J2, 5, none⟩) (Kd.S_far (p := ⟨J2, 4, none⟩) (Kd.S_far (p := ⟨J2, 3, none⟩) (Kd.S_far (p := ⟨J2, 2, none⟩) (Kd.S_far (p := ⟨J2, 1, none⟩) (Kd.S_far (p := ⟨J2, 0, none⟩) (Kd.S_types J6.out J3.out (by decide)) (fun _ hk => hk.2) (.int .i64 t160)) (fun _ hk => hk.2) (.int .i64 t161)) (fun _ hk => hk.2) (.int .i64 t162)) (fun _ hk => hk.2) (.int .i64 t163)) (fun _ hk => hk.2) (.slice Ao53 t164.length co53)) (fun _ hk => hk.2) (.slice Ao54 t167.length co54)) (fun _ h_ => h_.1))) hb); have n2_ := Aside0.mk (Kd.R_lower ho0 (below_size (by repeat (first | (with_reducible first | exact HB.out | apply below_alloc | apply pw_below_drewN | apply below_drew1 | refine below_set ?_ J8.out | refine below_set ?_ J9.out) | exact HB.out)))); have n3_ := Aside0.mk (Kd.R_lower ho1 (below_size (by repeat (first | (with_reducible first | exact HB.out | apply below_alloc | apply pw_below_drewN | apply below_drew1 | refine below_set ?_ J8.out | refine below_set ?_ J9.out) | exact HB.out)))); have n4_ := Aside0.mk (Kd.R_lower ho2 (below_size (by repeat (first | (with_reducible first | exact HB.out | apply below_alloc | apply pw_below_drewN | apply below_drew1 | refine below_set ?_ J8.out | refine below_set ?_ J9.out) | exact HB.out)))); have n5_ := Aside0.mk (Kd.S_lower ho3 (below_size (by repeat (first | (with_reducible first | exact HB.out | apply below_alloc | apply pw_below_drewN | apply below_drew1 | refine below_set ?_ J8.out | refine below_set ?_ J9.out) | exact HB.out)))); have n6_ := Aside0.mk (blk_below (g := J1) (o := .cells #[.int .i64 0, .int .i64 0, .slice none 0 0, .int .i64 0, .int .i64 0, .slice none 0 0, .slice none 0 0, .slice none 0 0] 30 (0, 0)) (by (with_reducible repeat (first | refine blk_drewN ?_ _ | refine blk_drew ?_ | refine blk_alloc ?_ _)); refine blk_far ?_ Jj.out _; (with_reducible repeat (first | refine blk_drewN ?_ _ | refine blk_drew ?_ | refine blk_alloc ?_ _)); refine blk_far ?_ Jj.out _; (with_reducible repeat (first | refine blk_drewN ?_ _ | refine blk_drew ?_ | refine blk_alloc ?_ _)); refine blk_far ?_ Jj.out _; (with_reducible repeat (first | refine blk_drewN ?_ _ | refine blk_drew ?_ | refine blk_alloc ?_ _)); refine blk_far ?_ Jj.out _; (with_reducible repeat (first | refine blk_drewN ?_ _ | refine blk_drew ?_ | refine blk_alloc ?_ _)); refine blk_far ?_ Jj.out _; (with_reducible repeat (first | refine blk_drewN ?_ _ | refine blk_drew ?_ | refine blk_alloc ?_ _)); refine blk_far ?_ Jj.out _; (with_reducible repeat (first | refine blk_drewN ?_ _ | refine blk_drew ?_ | refine blk_alloc ?_ _)); exact J0.out) hb); have n7_ := Aside0.mk (blk_below (g := J2) (o := .cells #[.int .i64 t160, .int .i64 t161, .int .i64 t162, .int .i64 t163, .slice Ao53 t164.length co53, .slice Ao54 t167.length co54] 114 (0, 0)) (by (with_reducible repeat (first | refine blk_drewN ?_ _ | refine blk_drew ?_ | refine blk_alloc ?_ _)); refine blk_put (cs := #[.int .i64 t160, .int .i64 t161, .int .i64 t162, .int .i64 t163, .slice Ao53 t164.length co53, .slice none 0 0]) ?_ 5 _ rfl; (with_reducible repeat (first | refine blk_drewN ?_ _ | refine blk_drew ?_ | refine blk_alloc ?_ _)); refine blk_put (cs := #[.int .i64 t160, .int .i64 t161, .int .i64 t162, .int .i64 t163, .slice none 0 0, .slice none 0 0]) ?_ 4 _ rfl; (with_reducible repeat (first | refine blk_drewN ?_ _ | refine blk_drew ?_ | refine blk_alloc ?_ _)); refine blk_put (cs := #[.int .i64 t160, .int .i64 t161, .int .i64 t162, .int .i64 0, .slice none 0 0, .slice none 0 0]) ?_ 3 _ rfl; (with_reducible repeat (first | refine blk_drewN ?_ _ | refine blk_drew ?_ | refine blk_alloc ?_ _)); refine blk_put (cs := #[.int .i64 t160, .int .i64 t161, .int .i64 0, .int .i64 0, .slice none 0 0, .slice none 0 0]) ?_ 2 _ rfl; (with_reducible repeat (first | refine blk_drewN ?_ _ | refine blk_drew ?_ | refine blk_alloc ?_ _)); refine blk_put (cs := #[.int .i64 t160, .int .i64 0, .int .i64 0, .int .i64 0, .slice none 0 0, .slice none 0 0]) ?_ 1 _ rfl; (with_reducible repeat (first | refine blk_drewN ?_ _ | refine blk_drew ?_ | refine blk_alloc ?_ _)); refine blk_put (cs := #[.int .i64 0, .int .i64 0, .int .i64 0, .int .i64 0, .slice none 0 0, .slice none 0 0]) ?_ 0 _ rfl; (with_reducible repeat (first | refine blk_drewN ?_ _ | refine blk_drew ?_ | refine blk_alloc ?_ _)); exact J3.out) hb); have n8_ := Aside0.mk (below_step (by repeat (first | (with_reducible first | exact HB.out | apply below_alloc | apply pw_below_drewN | apply below_drew1 | refine below_set ?_ J8.out | refine below_set ?_ J9.out) | exact HB.out)) hb); clear J5; clear J6; clear J0; clear J3; clear HB; have J5 := n0_; have J6 := n1_; have Jz := n2_; have JA := n3_; have JB := n4_; have JC := n5_; have J0 := n6_; have J3 := n7_; have HB := n8_; clear n0_ n1_ n2_ n3_ n4_ n5_ n6_ n7_ n8_; (try clear hb); (try clear hb2); (try clear hk); (try clear hi); (try clear ho0); (try clear ho1); (try clear ho2); (try clear ho3); have Kv : w55.cell? ⟨J1, 0, none⟩ = some (.int .i64 0) := (blk_cell J0.out 0).trans rfl; have Kw : w55.cell? ⟨J1, 1, none⟩ = some (.int .i64 0) := (blk_cell J0.out 1).trans rfl; have Kx : w55.cell? ⟨J1, 2, none⟩ = some (.slice none 0 0) := (blk_cell J0.out 2).trans rfl; have Ky : w55.cell? ⟨J1, 3, none⟩ = some (.int .i64 0) := (blk_cell J0.out 3).trans rfl; have Kz : w55.cell? ⟨J1, 4, none⟩ = some (.int .i64 0) := (blk_cell J0.out 4).trans rfl; have KA : w55.cell? ⟨J1, 5, none⟩ = some (.slice none 0 0) := (blk_cell J0.out 5).trans rfl; have KB : w55.cell? ⟨J1, 6, none⟩ = some (.slice none 0 0) := (blk_cell J0.out 6).trans rfl; have KC : w55.cell? ⟨J1, 7, none⟩ = some (.slice none 0 0) := (blk_cell J0.out 7).trans rfl; have KD := blk_frozen J0.out 0; have KE := blk_frozen J0.out 1; have KF := blk_frozen J0.out 2; have KG := blk_frozen J0.out 3; have KH := blk_frozen J0.out 4; have KI := blk_frozen J0.out 5; have KJ := blk_frozen J0.out 6; have KK := blk_frozen J0.out 7; obtain ⟨Ao57, co57, eo57⟩ := Kd.R_slice Jz.out; subst eo57; obtain ⟨Ao58, co58, eo58⟩ := Kd.R_slice JA.out; subst eo58; obtain ⟨Ao59, co59, eo59⟩ := Kd.R_slice JB.out; subst eo59; obtain ⟨Ao60, co60, eo60⟩ := Kd.S_slice JC.out; subst eo60))
    refine bodyPost_ret (results_cell_row rfl _ _ J1 30 #[.int .i64 t171, .int .i64 t172, .slice Ao57 t173.length co57, .int .i64 t176, .int .i64 t177, .slice Ao58 t178.length co58, .slice Ao59 t181.length co59, .slice Ao60 t184.length co60] (0, 0) _ rfl (by (with_reducible repeat (first | refine blk_drewN ?_ _ | refine blk_drew ?_ | refine blk_alloc ?_ _)); refine blk_put (cs := #[.int .i64 t171, .int .i64 t172, .slice Ao57 t173.length co57, .int .i64 t176, .int .i64 t177, .slice Ao58 t178.length co58, .slice Ao59 t181.length co59, .slice none 0 0]) ?_ 7 _ rfl; (with_reducible repeat (first | refine blk_drewN ?_ _ | refine blk_drew ?_ | refine blk_alloc ?_ _)); refine blk_put (cs := #[.int .i64 t171, .int .i64 t172, .slice Ao57 t173.length co57, .int .i64 t176, .int .i64 t177, .slice Ao58 t178.length co58, .slice none 0 0, .slice none 0 0]) ?_ 6 _ rfl; (with_reducible repeat (first | refine blk_drewN ?_ _ | refine blk_drew ?_ | refine blk_alloc ?_ _)); refine blk_put (cs := #[.int .i64 t171, .int .i64 t172, .slice Ao57 t173.length co57, .int .i64 t176, .int .i64 t177, .slice none 0 0, .slice none 0 0, .slice none 0 0]) ?_ 5 _ rfl; (with_reducible repeat (first | refine blk_drewN ?_ _ | refine blk_drew ?_ | refine blk_alloc ?_ _)); refine blk_put (cs := #[.int .i64 t171, .int .i64 t172, .slice Ao57 t173.length co57, .int .i64 t176, .int .i64 0, .slice none 0 0, .slice none 0 0, .slice none 0 0]) ?_ 4 _ rfl; (with_reducible repeat (first | refine blk_drewN ?_ _ | refine blk_drew ?_ | refine blk_alloc ?_ _)); refine blk_put (cs := #[.int .i64 t171, .int .i64 t172, .slice Ao57 t173.length co57, .int .i64 0, .int .i64 0, .slice none 0 0, .slice none 0 0, .slice none 0 0]) ?_ 3 _ rfl; (with_reducible repeat (first | refine blk_drewN ?_ _ | refine blk_drew ?_ | refine blk_alloc ?_ _)); refine blk_put (cs := #[.int .i64 t171, .int .i64 t172, .slice none 0 0, .int .i64 0, .int .i64 0, .slice none 0 0, .slice none 0 0, .slice none 0 0]) ?_ 2 _ rfl; (with_reducible repeat (first | refine blk_drewN ?_ _ | refine blk_drew ?_ | refine blk_alloc ?_ _)); refine blk_put (cs := #[.int .i64 t171, .int .i64 0, .slice none 0 0, .int .i64 0, .int .i64 0, .slice none 0 0, .slice none 0 0, .slice none 0 0]) ?_ 1 _ rfl; (with_reducible repeat (first | refine blk_drewN ?_ _ | refine blk_drew ?_ | refine blk_alloc ?_ _)); refine blk_put (cs := #[.int .i64 0, .int .i64 0, .slice none 0 0, .int .i64 0, .int .i64 0, .slice none 0 0, .slice none 0 0, .slice none 0 0]) ?_ 0 _ rfl; (with_reducible repeat (first | refine blk_drewN ?_ _ | refine blk_drew ?_ | refine blk_alloc ?_ _)); exact J0.out) Try.underlying30 rfl (by kernel_rfl)) rfl ?_
    exact ⟨_, _, _, _, by first | rfl | (simp [errW_none, errW_some] <;> rfl) | (simp [*, errW_none, errW_some] <;> rfl), by (with_reducible repeat (first | apply Kd.R_alloc | apply Kd.R_drewN | apply Kd.R_drew)); exact Kd.R_mono (Kd.R_far (p := ⟨J1, 7, none⟩) (Kd.R_far (p := ⟨J1, 6, none⟩) (Kd.R_far (p := ⟨J1, 5, none⟩) (Kd.R_far (p := ⟨J1, 4, none⟩) (Kd.R_far (p := ⟨J1, 3, none⟩) (Kd.R_far (p := ⟨J1, 2, none⟩) (Kd.R_far (p := ⟨J1, 1, none⟩) (Kd.R_far (p := ⟨J1, 0, none⟩) (Kd.R_types Jz.out J0.out (by decide)) (fun _ hk => hk.2) (.int .i64 t171)) (fun _ hk => hk.2) (.int .i64 t172)) (fun _ hk => hk.2) (.slice Ao57 t173.length co57)) (fun _ hk => hk.2) (.int .i64 t176)) (fun _ hk => hk.2) (.int .i64 t177)) (fun _ hk => hk.2) (.slice Ao58 t178.length co58)) (fun _ hk => hk.2) (.slice Ao59 t181.length co59)) (fun _ hk => hk.2) (.slice Ao60 t184.length co60)) (fun _ hk => hk.1), by (with_reducible repeat (first | apply Kd.R_alloc | apply Kd.R_drewN | apply Kd.R_drew)); exact Kd.R_mono (Kd.R_far (p := ⟨J1, 7, none⟩) (Kd.R_far (p := ⟨J1, 6, none⟩) (Kd.R_far (p := ⟨J1, 5, none⟩) (Kd.R_far (p := ⟨J1, 4, none⟩) (Kd.R_far (p := ⟨J1, 3, none⟩) (Kd.R_far (p := ⟨J1, 2, none⟩) (Kd.R_far (p := ⟨J1, 1, none⟩) (Kd.R_far (p := ⟨J1, 0, none⟩) (Kd.R_types JA.out J0.out (by decide)) (fun _ hk => hk.2) (.int .i64 t171)) (fun _ hk => hk.2) (.int .i64 t172)) (fun _ hk => hk.2) (.slice Ao57 t173.length co57)) (fun _ hk => hk.2) (.int .i64 t176)) (fun _ hk => hk.2) (.int .i64 t177)) (fun _ hk => hk.2) (.slice Ao58 t178.length co58)) (fun _ hk => hk.2) (.slice Ao59 t181.length co59)) (fun _ hk => hk.2) (.slice Ao60 t184.length co60)) (fun _ hk => hk.1), by (with_reducible repeat (first | apply Kd.R_alloc | apply Kd.R_drewN | apply Kd.R_drew)); exact Kd.R_mono (Kd.R_far (p := ⟨J1, 7, none⟩) (Kd.R_far (p := ⟨J1, 6, none⟩) (Kd.R_far (p := ⟨J1, 5, none⟩) (Kd.R_far (p := ⟨J1, 4, none⟩) (Kd.R_far (p := ⟨J1, 3, none⟩) (Kd.R_far (p := ⟨J1, 2, none⟩) (Kd.R_far (p := ⟨J1, 1, none⟩) (Kd.R_far (p := ⟨J1, 0, none⟩) (Kd.R_types JB.out J0.out (by decide)) (fun _ hk => hk.2) (.int .i64 t171)) (fun _ hk => hk.2) (.int .i64 t172)) (fun _ hk => hk.2) (.slice Ao57 t173.length co57)) (fun _ hk => hk.2) (.int .i64 t176)) (fun _ hk => hk.2) (.int .i64 t177)) (fun _ hk => hk.2) (.slice Ao58 t178.length co58)) (fun _ hk => hk.2) (.slice Ao59 t181.length co59)) (fun _ hk => hk.2) (.slice Ao60 t184.length co60)) (fun _ hk => trivial), by (with_reducible repeat (first | apply Kd.S_alloc | apply Kd.S_drewN | apply Kd.S_drew)); exact Kd.S_mono (Kd.S_far (p := ⟨J1, 7, none⟩) (Kd.S_far (p := ⟨J1, 6, none⟩) (Kd.S_far (p := ⟨J1, 5, none⟩) (Kd.S_far (p := ⟨J1, 4, none⟩) (Kd.S_far (p := ⟨J1, 3, none⟩) (Kd.S_far (p := ⟨J1, 2, none⟩) (Kd.S_far (p := ⟨J1, 1, none⟩) (Kd.S_far (p := ⟨J1, 0, none⟩) (Kd.S_types JC.out J0.out (by decide)) (fun _ hk => hk.2) (.int .i64 t171)) (fun _ hk => hk.2) (.int .i64 t172)) (fun _ hk => hk.2) (.slice Ao57 t173.length co57)) (fun _ hk => hk.2) (.int .i64 t176)) (fun _ hk => hk.2) (.int .i64 t177)) (fun _ hk => hk.2) (.slice Ao58 t178.length co58)) (fun _ hk => hk.2) (.slice Ao59 t181.length co59)) (fun _ hk => hk.2) (.slice Ao60 t184.length co60)) (fun _ hk => ⟨hk.1.1, ⟨hk.1.2.1, hk.1.2.2⟩⟩), by repeat (first | (with_reducible first | exact HB.out | apply below_alloc | apply pw_below_drewN | apply below_drew1 | refine below_set ?_ J8.out | refine below_set ?_ J9.out) | exact HB.out)⟩

end Go.Proofs.Ytbppgngfiijclaa.XFnExactNewCopies
