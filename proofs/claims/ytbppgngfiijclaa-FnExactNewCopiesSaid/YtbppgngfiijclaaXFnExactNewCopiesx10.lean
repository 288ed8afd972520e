/- The machine's side of one law: functions as plain Lean functions, and that the calls do what these say. Written by a program of this session; no condition beyond those that each theorem names. -/
import Derived.Test.YtbppgngfiijclaaXFnExactNewCopiesx0
import Derived.Test.YtbppgngfiijclaaXFnExactNewCopiesx9
namespace Go.Proofs.Ytbppgngfiijclaa.XFnExactNewCopies
open Go.RowKit Go.Proofs.YtbppgngfiijclaaW.PrintWords Go.Proofs.YtbppgngfiijclaaW.PrintLast Go.Proofs.YtbppgngfiijclaaW.PrintMore
attribute [local go_sem] max2_int min2_int max_two min_two max_three min_three max_four min_four   -- for this text's walks alone
set_option linter.unusedVariables false
set_option linter.unusedSimpArgs false

/-! ### laws_heldCopiedS: function 129 -/
def laws_heldCopiedS.l0 : Nat → List (S135) → Int → Int → Option (Int)
  | 0, _, _, _ => none
  | k + 1, x0, x1, x5 => if x5 < (x0.length : Int) then (if 0 ≤ x5 then (if ((rd_T135 x0 x5).f0) = x1 then (if ((rd_T135 x0 x5).f1) = (wrap64 (x1 + 1)) then (if ((rd_T135 x0 x5).f2) = (wrap64 ((wrap64 (x1 + 1)) + 1)) then ((laws_heldCellS.f k ((rd_T135 x0 x5).f3) (wrap64 ((wrap64 ((wrap64 (x1 + 1)) + 1)) + 1))).bind fun t271 => (if t271 < 0 then (some (-1)) else ((laws_heldCellS.f k ((rd_T135 x0 x5).f4) t271).bind fun t273 => (if t273 < 0 then (some (-1)) else ((laws_heldInt64S.f k ((rd_T135 x0 x5).f5) t273).bind fun t275 => (if t275 < 0 then (some (-1)) else (laws_heldCopiedS.l0 k x0 t275 (wrap64 (x5 + 1))))))))) else (some (-1))) else (some (-1))) else (some (-1))) else (none)) else (some x1)
def laws_heldCopiedS.f (k : Nat) (l0 : List (S135)) (a1 : Int) : Option (Int) := laws_heldCopiedS.l0 k l0 a1 0
theorem laws_heldCopiedS.mono_l : ∀ k, (∀ y0 y1 y2, LeO (laws_heldCopiedS.l0 k y0 y1 y2) (laws_heldCopiedS.l0 (k + 1) y0 y1 y2))
  | 0 => fun _ _ _ r h => by simp [laws_heldCopiedS.l0] at h
  | k + 1 => by
    have ih0 := laws_heldCopiedS.mono_l k
    · intro y0 y1 y2
      unfold laws_heldCopiedS.l0
      repeat' first
      | (with_reducible exact ih0 _ _ _)
      | (with_reducible exact laws_heldCellS.mono _ _ _)
      | (with_reducible exact laws_heldInt64S.mono _ _ _)
      | (with_reducible exact LeO.refl _)
      | (with_reducible exact LeO.none _)
      | (with_reducible refine LeO.ite ?_ ?_)
      | (with_reducible refine LeO.bind ?_ (fun _ => ?_))
      | exact ih0 _ _ _
      | exact laws_heldCellS.mono _ _ _
      | exact laws_heldInt64S.mono _ _ _
      | exact LeO.none _
      | refine LeO.ite ?_ ?_
      | refine LeO.bind ?_ (fun _ => ?_)
theorem laws_heldCopiedS.mono : ∀ a0 a1 k, LeO (laws_heldCopiedS.f k a0 a1) (laws_heldCopiedS.f (k + 1) a0 a1) := by
  intro a0 a1 k
  have ih0 := laws_heldCopiedS.mono_l k
  unfold laws_heldCopiedS.f
  repeat' first
      | (with_reducible exact ih0 _ _ _)
      | (with_reducible exact laws_heldCellS.mono _ _ _)
      | (with_reducible exact laws_heldInt64S.mono _ _ _)
      | (with_reducible exact LeO.refl _)
      | (with_reducible exact LeO.none _)
      | (with_reducible refine LeO.ite ?_ ?_)
      | (with_reducible refine LeO.bind ?_ (fun _ => ?_))
      | exact ih0 _ _ _
      | exact laws_heldCellS.mono _ _ _
      | exact laws_heldInt64S.mono _ _ _
      | exact LeO.none _
      | refine LeO.ite ?_ ?_
      | refine LeO.bind ?_ (fun _ => ?_)
set_option maxHeartbeats 8000000 in
set_option maxRecDepth 100000 in
theorem laws_heldCopiedS.calls (k : Nat) (A0 : Option Addr) (c0 : Nat) (l0 : List (S135)) (a1 : Int) (r : Int) (w : World) (hr0 : Kd.C k135 w A0 l0.length l0) (hc0 : l0.length ≤ c0) (h : laws_heldCopiedS.f k l0 a1 = some r) :
    Calls Try.prog 129 #[.slice A0 l0.length c0, .int .i64 a1] w fun e w' => e = .returned (.int .i64 r) ∧ Drawn0 w w' := by
  have HR0 := Aside0.mk hr0
  have HC0 := Aside0.mk hc0
  clear hr0 hc0
  have H : (laws_heldCopiedS.l0 k l0 a1 0) = some r := h
  clear h
  have H' := Aside0.mk H
  clear H
  go_enter Try.func129, Try.ntmps129
  go_wp2
  go_loopg [1, 5] k (fun kq v1 v5 w' => ∃ (x1_1 : Int) (x5_1 : Int), v1 = .int .i64 x1_1 ∧ v5 = .int .i64 x5_1 ∧ Aside0 (laws_heldCopiedS.l0 kq l0 x1_1 x5_1 = some r) ∧ Aside0 (kq ≤ k) ∧ Drawn0 w w')
  case atStart => exact ⟨(a1), (0), (by first | rfl | (simp; done) | (simp [*]; done)), (by first | rfl | (simp; done) | (simp [*]; done)), H', ⟨Nat.le_refl _⟩, by repeat (first | exact Drawn0.refl _ | apply Drawn0.step)⟩
  case round =>
    clear H'
    try clear c1
    try clear p2
    obtain ⟨x1_1, x5_1, rfl, rfl, HA, HK1, ⟨m1, rfl⟩⟩ := hrel
    cases gk with
    | zero => exact absurd HA.out (by simp [laws_heldCopiedS.l0])
    | succ k1 =>
      have H := HA.out
      clear HA
      simp only [laws_heldCopiedS.l0] at H
      by_cases c3 : x5_1 < (l0.length : Int)
      · rw [if_pos c3] at H
        have c3b0 : decide (x5_1 < (l0.length : Int)) = true := decide_eq_true c3
        clear c3
        by_cases c4 : 0 ≤ x5_1
        · rw [if_pos c4] at H
          have c4b0 : decide (0 ≤ x5_1) = true := decide_eq_true c4
          clear c4
          by_cases c5 : ((rd_T135 l0 x5_1).f0) = x1_1
          · rw [if_pos c5] at H
            have c5b0 : (((rd_T135 l0 x5_1).f0) == x1_1) = true := beq_iff_eq.mpr c5
            have c5b1 : (((rd_T135 l0 x5_1).f0) != x1_1) = false := bne_eq_false_iff_eq.mpr c5
            clear c5
            by_cases c6 : ((rd_T135 l0 x5_1).f1) = (wrap64 (x1_1 + 1))
            · rw [if_pos c6] at H
              have c6b0 : (((rd_T135 l0 x5_1).f1) == (wrap64 (x1_1 + 1))) = true := beq_iff_eq.mpr c6
              have c6b1 : (((rd_T135 l0 x5_1).f1) != (wrap64 (x1_1 + 1))) = false := bne_eq_false_iff_eq.mpr c6
              clear c6
              by_cases c7 : ((rd_T135 l0 x5_1).f2) = (wrap64 ((wrap64 (x1_1 + 1)) + 1))
              · rw [if_pos c7] at H
                have c7b0 : (((rd_T135 l0 x5_1).f2) == (wrap64 ((wrap64 (x1_1 + 1)) + 1))) = true := beq_iff_eq.mpr c7
                have c7b1 : (((rd_T135 l0 x5_1).f2) != (wrap64 ((wrap64 (x1_1 + 1)) + 1))) = false := bne_eq_false_iff_eq.mpr c7
                clear c7
                replace H := Option.bind_eq_some_iff.mp H
                obtain ⟨t271, A80, H⟩ := H
                replace H : (if t271 < 0 then (some (-1)) else ((laws_heldCellS.f k1 ((rd_T135 l0 x5_1).f4) t271).bind fun t273 => (if t273 < 0 then (some (-1)) else ((laws_heldInt64S.f k1 ((rd_T135 l0 x5_1).f5) t273).bind fun t275 => (if t275 < 0 then (some (-1)) else (laws_heldCopiedS.l0 k1 l0 t275 (wrap64 (x5_1 + 1)))))))) = some r := H
                have A8 := Aside0.mk A80
                clear A80
                by_cases c9 : t271 < 0
                · rw [if_pos c9] at H
                  have c9b0 : decide (t271 < 0) = true := decide_eq_true c9
                  clear c9
                  obtain rfl := Option.some.inj H
                  have p267 : 0 ≤ (x5_1 : Int) := od
                  have q267 : x5_1 < (l0.length : Int) := od
                  obtain ⟨ad267, A267_3, c267_3, A267_4, c267_4, A267_5, c267_5, e267, Ji, Jj, Jk, J2, J3, J4, hl267_3, hi267_3, hl267_4, hi267_4, hl267_5, hi267_5⟩ := at_T135 HR0.out x5_1 p267 q267
                  cases e267
                  have HR267_3 := Aside0.mk hi267_3
                  have HC267_3 := Aside0.mk hl267_3
                  clear hi267_3 hl267_3
                  have HR267_4 := Aside0.mk hi267_4
                  have HC267_4 := Aside0.mk hl267_4
                  clear hi267_4 hl267_4
                  have HR267_5 := Aside0.mk hi267_5
                  have HC267_5 := Aside0.mk hl267_5
                  clear hi267_5 hl267_5
                  replace p267 := eq_true p267
                  replace q267 := eq_true q267
                  have p268 : 0 ≤ (x5_1 : Int) := od
                  have q268 : x5_1 < (l0.length : Int) := od
                  obtain ⟨ad268, A268_3, c268_3, A268_4, c268_4, A268_5, c268_5, e268, Jl, Jm, Jn, J7, J8, J9, hl268_3, hi268_3, hl268_4, hi268_4, hl268_5, hi268_5⟩ := at_T135 HR0.out x5_1 p268 q268
                  obtain rfl : ad267 = ad268 := (by injection e268)
                  have HR268_3 := Aside0.mk hi268_3
                  have HC268_3 := Aside0.mk hl268_3
                  clear hi268_3 hl268_3
                  have HR268_4 := Aside0.mk hi268_4
                  have HC268_4 := Aside0.mk hl268_4
                  clear hi268_4 hl268_4
                  have HR268_5 := Aside0.mk hi268_5
                  have HC268_5 := Aside0.mk hl268_5
                  clear hi268_5 hl268_5
                  replace p268 := eq_true p268
                  replace q268 := eq_true q268
                  have ea_ := Option.some.inj (J2.symm.trans J7)
                  injection ea_ with ea_ en_ ec_
                  subst ea_
                  subst ec_
                  clear en_
                  have ea_ := Option.some.inj (J3.symm.trans J8)
                  injection ea_ with ea_ en_ ec_
                  subst ea_
                  subst ec_
                  clear en_
                  have ea_ := Option.some.inj (J4.symm.trans J9)
                  injection ea_ with ea_ en_ ec_
                  subst ea_
                  subst ec_
                  clear en_
                  have p269 : 0 ≤ (x5_1 : Int) := od
                  have q269 : x5_1 < (l0.length : Int) := od
                  obtain ⟨ad269, A269_3, c269_3, A269_4, c269_4, A269_5, c269_5, e269, Jr, Js, Jt, Ja, Jb, Jc, hl269_3, hi269_3, hl269_4, hi269_4, hl269_5, hi269_5⟩ := at_T135 HR0.out x5_1 p269 q269
                  obtain rfl : ad267 = ad269 := (by injection e269)
                  have HR269_3 := Aside0.mk hi269_3
                  have HC269_3 := Aside0.mk hl269_3
                  clear hi269_3 hl269_3
                  have HR269_4 := Aside0.mk hi269_4
                  have HC269_4 := Aside0.mk hl269_4
                  clear hi269_4 hl269_4
                  have HR269_5 := Aside0.mk hi269_5
                  have HC269_5 := Aside0.mk hl269_5
                  clear hi269_5 hl269_5
                  replace p269 := eq_true p269
                  replace q269 := eq_true q269
                  have ea_ := Option.some.inj (J2.symm.trans Ja)
                  injection ea_ with ea_ en_ ec_
                  subst ea_
                  subst ec_
                  clear en_
                  have ea_ := Option.some.inj (J3.symm.trans Jb)
                  injection ea_ with ea_ en_ ec_
                  subst ea_
                  subst ec_
                  clear en_
                  have ea_ := Option.some.inj (J4.symm.trans Jc)
                  injection ea_ with ea_ en_ ec_
                  subst ea_
                  subst ec_
                  clear en_
                  have p270 : 0 ≤ (x5_1 : Int) := od
                  have q270 : x5_1 < (l0.length : Int) := od
                  obtain ⟨ad270, A270_3, c270_3, A270_4, c270_4, A270_5, c270_5, e270, Ju, Jv, Jw, Jf, Jg, Jh, hl270_3, hi270_3, hl270_4, hi270_4, hl270_5, hi270_5⟩ := at_T135 HR0.out x5_1 p270 q270
                  obtain rfl : ad267 = ad270 := (by injection e270)
                  have HR270_3 := Aside0.mk hi270_3
                  have HC270_3 := Aside0.mk hl270_3
                  clear hi270_3 hl270_3
                  have HR270_4 := Aside0.mk hi270_4
                  have HC270_4 := Aside0.mk hl270_4
                  clear hi270_4 hl270_4
                  have HR270_5 := Aside0.mk hi270_5
                  have HC270_5 := Aside0.mk hl270_5
                  clear hi270_5 hl270_5
                  replace p270 := eq_true p270
                  replace q270 := eq_true q270
                  have ea_ := Option.some.inj (J2.symm.trans Jf)
                  injection ea_ with ea_ en_ ec_
                  subst ea_
                  subst ec_
                  clear en_
                  have ea_ := Option.some.inj (J3.symm.trans Jg)
                  injection ea_ with ea_ en_ ec_
                  subst ea_
                  subst ec_
                  clear en_
                  have ea_ := Option.some.inj (J4.symm.trans Jh)
                  injection ea_ with ea_ en_ ec_
                  subst ea_
                  subst ec_
                  clear en_
                  go_wp2_with (first | ((with_reducible refine gate_callee (f := 58) rfl ?_); refine goesL_ (some 45) rfl rfl Try.func58 (by kernel_rfl) rfl #[.slice A267_3 ((rd_T135 l0 x5_1).f3).length c267_3, .int .i64 (wrap64 ((wrap64 ((wrap64 (x1_1 + 1)) + 1)) + 1))] rfl (by (try simp only [List.map_toArray, List.map_cons, List.map_nil]); first | done | rfl | (simp only [List.length_drop, List.length_take]; rfl)) ?_; (with_reducible refine (laws_heldCellS.calls k1 _ _ ((rd_T135 l0 x5_1).f3) (wrap64 ((wrap64 ((wrap64 (x1_1 + 1)) + 1)) + 1)) t271 _ ?side1 ?side2 A8.out).mono ?_); (case side1 => repeat (first | exact HR270_3.out | (with_reducible refine Kd.C_alloc ?_ _) | (with_reducible refine Kd.C_drewN ?_ _) | (with_reducible refine Kd.C_drew ?_))); (case side2 => exact HC270_3.out); rintro e w' ⟨rfl, ⟨nd, rfl⟩⟩; refine ⟨_, rfl, ?_⟩))
                  go_ret
                  exact ⟨by first | rfl | (simp; done) | (simp [*]; done), by repeat (first | exact Drawn0.refl _ | apply Drawn0.step)⟩
                · rw [if_neg c9] at H
                  have c9b0 : decide (t271 < 0) = false := decide_eq_false c9
                  clear c9
                  replace H := Option.bind_eq_some_iff.mp H
                  obtain ⟨t273, A100, H⟩ := H
                  replace H : (if t273 < 0 then (some (-1)) else ((laws_heldInt64S.f k1 ((rd_T135 l0 x5_1).f5) t273).bind fun t275 => (if t275 < 0 then (some (-1)) else (laws_heldCopiedS.l0 k1 l0 t275 (wrap64 (x5_1 + 1)))))) = some r := H
                  have A10 := Aside0.mk A100
                  clear A100
                  by_cases c11 : t273 < 0
                  · rw [if_pos c11] at H
                    have c11b0 : decide (t273 < 0) = true := decide_eq_true c11
                    clear c11
                    obtain rfl := Option.some.inj H
                    have p267 : 0 ≤ (x5_1 : Int) := od
                    have q267 : x5_1 < (l0.length : Int) := od
                    obtain ⟨ad267, A267_3, c267_3, A267_4, c267_4, A267_5, c267_5, e267, Ji, Jj, Jk, J2, J3, J4, hl267_3, hi267_3, hl267_4, hi267_4, hl267_5, hi267_5⟩ := at_T135 HR0.out x5_1 p267 q267
                    cases e267
                    have HR267_3 := Aside0.mk hi267_3
                    have HC267_3 := Aside0.mk hl267_3
                    clear hi267_3 hl267_3
                    have HR267_4 := Aside0.mk hi267_4
                    have HC267_4 := Aside0.mk hl267_4
                    clear hi267_4 hl267_4
                    have HR267_5 := Aside0.mk hi267_5
                    have HC267_5 := Aside0.mk hl267_5
                    clear hi267_5 hl267_5
                    replace p267 := eq_true p267
                    replace q267 := eq_true q267
                    have p268 : 0 ≤ (x5_1 : Int) := od
                    have q268 : x5_1 < (l0.length : Int) := od
                    obtain ⟨ad268, A268_3, c268_3, A268_4, c268_4, A268_5, c268_5, e268, Jl, Jm, Jn, J7, J8, J9, hl268_3, hi268_3, hl268_4, hi268_4, hl268_5, hi268_5⟩ := at_T135 HR0.out x5_1 p268 q268
                    obtain rfl : ad267 = ad268 := (by injection e268)
                    have HR268_3 := Aside0.mk hi268_3
                    have HC268_3 := Aside0.mk hl268_3
                    clear hi268_3 hl268_3
                    have HR268_4 := Aside0.mk hi268_4
                    have HC268_4 := Aside0.mk hl268_4
                    clear hi268_4 hl268_4
                    have HR268_5 := Aside0.mk hi268_5
                    have HC268_5 := Aside0.mk hl268_5
                    clear hi268_5 hl268_5
                    replace p268 := eq_true p268
                    replace q268 := eq_true q268
                    have ea_ := Option.some.inj (J2.symm.trans J7)
                    injection ea_ with ea_ en_ ec_
                    subst ea_
                    subst ec_
                    clear en_
                    have ea_ := Option.some.inj (J3.symm.trans J8)
                    injection ea_ with ea_ en_ ec_
                    subst ea_
                    subst ec_
                    clear en_
                    have ea_ := Option.some.inj (J4.symm.trans J9)
                    injection ea_ with ea_ en_ ec_
                    subst ea_
                    subst ec_
                    clear en_
                    have p269 : 0 ≤ (x5_1 : Int) := od
                    have q269 : x5_1 < (l0.length : Int) := od
                    obtain ⟨ad269, A269_3, c269_3, A269_4, c269_4, A269_5, c269_5, e269, Jr, Js, Jt, Ja, Jb, Jc, hl269_3, hi269_3, hl269_4, hi269_4, hl269_5, hi269_5⟩ := at_T135 HR0.out x5_1 p269 q269
                    obtain rfl : ad267 = ad269 := (by injection e269)
                    have HR269_3 := Aside0.mk hi269_3
                    have HC269_3 := Aside0.mk hl269_3
                    clear hi269_3 hl269_3
                    have HR269_4 := Aside0.mk hi269_4
                    have HC269_4 := Aside0.mk hl269_4
                    clear hi269_4 hl269_4
                    have HR269_5 := Aside0.mk hi269_5
                    have HC269_5 := Aside0.mk hl269_5
                    clear hi269_5 hl269_5
                    replace p269 := eq_true p269
                    replace q269 := eq_true q269
                    have ea_ := Option.some.inj (J2.symm.trans Ja)
                    injection ea_ with ea_ en_ ec_
                    subst ea_
                    subst ec_
                    clear en_
                    have ea_ := Option.some.inj (J3.symm.trans Jb)
                    injection ea_ with ea_ en_ ec_
                    subst ea_
                    subst ec_
                    clear en_
                    have ea_ := Option.some.inj (J4.symm.trans Jc)
                    injection ea_ with ea_ en_ ec_
                    subst ea_
                    subst ec_
                    clear en_
                    have p270 : 0 ≤ (x5_1 : Int) := od
                    have q270 : x5_1 < (l0.length : Int) := od
                    obtain ⟨ad270, A270_3, c270_3, A270_4, c270_4, A270_5, c270_5, e270, Ju, Jv, Jw, Jf, Jg, Jh, hl270_3, hi270_3, hl270_4, hi270_4, hl270_5, hi270_5⟩ := at_T135 HR0.out x5_1 p270 q270
                    obtain rfl : ad267 = ad270 := (by injection e270)
                    have HR270_3 := Aside0.mk hi270_3
                    have HC270_3 := Aside0.mk hl270_3
                    clear hi270_3 hl270_3
                    have HR270_4 := Aside0.mk hi270_4
                    have HC270_4 := Aside0.mk hl270_4
                    clear hi270_4 hl270_4
                    have HR270_5 := Aside0.mk hi270_5
                    have HC270_5 := Aside0.mk hl270_5
                    clear hi270_5 hl270_5
                    replace p270 := eq_true p270
                    replace q270 := eq_true q270
                    have ea_ := Option.some.inj (J2.symm.trans Jf)
                    injection ea_ with ea_ en_ ec_
                    subst ea_
                    subst ec_
                    clear en_
                    have ea_ := Option.some.inj (J3.symm.trans Jg)
                    injection ea_ with ea_ en_ ec_
                    subst ea_
                    subst ec_
                    clear en_
                    have ea_ := Option.some.inj (J4.symm.trans Jh)
                    injection ea_ with ea_ en_ ec_
                    subst ea_
                    subst ec_
                    clear en_
                    go_wp2_with (first | ((with_reducible refine gate_callee (f := 58) rfl ?_); refine goesL_ (some 45) rfl rfl Try.func58 (by kernel_rfl) rfl #[.slice A267_3 ((rd_T135 l0 x5_1).f3).length c267_3, .int .i64 (wrap64 ((wrap64 ((wrap64 (x1_1 + 1)) + 1)) + 1))] rfl (by (try simp only [List.map_toArray, List.map_cons, List.map_nil]); first | done | rfl | (simp only [List.length_drop, List.length_take]; rfl)) ?_; (with_reducible refine (laws_heldCellS.calls k1 _ _ ((rd_T135 l0 x5_1).f3) (wrap64 ((wrap64 ((wrap64 (x1_1 + 1)) + 1)) + 1)) t271 _ ?side1 ?side2 A8.out).mono ?_); (case side1 => repeat (first | exact HR270_3.out | (with_reducible refine Kd.C_alloc ?_ _) | (with_reducible refine Kd.C_drewN ?_ _) | (with_reducible refine Kd.C_drew ?_))); (case side2 => exact HC270_3.out); rintro e w' ⟨rfl, ⟨nd, rfl⟩⟩; refine ⟨_, rfl, ?_⟩; have p272 : 0 ≤ (x5_1 : Int) := od; have q272 : x5_1 < (l0.length : Int) := od; obtain ⟨ad272, A272_3, c272_3, A272_4, c272_4, A272_5, c272_5, e272, JA, JB, JC, Jo, Jp, Jq, hl272_3, hi272_3, hl272_4, hi272_4, hl272_5, hi272_5⟩ := at_T135 HR0.out x5_1 p272 q272; obtain rfl : ad267 = ad272 := (by injection e272); have HR272_3 := Aside0.mk hi272_3; have HC272_3 := Aside0.mk hl272_3; clear hi272_3 hl272_3; have HR272_4 := Aside0.mk hi272_4; have HC272_4 := Aside0.mk hl272_4; clear hi272_4 hl272_4; have HR272_5 := Aside0.mk hi272_5; have HC272_5 := Aside0.mk hl272_5; clear hi272_5 hl272_5; replace p272 := eq_true p272; replace q272 := eq_true q272; have ea_ := Option.some.inj (J2.symm.trans Jo); injection ea_ with ea_ en_ ec_; subst ea_; subst ec_; clear en_; have ea_ := Option.some.inj (J3.symm.trans Jp); injection ea_ with ea_ en_ ec_; subst ea_; subst ec_; clear en_; have ea_ := Option.some.inj (J4.symm.trans Jq); injection ea_ with ea_ en_ ec_; subst ea_; subst ec_; clear en_) | ((with_reducible refine gate_callee (f := 58) rfl ?_); refine goesL_ (some 54) rfl rfl Try.func58 (by kernel_rfl) rfl #[.slice A267_4 ((rd_T135 l0 x5_1).f4).length c267_4, .int .i64 t271] rfl (by (try simp only [List.map_toArray, List.map_cons, List.map_nil]); first | done | rfl | (simp only [List.length_drop, List.length_take]; rfl)) ?_; (with_reducible refine (laws_heldCellS.calls k1 _ _ ((rd_T135 l0 x5_1).f4) t271 t273 _ ?side1 ?side2 A10.out).mono ?_); (case side1 => repeat (first | exact HR272_4.out | (with_reducible refine Kd.C_alloc ?_ _) | (with_reducible refine Kd.C_drewN ?_ _) | (with_reducible refine Kd.C_drew ?_))); (case side2 => exact HC272_4.out); rintro e w' ⟨rfl, ⟨nd, rfl⟩⟩; refine ⟨_, rfl, ?_⟩))
                    go_ret
                    exact ⟨by first | rfl | (simp; done) | (simp [*]; done), by repeat (first | exact Drawn0.refl _ | apply Drawn0.step)⟩
                  · rw [if_neg c11] at H
                    have c11b0 : decide (t273 < 0) = false := decide_eq_false c11
                    clear c11
                    replace H := Option.bind_eq_some_iff.mp H
                    obtain ⟨t275, A120, H⟩ := H
                    replace H : (if t275 < 0 then (some (-1)) else (laws_heldCopiedS.l0 k1 l0 t275 (wrap64 (x5_1 + 1)))) = some r := H
                    have A12 := Aside0.mk A120
                    clear A120
                    by_cases c13 : t275 < 0
                    · rw [if_pos c13] at H
                      have c13b0 : decide (t275 < 0) = true := decide_eq_true c13
                      clear c13
                      obtain rfl := Option.some.inj H
                      have p267 : 0 ≤ (x5_1 : Int) := od
                      have q267 : x5_1 < (l0.length : Int) := od
                      obtain ⟨ad267, A267_3, c267_3, A267_4, c267_4, A267_5, c267_5, e267, Ji, Jj, Jk, J2, J3, J4, hl267_3, hi267_3, hl267_4, hi267_4, hl267_5, hi267_5⟩ := at_T135 HR0.out x5_1 p267 q267
                      cases e267
                      have HR267_3 := Aside0.mk hi267_3
                      have HC267_3 := Aside0.mk hl267_3
                      clear hi267_3 hl267_3
                      have HR267_4 := Aside0.mk hi267_4
                      have HC267_4 := Aside0.mk hl267_4
                      clear hi267_4 hl267_4
                      have HR267_5 := Aside0.mk hi267_5
                      have HC267_5 := Aside0.mk hl267_5
                      clear hi267_5 hl267_5
                      replace p267 := eq_true p267
                      replace q267 := eq_true q267
                      have p268 : 0 ≤ (x5_1 : Int) := od
                      have q268 : x5_1 < (l0.length : Int) := od
                      obtain ⟨ad268, A268_3, c268_3, A268_4, c268_4, A268_5, c268_5, e268, Jl, Jm, Jn, J7, J8, J9, hl268_3, hi268_3, hl268_4, hi268_4, hl268_5, hi268_5⟩ := at_T135 HR0.out x5_1 p268 q268
                      obtain rfl : ad267 = ad268 := (by injection e268)
                      have HR268_3 := Aside0.mk hi268_3
                      have HC268_3 := Aside0.mk hl268_3
                      clear hi268_3 hl268_3
                      have HR268_4 := Aside0.mk hi268_4
                      have HC268_4 := Aside0.mk hl268_4
                      clear hi268_4 hl268_4
                      have HR268_5 := Aside0.mk hi268_5
                      have HC268_5 := Aside0.mk hl268_5
                      clear hi268_5 hl268_5
                      replace p268 := eq_true p268
                      replace q268 := eq_true q268
                      have ea_ := Option.some.inj (J2.symm.trans J7)
                      injection ea_ with ea_ en_ ec_
                      subst ea_
                      subst ec_
                      clear en_
                      have ea_ := Option.some.inj (J3.symm.trans J8)
                      injection ea_ with ea_ en_ ec_
                      subst ea_
                      subst ec_
                      clear en_
                      have ea_ := Option.some.inj (J4.symm.trans J9)
                      injection ea_ with ea_ en_ ec_
                      subst ea_
                      subst ec_
                      clear en_
                      have p269 : 0 ≤ (x5_1 : Int) := od
                      have q269 : x5_1 < (l0.length : Int) := od
                      obtain ⟨ad269, A269_3, c269_3, A269_4, c269_4, A269_5, c269_5, e269, Jr, Js, Jt, Ja, Jb, Jc, hl269_3, hi269_3, hl269_4, hi269_4, hl269_5, hi269_5⟩ := at_T135 HR0.out x5_1 p269 q269
                      obtain rfl : ad267 = ad269 := (by injection e269)
                      have HR269_3 := Aside0.mk hi269_3
                      have HC269_3 := Aside0.mk hl269_3
                      clear hi269_3 hl269_3
                      have HR269_4 := Aside0.mk hi269_4
                      have HC269_4 := Aside0.mk hl269_4
                      clear hi269_4 hl269_4
                      have HR269_5 := Aside0.mk hi269_5
                      have HC269_5 := Aside0.mk hl269_5
                      clear hi269_5 hl269_5
                      replace p269 := eq_true p269
                      replace q269 := eq_true q269
                      have ea_ := Option.some.inj (J2.symm.trans Ja)
                      injection ea_ with ea_ en_ ec_
                      subst ea_
                      subst ec_
                      clear en_
                      have ea_ := Option.some.inj (J3.symm.trans Jb)
                      injection ea_ with ea_ en_ ec_
                      subst ea_
                      subst ec_
                      clear en_
                      have ea_ := Option.some.inj (J4.symm.trans Jc)
                      injection ea_ with ea_ en_ ec_
                      subst ea_
                      subst ec_
                      clear en_
                      have p270 : 0 ≤ (x5_1 : Int) := od
                      have q270 : x5_1 < (l0.length : Int) := od
                      obtain ⟨ad270, A270_3, c270_3, A270_4, c270_4, A270_5, c270_5, e270, Ju, Jv, Jw, Jf, Jg, Jh, hl270_3, hi270_3, hl270_4, hi270_4, hl270_5, hi270_5⟩ := at_T135 HR0.out x5_1 p270 q270
                      obtain rfl : ad267 = ad270 := (by injection e270)
                      have HR270_3 := Aside0.mk hi270_3
                      have HC270_3 := Aside0.mk hl270_3
                      clear hi270_3 hl270_3
                      have HR270_4 := Aside0.mk hi270_4
                      have HC270_4 := Aside0.mk hl270_4
                      clear hi270_4 hl270_4
                      have HR270_5 := Aside0.mk hi270_5
                      have HC270_5 := Aside0.mk hl270_5
                      clear hi270_5 hl270_5
                      replace p270 := eq_true p270
                      replace q270 := eq_true q270
                      have ea_ := Option.some.inj (J2.symm.trans Jf)
                      injection ea_ with ea_ en_ ec_
                      subst ea_
                      subst ec_
                      clear en_
                      have ea_ := Option.some.inj (J3.symm.trans Jg)
                      injection ea_ with ea_ en_ ec_
                      subst ea_
                      subst ec_
                      clear en_
                      have ea_ := Option.some.inj (J4.symm.trans Jh)
                      injection ea_ with ea_ en_ ec_
                      subst ea_
                      subst ec_
                      clear en_
                      go_wp2_with (first | ((with_reducible refine gate_callee (f := 58) rfl ?_); refine goesL_ (some 45) rfl rfl Try.func58 (by kernel_rfl) rfl #[.slice A267_3 ((rd_T135 l0 x5_1).f3).length c267_3, .int .i64 (wrap64 ((wrap64 ((wrap64 (x1_1 + 1)) + 1)) + 1))] rfl (by (try simp only [List.map_toArray, List.map_cons, List.map_nil]); first | done | rfl | (simp only [List.length_drop, List.length_take]; rfl)) ?_; (with_reducible refine (laws_heldCellS.calls k1 _ _ ((rd_T135 l0 x5_1).f3) (wrap64 ((wrap64 ((wrap64 (x1_1 + 1)) + 1)) + 1)) t271 _ ?side1 ?side2 A8.out).mono ?_); (case side1 => repeat (first | exact HR270_3.out | (with_reducible refine Kd.C_alloc ?_ _) | (with_reducible refine Kd.C_drewN ?_ _) | (with_reducible refine Kd.C_drew ?_))); (case side2 => exact HC270_3.out); rintro e w' ⟨rfl, ⟨nd, rfl⟩⟩; refine ⟨_, rfl, ?_⟩; have p272 : 0 ≤ (x5_1 : Int) := od; have q272 : x5_1 < (l0.length : Int) := od; obtain ⟨ad272, A272_3, c272_3, A272_4, c272_4, A272_5, c272_5, e272, JA, JB, JC, Jo, Jp, Jq, hl272_3, hi272_3, hl272_4, hi272_4, hl272_5, hi272_5⟩ := at_T135 HR0.out x5_1 p272 q272; obtain rfl : ad267 = ad272 := (by injection e272); have HR272_3 := Aside0.mk hi272_3; have HC272_3 := Aside0.mk hl272_3; clear hi272_3 hl272_3; have HR272_4 := Aside0.mk hi272_4; have HC272_4 := Aside0.mk hl272_4; clear hi272_4 hl272_4; have HR272_5 := Aside0.mk hi272_5; have HC272_5 := Aside0.mk hl272_5; clear hi272_5 hl272_5; replace p272 := eq_true p272; replace q272 := eq_true q272; have ea_ := Option.some.inj (J2.symm.trans Jo); injection ea_ with ea_ en_ ec_; subst ea_; subst ec_; clear en_; have ea_ := Option.some.inj (J3.symm.trans Jp); injection ea_ with ea_ en_ ec_; subst ea_; subst ec_; clear en_; have ea_ := Option.some.inj (J4.symm.trans Jq); injection ea_ with ea_ en_ ec_; subst ea_; subst ec_; clear en_) | ((with_reducible refine gate_callee (f := 58) rfl ?_); refine goesL_ (some 54) rfl rfl Try.func58 (by kernel_rfl) rfl #[.slice A267_4 ((rd_T135 l0 x5_1).f4).length c267_4, .int .i64 t271] rfl (by (try simp only [List.map_toArray, List.map_cons, List.map_nil]); first | done | rfl | (simp only [List.length_drop, List.length_take]; rfl)) ?_; (with_reducible refine (laws_heldCellS.calls k1 _ _ ((rd_T135 l0 x5_1).f4) t271 t273 _ ?side1 ?side2 A10.out).mono ?_); (case side1 => repeat (first | exact HR272_4.out | (with_reducible refine Kd.C_alloc ?_ _) | (with_reducible refine Kd.C_drewN ?_ _) | (with_reducible refine Kd.C_drew ?_))); (case side2 => exact HC272_4.out); rintro e w' ⟨rfl, ⟨nd, rfl⟩⟩; refine ⟨_, rfl, ?_⟩; have p274 : 0 ≤ (x5_1 : Int) := od; have q274 : x5_1 < (l0.length : Int) := od; obtain ⟨ad274, A274_3, c274_3, A274_4, c274_4, A274_5, c274_5, e274, JF, JG, JH, Jx, Jy, Jz, hl274_3, hi274_3, hl274_4, hi274_4, hl274_5, hi274_5⟩ := at_T135 HR0.out x5_1 p274 q274; obtain rfl : ad267 = ad274 := (by injection e274); have HR274_3 := Aside0.mk hi274_3; have HC274_3 := Aside0.mk hl274_3; clear hi274_3 hl274_3; have HR274_4 := Aside0.mk hi274_4; have HC274_4 := Aside0.mk hl274_4; clear hi274_4 hl274_4; have HR274_5 := Aside0.mk hi274_5; have HC274_5 := Aside0.mk hl274_5; clear hi274_5 hl274_5; replace p274 := eq_true p274; replace q274 := eq_true q274; have ea_ := Option.some.inj (J2.symm.trans Jx); injection ea_ with ea_ en_ ec_; subst ea_; subst ec_; clear en_; have ea_ := Option.some.inj (J3.symm.trans Jy); injection ea_ with ea_ en_ ec_; subst ea_; subst ec_; clear en_; have ea_ := Option.some.inj (J4.symm.trans Jz); injection ea_ with ea_ en_ ec_; subst ea_; subst ec_; clear en_) | ((with_reducible refine gate_callee (f := 128) rfl ?_); refine goesL_ (some 63) rfl rfl Try.func128 (by kernel_rfl) rfl #[.slice A267_5 ((rd_T135 l0 x5_1).f5).length c267_5, .int .i64 t273] rfl (by (try simp only [List.map_toArray, List.map_cons, List.map_nil]); first | done | rfl | (simp only [List.length_drop, List.length_take]; rfl)) ?_; (with_reducible refine (laws_heldInt64S.calls k1 _ _ ((rd_T135 l0 x5_1).f5) t273 t275 _ ?side1 ?side2 A12.out).mono ?_); (case side1 => repeat (first | exact HR274_5.out | (with_reducible refine Kd.C_alloc ?_ _) | (with_reducible refine Kd.C_drewN ?_ _) | (with_reducible refine Kd.C_drew ?_))); (case side2 => exact HC274_5.out); rintro e w' ⟨rfl, ⟨nd, rfl⟩⟩; refine ⟨_, rfl, ?_⟩))
                      go_ret
                      exact ⟨by first | rfl | (simp; done) | (simp [*]; done), by repeat (first | exact Drawn0.refl _ | apply Drawn0.step)⟩
                    · rw [if_neg c13] at H
                      have c13b0 : decide (t275 < 0) = false := decide_eq_false c13
                      clear c13
                      have H' := Aside0.mk H
                      clear H
                      have p267 : 0 ≤ (x5_1 : Int) := od
                      have q267 : x5_1 < (l0.length : Int) := od
                      obtain ⟨ad267, A267_3, c267_3, A267_4, c267_4, A267_5, c267_5, e267, Ji, Jj, Jk, J2, J3, J4, hl267_3, hi267_3, hl267_4, hi267_4, hl267_5, hi267_5⟩ := at_T135 HR0.out x5_1 p267 q267
                      cases e267
                      have HR267_3 := Aside0.mk hi267_3
                      have HC267_3 := Aside0.mk hl267_3
                      clear hi267_3 hl267_3
                      have HR267_4 := Aside0.mk hi267_4
                      have HC267_4 := Aside0.mk hl267_4
                      clear hi267_4 hl267_4
                      have HR267_5 := Aside0.mk hi267_5
                      have HC267_5 := Aside0.mk hl267_5
                      clear hi267_5 hl267_5
                      replace p267 := eq_true p267
                      replace q267 := eq_true q267
                      have p268 : 0 ≤ (x5_1 : Int) := od
                      have q268 : x5_1 < (l0.length : Int) := od
                      obtain ⟨ad268, A268_3, c268_3, A268_4, c268_4, A268_5, c268_5, e268, Jl, Jm, Jn, J7, J8, J9, hl268_3, hi268_3, hl268_4, hi268_4, hl268_5, hi268_5⟩ := at_T135 HR0.out x5_1 p268 q268
                      obtain rfl : ad267 = ad268 := (by injection e268)
                      have HR268_3 := Aside0.mk hi268_3
                      have HC268_3 := Aside0.mk hl268_3
                      clear hi268_3 hl268_3
                      have HR268_4 := Aside0.mk hi268_4
                      have HC268_4 := Aside0.mk hl268_4
                      clear hi268_4 hl268_4
                      have HR268_5 := Aside0.mk hi268_5
                      have HC268_5 := Aside0.mk hl268_5
                      clear hi268_5 hl268_5
                      replace p268 := eq_true p268
                      replace q268 := eq_true q268
                      have ea_ := Option.some.inj (J2.symm.trans J7)
                      injection ea_ with ea_ en_ ec_
                      subst ea_
                      subst ec_
                      clear en_
                      have ea_ := Option.some.inj (J3.symm.trans J8)
                      injection ea_ with ea_ en_ ec_
                      subst ea_
                      subst ec_
                      clear en_
                      have ea_ := Option.some.inj (J4.symm.trans J9)
                      injection ea_ with ea_ en_ ec_
                      subst ea_
                      subst ec_
                      clear en_
                      have p269 : 0 ≤ (x5_1 : Int) := od
                      have q269 : x5_1 < (l0.length : Int) := od
                      obtain ⟨ad269, A269_3, c269_3, A269_4, c269_4, A269_5, c269_5, e269, Jr, Js, Jt, Ja, Jb, Jc, hl269_3, hi269_3, hl269_4, hi269_4, hl269_5, hi269_5⟩ := at_T135 HR0.out x5_1 p269 q269
                      obtain rfl : ad267 = ad269 := (by injection e269)
                      have HR269_3 := Aside0.mk hi269_3
                      have HC269_3 := Aside0.mk hl269_3
                      clear hi269_3 hl269_3
                      have HR269_4 := Aside0.mk hi269_4
                      have HC269_4 := Aside0.mk hl269_4
                      clear hi269_4 hl269_4
                      have HR269_5 := Aside0.mk hi269_5
                      have HC269_5 := Aside0.mk hl269_5
                      clear hi269_5 hl269_5
                      replace p269 := eq_true p269
                      replace q269 := eq_true q269
                      have ea_ := Option.some.inj (J2.symm.trans Ja)
                      injection ea_ with ea_ en_ ec_
                      subst ea_
                      subst ec_
                      clear en_
                      have ea_ := Option.some.inj (J3.symm.trans Jb)
                      injection ea_ with ea_ en_ ec_
                      subst ea_
                      subst ec_
                      clear en_
                      have ea_ := Option.some.inj (J4.symm.trans Jc)
                      injection ea_ with ea_ en_ ec_
                      subst ea_
                      subst ec_
                      clear en_
                      have p270 : 0 ≤ (x5_1 : Int) := od
                      have q270 : x5_1 < (l0.length : Int) := od
                      obtain ⟨ad270, A270_3, c270_3, A270_4, c270_4, A270_5, c270_5, e270, Ju, Jv, Jw, Jf, Jg, Jh, hl270_3, hi270_3, hl270_4, hi270_4, hl270_5, hi270_5⟩ := at_T135 HR0.out x5_1 p270 q270
                      obtain rfl : ad267 = ad270 := (by injection e270)
                      have HR270_3 := Aside0.mk hi270_3
                      have HC270_3 := Aside0.mk hl270_3
                      clear hi270_3 hl270_3
                      have HR270_4 := Aside0.mk hi270_4
                      have HC270_4 := Aside0.mk hl270_4
                      clear hi270_4 hl270_4
                      have HR270_5 := Aside0.mk hi270_5
                      have HC270_5 := Aside0.mk hl270_5
                      clear hi270_5 hl270_5
                      replace p270 := eq_true p270
                      replace q270 := eq_true q270
                      have ea_ := Option.some.inj (J2.symm.trans Jf)
                      injection ea_ with ea_ en_ ec_
                      subst ea_
                      subst ec_
                      clear en_
                      have ea_ := Option.some.inj (J3.symm.trans Jg)
                      injection ea_ with ea_ en_ ec_
                      subst ea_
                      subst ec_
                      clear en_
                      have ea_ := Option.some.inj (J4.symm.trans Jh)
                      injection ea_ with ea_ en_ ec_
                      subst ea_
                      subst ec_
                      clear en_
                      go_wp2_with (first | ((with_reducible refine gate_callee (f := 58) rfl ?_); refine goesL_ (some 45) rfl rfl Try.func58 (by kernel_rfl) rfl #[.slice A267_3 ((rd_T135 l0 x5_1).f3).length c267_3, .int .i64 (wrap64 ((wrap64 ((wrap64 (x1_1 + 1)) + 1)) + 1))] rfl (by (try simp only [List.map_toArray, List.map_cons, List.map_nil]); first | done | rfl | (simp only [List.length_drop, List.length_take]; rfl)) ?_; (with_reducible refine (laws_heldCellS.calls k1 _ _ ((rd_T135 l0 x5_1).f3) (wrap64 ((wrap64 ((wrap64 (x1_1 + 1)) + 1)) + 1)) t271 _ ?side1 ?side2 A8.out).mono ?_); (case side1 => repeat (first | exact HR270_3.out | (with_reducible refine Kd.C_alloc ?_ _) | (with_reducible refine Kd.C_drewN ?_ _) | (with_reducible refine Kd.C_drew ?_))); (case side2 => exact HC270_3.out); rintro e w' ⟨rfl, ⟨nd, rfl⟩⟩; refine ⟨_, rfl, ?_⟩; have p272 : 0 ≤ (x5_1 : Int) := od; have q272 : x5_1 < (l0.length : Int) := od; obtain ⟨ad272, A272_3, c272_3, A272_4, c272_4, A272_5, c272_5, e272, JA, JB, JC, Jo, Jp, Jq, hl272_3, hi272_3, hl272_4, hi272_4, hl272_5, hi272_5⟩ := at_T135 HR0.out x5_1 p272 q272; obtain rfl : ad267 = ad272 := (by injection e272); have HR272_3 := Aside0.mk hi272_3; have HC272_3 := Aside0.mk hl272_3; clear hi272_3 hl272_3; have HR272_4 := Aside0.mk hi272_4; have HC272_4 := Aside0.mk hl272_4; clear hi272_4 hl272_4; have HR272_5 := Aside0.mk hi272_5; have HC272_5 := Aside0.mk hl272_5; clear hi272_5 hl272_5; replace p272 := eq_true p272; replace q272 := eq_true q272; have ea_ := Option.some.inj (J2.symm.trans Jo); injection ea_ with ea_ en_ ec_; subst ea_; subst ec_; clear en_; have ea_ := Option.some.inj (J3.symm.trans Jp); injection ea_ with ea_ en_ ec_; subst ea_; subst ec_; clear en_; have ea_ := Option.some.inj (J4.symm.trans Jq); injection ea_ with ea_ en_ ec_; subst ea_; subst ec_; clear en_) | ((with_reducible refine gate_callee (f := 58) rfl ?_); refine goesL_ (some 54) rfl rfl Try.func58 (by kernel_rfl) rfl #[.slice A267_4 ((rd_T135 l0 x5_1).f4).length c267_4, .int .i64 t271] rfl (by (try simp only [List.map_toArray, List.map_cons, List.map_nil]); first | done | rfl | (simp only [List.length_drop, List.length_take]; rfl)) ?_; (with_reducible refine (laws_heldCellS.calls k1 _ _ ((rd_T135 l0 x5_1).f4) t271 t273 _ ?side1 ?side2 A10.out).mono ?_); (case side1 => repeat (first | exact HR272_4.out | (with_reducible refine Kd.C_alloc ?_ _) | (with_reducible refine Kd.C_drewN ?_ _) | (with_reducible refine Kd.C_drew ?_))); (case side2 => exact HC272_4.out); rintro e w' ⟨rfl, ⟨nd, rfl⟩⟩; refine ⟨_, rfl, ?_⟩; have p274 : 0 ≤ (x5_1 : Int) := od; have q274 : x5_1 < (l0.length : Int) := od; obtain ⟨ad274, A274_3, c274_3, A274_4, c274_4, A274_5, c274_5, e274, JF, JG, JH, Jx, Jy, Jz, hl274_3, hi274_3, hl274_4, hi274_4, hl274_5, hi274_5⟩ := at_T135 HR0.out x5_1 p274 q274; obtain rfl : ad267 = ad274 := (by injection e274); have HR274_3 := Aside0.mk hi274_3; have HC274_3 := Aside0.mk hl274_3; clear hi274_3 hl274_3; have HR274_4 := Aside0.mk hi274_4; have HC274_4 := Aside0.mk hl274_4; clear hi274_4 hl274_4; have HR274_5 := Aside0.mk hi274_5; have HC274_5 := Aside0.mk hl274_5; clear hi274_5 hl274_5; replace p274 := eq_true p274; replace q274 := eq_true q274; have ea_ := Option.some.inj (J2.symm.trans Jx); injection ea_ with ea_ en_ ec_; subst ea_; subst ec_; clear en_; have ea_ := Option.some.inj (J3.symm.trans Jy); injection ea_ with ea_ en_ ec_; subst ea_; subst ec_; clear en_; have ea_ := Option.some.inj (J4.symm.trans Jz); injection ea_ with ea_ en_ ec_; subst ea_; subst ec_; clear en_) | ((with_reducible refine gate_callee (f := 128) rfl ?_); refine goesL_ (some 63) rfl rfl Try.func128 (by kernel_rfl) rfl #[.slice A267_5 ((rd_T135 l0 x5_1).f5).length c267_5, .int .i64 t273] rfl (by (try simp only [List.map_toArray, List.map_cons, List.map_nil]); first | done | rfl | (simp only [List.length_drop, List.length_take]; rfl)) ?_; (with_reducible refine (laws_heldInt64S.calls k1 _ _ ((rd_T135 l0 x5_1).f5) t273 t275 _ ?side1 ?side2 A12.out).mono ?_); (case side1 => repeat (first | exact HR274_5.out | (with_reducible refine Kd.C_alloc ?_ _) | (with_reducible refine Kd.C_drewN ?_ _) | (with_reducible refine Kd.C_drew ?_))); (case side2 => exact HC274_5.out); rintro e w' ⟨rfl, ⟨nd, rfl⟩⟩; refine ⟨_, rfl, ?_⟩))
                      go_roundg k1
                      case measure => have := HK1.out; omega
                      case rel => exact ⟨(t275), (wrap64 (x5_1 + 1)), (by first | rfl | (simp; done) | (simp [*]; done)), (by first | rfl | (simp; done) | (simp [*]; done)), H', ⟨by have := HK1.out; omega⟩, by repeat (first | exact Drawn0.refl _ | apply Drawn0.step)⟩
              · rw [if_neg c7] at H
                have c7b0 : (((rd_T135 l0 x5_1).f2) == (wrap64 ((wrap64 (x1_1 + 1)) + 1))) = false := beq_eq_false_iff_ne.mpr c7
                have c7b1 : (((rd_T135 l0 x5_1).f2) != (wrap64 ((wrap64 (x1_1 + 1)) + 1))) = true := bne_iff_ne.mpr c7
                obtain rfl := Option.some.inj H
                have p267 : 0 ≤ (x5_1 : Int) := od
                have q267 : x5_1 < (l0.length : Int) := od
                obtain ⟨ad267, A267_3, c267_3, A267_4, c267_4, A267_5, c267_5, e267, Ji, Jj, Jk, J2, J3, J4, hl267_3, hi267_3, hl267_4, hi267_4, hl267_5, hi267_5⟩ := at_T135 HR0.out x5_1 p267 q267
                cases e267
                have HR267_3 := Aside0.mk hi267_3
                have HC267_3 := Aside0.mk hl267_3
                clear hi267_3 hl267_3
                have HR267_4 := Aside0.mk hi267_4
                have HC267_4 := Aside0.mk hl267_4
                clear hi267_4 hl267_4
                have HR267_5 := Aside0.mk hi267_5
                have HC267_5 := Aside0.mk hl267_5
                clear hi267_5 hl267_5
                replace p267 := eq_true p267
                replace q267 := eq_true q267
                have p268 : 0 ≤ (x5_1 : Int) := od
                have q268 : x5_1 < (l0.length : Int) := od
                obtain ⟨ad268, A268_3, c268_3, A268_4, c268_4, A268_5, c268_5, e268, Jl, Jm, Jn, J7, J8, J9, hl268_3, hi268_3, hl268_4, hi268_4, hl268_5, hi268_5⟩ := at_T135 HR0.out x5_1 p268 q268
                obtain rfl : ad267 = ad268 := (by injection e268)
                have HR268_3 := Aside0.mk hi268_3
                have HC268_3 := Aside0.mk hl268_3
                clear hi268_3 hl268_3
                have HR268_4 := Aside0.mk hi268_4
                have HC268_4 := Aside0.mk hl268_4
                clear hi268_4 hl268_4
                have HR268_5 := Aside0.mk hi268_5
                have HC268_5 := Aside0.mk hl268_5
                clear hi268_5 hl268_5
                replace p268 := eq_true p268
                replace q268 := eq_true q268
                have ea_ := Option.some.inj (J2.symm.trans J7)
                injection ea_ with ea_ en_ ec_
                subst ea_
                subst ec_
                clear en_
                have ea_ := Option.some.inj (J3.symm.trans J8)
                injection ea_ with ea_ en_ ec_
                subst ea_
                subst ec_
                clear en_
                have ea_ := Option.some.inj (J4.symm.trans J9)
                injection ea_ with ea_ en_ ec_
                subst ea_
                subst ec_
                clear en_
                have p269 : 0 ≤ (x5_1 : Int) := od
                have q269 : x5_1 < (l0.length : Int) := od
                obtain ⟨ad269, A269_3, c269_3, A269_4, c269_4, A269_5, c269_5, e269, Jr, Js, Jt, Ja, Jb, Jc, hl269_3, hi269_3, hl269_4, hi269_4, hl269_5, hi269_5⟩ := at_T135 HR0.out x5_1 p269 q269
                obtain rfl : ad267 = ad269 := (by injection e269)
                have HR269_3 := Aside0.mk hi269_3
                have HC269_3 := Aside0.mk hl269_3
                clear hi269_3 hl269_3
                have HR269_4 := Aside0.mk hi269_4
                have HC269_4 := Aside0.mk hl269_4
                clear hi269_4 hl269_4
                have HR269_5 := Aside0.mk hi269_5
                have HC269_5 := Aside0.mk hl269_5
                clear hi269_5 hl269_5
                replace p269 := eq_true p269
                replace q269 := eq_true q269
                have ea_ := Option.some.inj (J2.symm.trans Ja)
                injection ea_ with ea_ en_ ec_
                subst ea_
                subst ec_
                clear en_
                have ea_ := Option.some.inj (J3.symm.trans Jb)
                injection ea_ with ea_ en_ ec_
                subst ea_
                subst ec_
                clear en_
                have ea_ := Option.some.inj (J4.symm.trans Jc)
                injection ea_ with ea_ en_ ec_
                subst ea_
                subst ec_
                clear en_
                go_wp2
                go_ret
                exact ⟨by first | rfl | (simp; done) | (simp [*]; done), by repeat (first | exact Drawn0.refl _ | apply Drawn0.step)⟩
            · rw [if_neg c6] at H
              have c6b0 : (((rd_T135 l0 x5_1).f1) == (wrap64 (x1_1 + 1))) = false := beq_eq_false_iff_ne.mpr c6
              have c6b1 : (((rd_T135 l0 x5_1).f1) != (wrap64 (x1_1 + 1))) = true := bne_iff_ne.mpr c6
              obtain rfl := Option.some.inj H
              have p267 : 0 ≤ (x5_1 : Int) := od
              have q267 : x5_1 < (l0.length : Int) := od
              obtain ⟨ad267, A267_3, c267_3, A267_4, c267_4, A267_5, c267_5, e267, Ji, Jj, Jk, J2, J3, J4, hl267_3, hi267_3, hl267_4, hi267_4, hl267_5, hi267_5⟩ := at_T135 HR0.out x5_1 p267 q267
              cases e267
              have HR267_3 := Aside0.mk hi267_3
              have HC267_3 := Aside0.mk hl267_3
              clear hi267_3 hl267_3
              have HR267_4 := Aside0.mk hi267_4
              have HC267_4 := Aside0.mk hl267_4
              clear hi267_4 hl267_4
              have HR267_5 := Aside0.mk hi267_5
              have HC267_5 := Aside0.mk hl267_5
              clear hi267_5 hl267_5
              replace p267 := eq_true p267
              replace q267 := eq_true q267
              have p268 : 0 ≤ (x5_1 : Int) := od
              have q268 : x5_1 < (l0.length : Int) := od
              obtain ⟨ad268, A268_3, c268_3, A268_4, c268_4, A268_5, c268_5, e268, Jl, Jm, Jn, J7, J8, J9, hl268_3, hi268_3, hl268_4, hi268_4, hl268_5, hi268_5⟩ := at_T135 HR0.out x5_1 p268 q268
              obtain rfl : ad267 = ad268 := (by injection e268)
              have HR268_3 := Aside0.mk hi268_3
              have HC268_3 := Aside0.mk hl268_3
              clear hi268_3 hl268_3
              have HR268_4 := Aside0.mk hi268_4
              have HC268_4 := Aside0.mk hl268_4
              clear hi268_4 hl268_4
              have HR268_5 := Aside0.mk hi268_5
              have HC268_5 := Aside0.mk hl268_5
              clear hi268_5 hl268_5
              replace p268 := eq_true p268
              replace q268 := eq_true q268
              have ea_ := Option.some.inj (J2.symm.trans J7)
              injection ea_ with ea_ en_ ec_
              subst ea_
              subst ec_
              clear en_
              have ea_ := Option.some.inj (J3.symm.trans J8)
              injection ea_ with ea_ en_ ec_
              subst ea_
              subst ec_
              clear en_
              have ea_ := Option.some.inj (J4.symm.trans J9)
              injection ea_ with ea_ en_ ec_
              subst ea_
              subst ec_
              clear en_
              go_wp2
              go_ret
              exact ⟨by first | rfl | (simp; done) | (simp [*]; done), by repeat (first | exact Drawn0.refl _ | apply Drawn0.step)⟩
          · rw [if_neg c5] at H
            have c5b0 : (((rd_T135 l0 x5_1).f0) == x1_1) = false := beq_eq_false_iff_ne.mpr c5
            have c5b1 : (((rd_T135 l0 x5_1).f0) != x1_1) = true := bne_iff_ne.mpr c5
            obtain rfl := Option.some.inj H
            have p267 : 0 ≤ (x5_1 : Int) := od
            have q267 : x5_1 < (l0.length : Int) := od
            obtain ⟨ad267, A267_3, c267_3, A267_4, c267_4, A267_5, c267_5, e267, Ji, Jj, Jk, J2, J3, J4, hl267_3, hi267_3, hl267_4, hi267_4, hl267_5, hi267_5⟩ := at_T135 HR0.out x5_1 p267 q267
            cases e267
            have HR267_3 := Aside0.mk hi267_3
            have HC267_3 := Aside0.mk hl267_3
            clear hi267_3 hl267_3
            have HR267_4 := Aside0.mk hi267_4
            have HC267_4 := Aside0.mk hl267_4
            clear hi267_4 hl267_4
            have HR267_5 := Aside0.mk hi267_5
            have HC267_5 := Aside0.mk hl267_5
            clear hi267_5 hl267_5
            replace p267 := eq_true p267
            replace q267 := eq_true q267
            go_wp2
            go_ret
            exact ⟨by first | rfl | (simp; done) | (simp [*]; done), by repeat (first | exact Drawn0.refl _ | apply Drawn0.step)⟩
        · rw [if_neg c4] at H
          exact absurd H (by simp)
      · rw [if_neg c3] at H
        have c3b0 : decide (x5_1 < (l0.length : Int)) = false := decide_eq_false c3
        clear c3
        obtain rfl := Option.some.inj H
        go_wp2
        go_ret
        exact ⟨by first | rfl | (simp; done) | (simp [*]; done), by repeat (first | exact Drawn0.refl _ | apply Drawn0.step)⟩

/-! ### laws_heldCopies: function 59 -/
def laws_heldCopies.f (k : Nat) (a0_0 : Int) (a0_1 : Int) (l0_2 : List (S118)) (l0_3 : List Int) (l0_4 : List (S135)) (a1 : Int) : Option (Int) := (laws_heldCellS.f k l0_2 a1).bind fun t277 => (if t277 < 0 then (some (-1)) else ((laws_heldInt64S.f k l0_3 t277).bind fun t278 => (if t278 < 0 then (some (-1)) else ((laws_heldCopiedS.f k l0_4 t278).bind fun t279 => (if t279 < 0 then (some (-1)) else (some t279))))))
theorem laws_heldCopies.mono : ∀ a0 a1 a2 a3 a4 a5 k, LeO (laws_heldCopies.f k a0 a1 a2 a3 a4 a5) (laws_heldCopies.f (k + 1) a0 a1 a2 a3 a4 a5) := by
  intro a0 a1 a2 a3 a4 a5 k
  unfold laws_heldCopies.f
  repeat' first
      | (with_reducible exact laws_heldCellS.mono _ _ _)
      | (with_reducible exact laws_heldCopiedS.mono _ _ _)
      | (with_reducible exact laws_heldInt64S.mono _ _ _)
      | (with_reducible exact LeO.refl _)
      | (with_reducible exact LeO.none _)
      | (with_reducible refine LeO.ite ?_ ?_)
      | (with_reducible refine LeO.bind ?_ (fun _ => ?_))
      | exact laws_heldCellS.mono _ _ _
      | exact laws_heldCopiedS.mono _ _ _
      | exact laws_heldInt64S.mono _ _ _
      | exact LeO.none _
      | refine LeO.ite ?_ ?_
      | refine LeO.bind ?_ (fun _ => ?_)
set_option maxHeartbeats 8000000 in
set_option maxRecDepth 100000 in
theorem laws_heldCopies.calls (k : Nat) (a0_0 : Int) (a0_1 : Int) (A0_2 : Option Addr) (c0_2 : Nat) (l0_2 : List (S118)) (A0_3 : Option Addr) (c0_3 : Nat) (l0_3 : List Int) (A0_4 : Option Addr) (c0_4 : Nat) (l0_4 : List (S135)) (a1 : Int) (r : Int) (w : World) (hr0_2 : Kd.C k118 w A0_2 l0_2.length l0_2) (hc0_2 : l0_2.length ≤ c0_2) (hr0_3 : Kd.C (Kd.int .i64) w A0_3 l0_3.length l0_3) (hc0_3 : l0_3.length ≤ c0_3) (hr0_4 : Kd.C k135 w A0_4 l0_4.length l0_4) (hc0_4 : l0_4.length ≤ c0_4) (h : laws_heldCopies.f k a0_0 a0_1 l0_2 l0_3 l0_4 a1 = some r) :
    Calls Try.prog 59 #[.agg #[.int .i64 a0_0, .int .i64 a0_1, .slice A0_2 l0_2.length c0_2, .slice A0_3 l0_3.length c0_3, .slice A0_4 l0_4.length c0_4], .int .i64 a1] w fun e w' => e = .returned (.int .i64 r) ∧ Below w.heap.size w w' := by
  have hu28 := Try.underlying28
  have HR0_2 := Aside0.mk hr0_2
  have HC0_2 := Aside0.mk hc0_2
  clear hr0_2 hc0_2
  have HR0_3 := Aside0.mk hr0_3
  have HC0_3 := Aside0.mk hc0_3
  clear hr0_3 hc0_3
  have HR0_4 := Aside0.mk hr0_4
  have HC0_4 := Aside0.mk hc0_4
  clear hr0_4 hc0_4
  have HB := Aside0.mk (Below.refl w.heap.size w)
  have H : ((laws_heldCellS.f k l0_2 a1).bind fun t277 => (if t277 < 0 then (some (-1)) else ((laws_heldInt64S.f k l0_3 t277).bind fun t278 => (if t278 < 0 then (some (-1)) else ((laws_heldCopiedS.f k l0_4 t278).bind fun t279 => (if t279 < 0 then (some (-1)) else (some t279))))))) = some r := h
  clear h
  replace H := Option.bind_eq_some_iff.mp H
  obtain ⟨t277, A30, H⟩ := H
  replace H : (if t277 < 0 then (some (-1)) else ((laws_heldInt64S.f k l0_3 t277).bind fun t278 => (if t278 < 0 then (some (-1)) else ((laws_heldCopiedS.f k l0_4 t278).bind fun t279 => (if t279 < 0 then (some (-1)) else (some t279)))))) = some r := H
  have A3 := Aside0.mk A30
  clear A30
  by_cases c4 : t277 < 0
  · rw [if_pos c4] at H
    have c4b0 : decide (t277 < 0) = true := decide_eq_true c4
    clear c4
    obtain rfl := Option.some.inj H
    go_enter Try.func59, Try.ntmps59
    go_wp2_with (first | ((with_reducible refine gate_dst (N := 2) rfl ?_); refine box_event ?hg (N := 2) ?hd (cs := #[.int .i64 a0_0, .int .i64 a0_1, .slice A0_2 l0_2.length c0_2, .slice A0_3 l0_3.length c0_3, .slice A0_4 l0_4.length c0_4]) (t := 28) ?hr ?_; (case hd => rfl); (case hg => rfl); (case hr => first | (go_simp; done) | (go_simp; rfl)); intro J6 hg w5 hbox hb; have n0_ := Aside0.mk (below_step bo hb); have n1_ := Aside0.mk (hbox); have n2_ := Aside0.mk ((by rw [hg]; exact (below_size bo) : w.heap.size ≤ J6)); have n3_ := Aside0.mk ((by rw [hg]; exact (below_size bo) : w.heap.size ≤ J6)); clear HB; have HB := n0_; have J1 := n1_; have JD := n2_; have Je := n3_; clear n0_ n1_ n2_ n3_; clear hb hbox hg; have JS : w5.cell? ⟨J6, 0, none⟩ = some (.int .i64 a0_0) := (blk_cell J1.out 0).trans rfl; have JT : w5.cell? ⟨J6, 1, none⟩ = some (.int .i64 a0_1) := (blk_cell J1.out 1).trans rfl; have JU : w5.cell? ⟨J6, 2, none⟩ = some (.slice A0_2 l0_2.length c0_2) := (blk_cell J1.out 2).trans rfl; have JV : w5.cell? ⟨J6, 3, none⟩ = some (.slice A0_3 l0_3.length c0_3) := (blk_cell J1.out 3).trans rfl; have JW : w5.cell? ⟨J6, 4, none⟩ = some (.slice A0_4 l0_4.length c0_4) := (blk_cell J1.out 4).trans rfl; have JX := blk_frozen J1.out 0; have JY := blk_frozen J1.out 1; have JZ := blk_frozen J1.out 2; have K0 := blk_frozen J1.out 3; have K1 := blk_frozen J1.out 4) | ((with_reducible refine gate_callee (f := 58) rfl ?_); refine goesL_ (some 8) rfl rfl Try.func58 (by kernel_rfl) rfl #[.slice A0_2 l0_2.length c0_2, .int .i64 a1] rfl (by (try simp only [List.map_toArray, List.map_cons, List.map_nil]); first | done | rfl | (simp only [List.length_drop, List.length_take]; rfl)) ?_; (with_reducible refine (laws_heldCellS.calls k _ _ l0_2 a1 t277 _ ?side1 ?side2 A3.out).mono ?_); (case side1 => repeat (first | exact (Kd.C_below HR0_2.out HB.out) | (with_reducible refine Kd.C_alloc ?_ _) | (with_reducible refine Kd.C_drewN ?_ _) | (with_reducible refine Kd.C_drew ?_))); (case side2 => exact HC0_2.out); rintro e w' ⟨rfl, ⟨nd, rfl⟩⟩; refine ⟨_, rfl, ?_⟩))
    go_ret
    exact ⟨by first | rfl | (simp [errW_none, errW_some] <;> rfl) | (simp [*, errW_none, errW_some] <;> rfl), by repeat (first | (with_reducible first | exact HB.out | apply below_alloc | apply pw_below_drewN | apply below_drew1 | refine below_set ?_ Je.out) | exact HB.out)⟩
  · rw [if_neg c4] at H
    have c4b0 : decide (t277 < 0) = false := decide_eq_false c4
    clear c4
    replace H := Option.bind_eq_some_iff.mp H
    obtain ⟨t278, A70, H⟩ := H
    replace H : (if t278 < 0 then (some (-1)) else ((laws_heldCopiedS.f k l0_4 t278).bind fun t279 => (if t279 < 0 then (some (-1)) else (some t279)))) = some r := H
    have A7 := Aside0.mk A70
    clear A70
    by_cases c8 : t278 < 0
    · rw [if_pos c8] at H
      have c8b0 : decide (t278 < 0) = true := decide_eq_true c8
      clear c8
      obtain rfl := Option.some.inj H
      go_enter Try.func59, Try.ntmps59
      go_wp2_with (first | ((with_reducible refine gate_dst (N := 2) rfl ?_); refine box_event ?hg (N := 2) ?hd (cs := #[.int .i64 a0_0, .int .i64 a0_1, .slice A0_2 l0_2.length c0_2, .slice A0_3 l0_3.length c0_3, .slice A0_4 l0_4.length c0_4]) (t := 28) ?hr ?_; (case hd => rfl); (case hg => rfl); (case hr => first | (go_simp; done) | (go_simp; rfl)); intro J6 hg w9 hbox hb; have n0_ := Aside0.mk (below_step bo hb); have n1_ := Aside0.mk (hbox); have n2_ := Aside0.mk ((by rw [hg]; exact (below_size bo) : w.heap.size ≤ J6)); have n3_ := Aside0.mk ((by rw [hg]; exact (below_size bo) : w.heap.size ≤ J6)); clear HB; have HB := n0_; have J1 := n1_; have JD := n2_; have Je := n3_; clear n0_ n1_ n2_ n3_; clear hb hbox hg; have JI : w9.cell? ⟨J6, 0, none⟩ = some (.int .i64 a0_0) := (blk_cell J1.out 0).trans rfl; have JJ : w9.cell? ⟨J6, 1, none⟩ = some (.int .i64 a0_1) := (blk_cell J1.out 1).trans rfl; have JK : w9.cell? ⟨J6, 2, none⟩ = some (.slice A0_2 l0_2.length c0_2) := (blk_cell J1.out 2).trans rfl; have JL : w9.cell? ⟨J6, 3, none⟩ = some (.slice A0_3 l0_3.length c0_3) := (blk_cell J1.out 3).trans rfl; have JM : w9.cell? ⟨J6, 4, none⟩ = some (.slice A0_4 l0_4.length c0_4) := (blk_cell J1.out 4).trans rfl; have JN := blk_frozen J1.out 0; have JO := blk_frozen J1.out 1; have JP := blk_frozen J1.out 2; have JQ := blk_frozen J1.out 3; have JR := blk_frozen J1.out 4) | ((with_reducible refine gate_callee (f := 58) rfl ?_); refine goesL_ (some 8) rfl rfl Try.func58 (by kernel_rfl) rfl #[.slice A0_2 l0_2.length c0_2, .int .i64 a1] rfl (by (try simp only [List.map_toArray, List.map_cons, List.map_nil]); first | done | rfl | (simp only [List.length_drop, List.length_take]; rfl)) ?_; (with_reducible refine (laws_heldCellS.calls k _ _ l0_2 a1 t277 _ ?side1 ?side2 A3.out).mono ?_); (case side1 => repeat (first | exact (Kd.C_below HR0_2.out HB.out) | (with_reducible refine Kd.C_alloc ?_ _) | (with_reducible refine Kd.C_drewN ?_ _) | (with_reducible refine Kd.C_drew ?_))); (case side2 => exact HC0_2.out); rintro e w' ⟨rfl, ⟨nd, rfl⟩⟩; refine ⟨_, rfl, ?_⟩) | ((with_reducible refine gate_callee (f := 128) rfl ?_); refine goesL_ (some 14) rfl rfl Try.func128 (by kernel_rfl) rfl #[.slice A0_3 l0_3.length c0_3, .int .i64 t277] rfl (by (try simp only [List.map_toArray, List.map_cons, List.map_nil]); first | done | rfl | (simp only [List.length_drop, List.length_take]; rfl)) ?_; (with_reducible refine (laws_heldInt64S.calls k _ _ l0_3 t277 t278 _ ?side1 ?side2 A7.out).mono ?_); (case side1 => repeat (first | exact (Kd.C_below HR0_3.out (by repeat (first | (with_reducible first | exact HB.out | apply below_alloc | apply pw_below_drewN | apply below_drew1 | refine below_set ?_ Je.out) | exact HB.out))) | (with_reducible refine Kd.C_alloc ?_ _) | (with_reducible refine Kd.C_drewN ?_ _) | (with_reducible refine Kd.C_drew ?_))); (case side2 => exact HC0_3.out); rintro e w' ⟨rfl, ⟨nd, rfl⟩⟩; refine ⟨_, rfl, ?_⟩))
      go_ret
      exact ⟨by first | rfl | (simp [errW_none, errW_some] <;> rfl) | (simp [*, errW_none, errW_some] <;> rfl), by repeat (first | (with_reducible first | exact HB.out | apply below_alloc | apply pw_below_drewN | apply below_drew1 | refine below_set ?_ Je.out) | exact HB.out)⟩
    · rw [if_neg c8] at H
      have c8b0 : decide (t278 < 0) = false := decide_eq_false c8
      clear c8
      replace H := Option.bind_eq_some_iff.mp H
      obtain ⟨t279, A110, H⟩ := H
      replace H : (if t279 < 0 then (some (-1)) else (some t279)) = some r := H
      have A11 := Aside0.mk A110
      clear A110
      by_cases c12 : t279 < 0
      · rw [if_pos c12] at H
        have c12b0 : decide (t279 < 0) = true := decide_eq_true c12
        clear c12
        obtain rfl := Option.some.inj H
        go_enter Try.func59, Try.ntmps59
        go_wp2_with (first | ((with_reducible refine gate_dst (N := 2) rfl ?_); refine box_event ?hg (N := 2) ?hd (cs := #[.int .i64 a0_0, .int .i64 a0_1, .slice A0_2 l0_2.length c0_2, .slice A0_3 l0_3.length c0_3, .slice A0_4 l0_4.length c0_4]) (t := 28) ?hr ?_; (case hd => rfl); (case hg => rfl); (case hr => first | (go_simp; done) | (go_simp; rfl)); intro J6 hg w13 hbox hb; have n0_ := Aside0.mk (below_step bo hb); have n1_ := Aside0.mk (hbox); have n2_ := Aside0.mk ((by rw [hg]; exact (below_size bo) : w.heap.size ≤ J6)); have n3_ := Aside0.mk ((by rw [hg]; exact (below_size bo) : w.heap.size ≤ J6)); clear HB; have HB := n0_; have J1 := n1_; have JD := n2_; have Je := n3_; clear n0_ n1_ n2_ n3_; clear hb hbox hg; have K2 : w13.cell? ⟨J6, 0, none⟩ = some (.int .i64 a0_0) := (blk_cell J1.out 0).trans rfl; have K3 : w13.cell? ⟨J6, 1, none⟩ = some (.int .i64 a0_1) := (blk_cell J1.out 1).trans rfl; have K4 : w13.cell? ⟨J6, 2, none⟩ = some (.slice A0_2 l0_2.length c0_2) := (blk_cell J1.out 2).trans rfl; have K5 : w13.cell? ⟨J6, 3, none⟩ = some (.slice A0_3 l0_3.length c0_3) := (blk_cell J1.out 3).trans rfl; have K6 : w13.cell? ⟨J6, 4, none⟩ = some (.slice A0_4 l0_4.length c0_4) := (blk_cell J1.out 4).trans rfl; have K7 := blk_frozen J1.out 0; have K8 := blk_frozen J1.out 1; have K9 := blk_frozen J1.out 2; have Ka := blk_frozen J1.out 3; have Kb := blk_frozen J1.out 4) | ((with_reducible refine gate_callee (f := 58) rfl ?_); refine goesL_ (some 8) rfl rfl Try.func58 (by kernel_rfl) rfl #[.slice A0_2 l0_2.length c0_2, .int .i64 a1] rfl (by (try simp only [List.map_toArray, List.map_cons, List.map_nil]); first | done | rfl | (simp only [List.length_drop, List.length_take]; rfl)) ?_; (with_reducible refine (laws_heldCellS.calls k _ _ l0_2 a1 t277 _ ?side1 ?side2 A3.out).mono ?_); (case side1 => repeat (first | exact (Kd.C_below HR0_2.out HB.out) | (with_reducible refine Kd.C_alloc ?_ _) | (with_reducible refine Kd.C_drewN ?_ _) | (with_reducible refine Kd.C_drew ?_))); (case side2 => exact HC0_2.out); rintro e w' ⟨rfl, ⟨nd, rfl⟩⟩; refine ⟨_, rfl, ?_⟩) | ((with_reducible refine gate_callee (f := 128) rfl ?_); refine goesL_ (some 14) rfl rfl Try.func128 (by kernel_rfl) rfl #[.slice A0_3 l0_3.length c0_3, .int .i64 t277] rfl (by (try simp only [List.map_toArray, List.map_cons, List.map_nil]); first | done | rfl | (simp only [List.length_drop, List.length_take]; rfl)) ?_; (with_reducible refine (laws_heldInt64S.calls k _ _ l0_3 t277 t278 _ ?side1 ?side2 A7.out).mono ?_); (case side1 => repeat (first | exact (Kd.C_below HR0_3.out (by repeat (first | (with_reducible first | exact HB.out | apply below_alloc | apply pw_below_drewN | apply below_drew1 | refine below_set ?_ Je.out) | exact HB.out))) | (with_reducible refine Kd.C_alloc ?_ _) | (with_reducible refine Kd.C_drewN ?_ _) | (with_reducible refine Kd.C_drew ?_))); (case side2 => exact HC0_3.out); rintro e w' ⟨rfl, ⟨nd, rfl⟩⟩; refine ⟨_, rfl, ?_⟩) | ((with_reducible refine gate_callee (f := 129) rfl ?_); refine goesL_ (some 20) rfl rfl Try.func129 (by kernel_rfl) rfl #[.slice A0_4 l0_4.length c0_4, .int .i64 t278] rfl (by (try simp only [List.map_toArray, List.map_cons, List.map_nil]); first | done | rfl | (simp only [List.length_drop, List.length_take]; rfl)) ?_; (with_reducible refine (laws_heldCopiedS.calls k _ _ l0_4 t278 t279 _ ?side1 ?side2 A11.out).mono ?_); (case side1 => repeat (first | exact (Kd.C_below HR0_4.out (by repeat (first | (with_reducible first | exact HB.out | apply below_alloc | apply pw_below_drewN | apply below_drew1 | refine below_set ?_ Je.out) | exact HB.out))) | (with_reducible refine Kd.C_alloc ?_ _) | (with_reducible refine Kd.C_drewN ?_ _) | (with_reducible refine Kd.C_drew ?_))); (case side2 => exact HC0_4.out); rintro e w' ⟨rfl, ⟨nd, rfl⟩⟩; refine ⟨_, rfl, ?_⟩))
        go_ret
        exact ⟨by first | rfl | (simp [errW_none, errW_some] <;> rfl) | (simp [*, errW_none, errW_some] <;> rfl), by repeat (first | (with_reducible first | exact HB.out | apply below_alloc | apply pw_below_drewN | apply below_drew1 | refine below_set ?_ Je.out) | exact HB.out)⟩
      · rw [if_neg c12] at H
        have c12b0 : decide (t279 < 0) = false := decide_eq_false c12
        clear c12
        obtain rfl := Option.some.inj H
        go_enter Try.func59, Try.ntmps59
        go_wp2_with (first | ((with_reducible refine gate_dst (N := 2) rfl ?_); refine box_event ?hg (N := 2) ?hd (cs := #[.int .i64 a0_0, .int .i64 a0_1, .slice A0_2 l0_2.length c0_2, .slice A0_3 l0_3.length c0_3, .slice A0_4 l0_4.length c0_4]) (t := 28) ?hr ?_; (case hd => rfl); (case hg => rfl); (case hr => first | (go_simp; done) | (go_simp; rfl)); intro J6 hg w15 hbox hb; have n0_ := Aside0.mk (below_step bo hb); have n1_ := Aside0.mk (hbox); have n2_ := Aside0.mk ((by rw [hg]; exact (below_size bo) : w.heap.size ≤ J6)); have n3_ := Aside0.mk ((by rw [hg]; exact (below_size bo) : w.heap.size ≤ J6)); clear HB; have HB := n0_; have J1 := n1_; have JD := n2_; have Je := n3_; clear n0_ n1_ n2_ n3_; clear hb hbox hg; have Kc : w15.cell? ⟨J6, 0, none⟩ = some (.int .i64 a0_0) := (blk_cell J1.out 0).trans rfl; have Ke : w15.cell? ⟨J6, 1, none⟩ = some (.int .i64 a0_1) := (blk_cell J1.out 1).trans rfl; have Kf : w15.cell? ⟨J6, 2, none⟩ = some (.slice A0_2 l0_2.length c0_2) := (blk_cell J1.out 2).trans rfl; have Kg : w15.cell? ⟨J6, 3, none⟩ = some (.slice A0_3 l0_3.length c0_3) := (blk_cell J1.out 3).trans rfl; have Kh : w15.cell? ⟨J6, 4, none⟩ = some (.slice A0_4 l0_4.length c0_4) := (blk_cell J1.out 4).trans rfl; have Ki := blk_frozen J1.out 0; have Kj := blk_frozen J1.out 1; have Kk := blk_frozen J1.out 2; have Kl := blk_frozen J1.out 3; have Km := blk_frozen J1.out 4) | ((with_reducible refine gate_callee (f := 58) rfl ?_); refine goesL_ (some 8) rfl rfl Try.func58 (by kernel_rfl) rfl #[.slice A0_2 l0_2.length c0_2, .int .i64 a1] rfl (by (try simp only [List.map_toArray, List.map_cons, List.map_nil]); first | done | rfl | (simp only [List.length_drop, List.length_take]; rfl)) ?_; (with_reducible refine (laws_heldCellS.calls k _ _ l0_2 a1 t277 _ ?side1 ?side2 A3.out).mono ?_); (case side1 => repeat (first | exact (Kd.C_below HR0_2.out HB.out) | (with_reducible refine Kd.C_alloc ?_ _) | (with_reducible refine Kd.C_drewN ?_ _) | (with_reducible refine Kd.C_drew ?_))); (case side2 => exact HC0_2.out); rintro e w' ⟨rfl, ⟨nd, rfl⟩⟩; refine ⟨_, rfl, ?_⟩) | ((with_reducible refine gate_callee (f := 128) rfl ?_); refine goesL_ (some 14) rfl rfl Try.func128 (by kernel_rfl) rfl #[.slice A0_3 l0_3.length c0_3, .int .i64 t277] rfl (by (try simp only [List.map_toArray, List.map_cons, List.map_nil]); first | done | rfl | (simp only [List.length_drop, List.length_take]; rfl)) ?_; (with_reducible refine (laws_heldInt64S.calls k _ _ l0_3 t277 t278 _ ?side1 ?side2 A7.out).mono ?_); (case side1 => repeat (first | exact (Kd.C_below HR0_3.out (by repeat (first | (with_reducible first | exact HB.out | apply below_alloc | apply pw_below_drewN | apply below_drew1 | refine below_set ?_ Je.out) | exact HB.out))) | (with_reducible refine Kd.C_alloc ?_ _) | (with_reducible refine Kd.C_drewN ?_ _) | (with_reducible refine Kd.C_drew ?_))); (case side2 => exact HC0_3.out); rintro e w' ⟨rfl, ⟨nd, rfl⟩⟩; refine ⟨_, rfl, ?_⟩) | ((with_reducible refine gate_callee (f := 129) rfl ?_); refine goesL_ (some 20) rfl rfl Try.func129 (by kernel_rfl) rfl #[.slice A0_4 l0_4.length c0_4, .int .i64 t278] rfl (by (try simp only [List.map_toArray, List.map_cons, List.map_nil]); first | done | rfl | (simp only [List.length_drop, List.length_take]; rfl)) ?_; (with_reducible refine (laws_heldCopiedS.calls k _ _ l0_4 t278 t279 _ ?side1 ?side2 A11.out).mono ?_); (case side1 => repeat (first | exact (Kd.C_below HR0_4.out (by repeat (first | (with_reducible first | exact HB.out | apply below_alloc | apply pw_below_drewN | apply below_drew1 | refine below_set ?_ Je.out) | exact HB.out))) | (with_reducible refine Kd.C_alloc ?_ _) | (with_reducible refine Kd.C_drewN ?_ _) | (with_reducible refine Kd.C_drew ?_))); (case side2 => exact HC0_4.out); rintro e w' ⟨rfl, ⟨nd, rfl⟩⟩; refine ⟨_, rfl, ?_⟩))
        go_ret
        exact ⟨by first | rfl | (simp [errW_none, errW_some] <;> rfl) | (simp [*, errW_none, errW_some] <;> rfl), by repeat (first | (with_reducible first | exact HB.out | apply below_alloc | apply pw_below_drewN | apply below_drew1 | refine below_set ?_ Je.out) | exact HB.out)⟩

/-! ### laws_heldCopiesResult: function 17 -/
def laws_heldCopiesResult.f (k : Nat) (a0_0 : Int) (a0_1 : Int) (l0_2 : List (S118)) (a0_3 : Int) (a0_4 : Int) (l0_5 : List (S118)) (l0_6 : List Int) (l0_7 : List (S135)) (a1 : Int) : Option (Int) := (laws_heldCellS.f k l0_2 a1).bind fun t281 => (if t281 < 0 then (some (-1)) else ((laws_heldCopies.f k a0_3 a0_4 l0_5 l0_6 l0_7 t281).bind fun t282 => (if t282 < 0 then (some (-1)) else (some t282))))
theorem laws_heldCopiesResult.mono : ∀ a0 a1 a2 a3 a4 a5 a6 a7 a8 k, LeO (laws_heldCopiesResult.f k a0 a1 a2 a3 a4 a5 a6 a7 a8) (laws_heldCopiesResult.f (k + 1) a0 a1 a2 a3 a4 a5 a6 a7 a8) := by
  intro a0 a1 a2 a3 a4 a5 a6 a7 a8 k
  unfold laws_heldCopiesResult.f
  repeat' first
      | (with_reducible exact laws_heldCellS.mono _ _ _)
      | (with_reducible exact laws_heldCopies.mono _ _ _ _ _ _ _)
      | (with_reducible exact LeO.refl _)
      | (with_reducible exact LeO.none _)
      | (with_reducible refine LeO.ite ?_ ?_)
      | (with_reducible refine LeO.bind ?_ (fun _ => ?_))
      | exact laws_heldCellS.mono _ _ _
      | exact laws_heldCopies.mono _ _ _ _ _ _ _
      | exact LeO.none _
      | refine LeO.ite ?_ ?_
      | refine LeO.bind ?_ (fun _ => ?_)
set_option maxHeartbeats 8000000 in
set_option maxRecDepth 100000 in
theorem laws_heldCopiesResult.calls (k : Nat) (a0_0 : Int) (a0_1 : Int) (A0_2 : Option Addr) (c0_2 : Nat) (l0_2 : List (S118)) (a0_3 : Int) (a0_4 : Int) (A0_5 : Option Addr) (c0_5 : Nat) (l0_5 : List (S118)) (A0_6 : Option Addr) (c0_6 : Nat) (l0_6 : List Int) (A0_7 : Option Addr) (c0_7 : Nat) (l0_7 : List (S135)) (a1 : Int) (r : Int) (w : World) (hr0_2 : Kd.C k118 w A0_2 l0_2.length l0_2) (hc0_2 : l0_2.length ≤ c0_2) (hr0_5 : Kd.C k118 w A0_5 l0_5.length l0_5) (hc0_5 : l0_5.length ≤ c0_5) (hr0_6 : Kd.C (Kd.int .i64) w A0_6 l0_6.length l0_6) (hc0_6 : l0_6.length ≤ c0_6) (hr0_7 : Kd.C k135 w A0_7 l0_7.length l0_7) (hc0_7 : l0_7.length ≤ c0_7) (h : laws_heldCopiesResult.f k a0_0 a0_1 l0_2 a0_3 a0_4 l0_5 l0_6 l0_7 a1 = some r) :
    Calls Try.prog 17 #[.agg #[.int .i64 a0_0, .int .i64 a0_1, .slice A0_2 l0_2.length c0_2, .int .i64 a0_3, .int .i64 a0_4, .slice A0_5 l0_5.length c0_5, .slice A0_6 l0_6.length c0_6, .slice A0_7 l0_7.length c0_7], .int .i64 a1] w fun e w' => e = .returned (.int .i64 r) ∧ Below w.heap.size w w' := by
  have hu30 := Try.underlying30
  have hu28 := Try.underlying28
  have HR0_2 := Aside0.mk hr0_2
  have HC0_2 := Aside0.mk hc0_2
  clear hr0_2 hc0_2
  have HR0_5 := Aside0.mk hr0_5
  have HC0_5 := Aside0.mk hc0_5
  clear hr0_5 hc0_5
  have HR0_6 := Aside0.mk hr0_6
  have HC0_6 := Aside0.mk hc0_6
  clear hr0_6 hc0_6
  have HR0_7 := Aside0.mk hr0_7
  have HC0_7 := Aside0.mk hc0_7
  clear hr0_7 hc0_7
  have HB := Aside0.mk (Below.refl w.heap.size w)
  have H : ((laws_heldCellS.f k l0_2 a1).bind fun t281 => (if t281 < 0 then (some (-1)) else ((laws_heldCopies.f k a0_3 a0_4 l0_5 l0_6 l0_7 t281).bind fun t282 => (if t282 < 0 then (some (-1)) else (some t282))))) = some r := h
  clear h
  replace H := Option.bind_eq_some_iff.mp H
  obtain ⟨t281, A30, H⟩ := H
  replace H : (if t281 < 0 then (some (-1)) else ((laws_heldCopies.f k a0_3 a0_4 l0_5 l0_6 l0_7 t281).bind fun t282 => (if t282 < 0 then (some (-1)) else (some t282)))) = some r := H
  have A3 := Aside0.mk A30
  clear A30
  by_cases c4 : t281 < 0
  · rw [if_pos c4] at H
    have c4b0 : decide (t281 < 0) = true := decide_eq_true c4
    clear c4
    obtain rfl := Option.some.inj H
    go_enter Try.func17, Try.ntmps17
    go_wp2_with (first | ((with_reducible refine gate_dst (N := 2) rfl ?_); refine box_event ?hg (N := 2) ?hd (cs := #[.int .i64 a0_0, .int .i64 a0_1, .slice A0_2 l0_2.length c0_2, .int .i64 a0_3, .int .i64 a0_4, .slice A0_5 l0_5.length c0_5, .slice A0_6 l0_6.length c0_6, .slice A0_7 l0_7.length c0_7]) (t := 30) ?hr ?_; (case hd => rfl); (case hg => rfl); (case hr => first | (go_simp; done) | (go_simp; rfl)); intro J5 hg w5 hbox hb; have n0_ := Aside0.mk (below_step bo hb); have n1_ := Aside0.mk (hbox); have n2_ := Aside0.mk ((by rw [hg]; exact (below_size bo) : w.heap.size ≤ J5)); have n3_ := Aside0.mk ((by rw [hg]; exact (below_size bo) : w.heap.size ≤ J5)); clear HB; have HB := n0_; have J0 := n1_; have JE := n2_; have Jd := n3_; clear n0_ n1_ n2_ n3_; clear hb hbox hg; have JS : w5.cell? ⟨J5, 0, none⟩ = some (.int .i64 a0_0) := (blk_cell J0.out 0).trans rfl; have JT : w5.cell? ⟨J5, 1, none⟩ = some (.int .i64 a0_1) := (blk_cell J0.out 1).trans rfl; have JU : w5.cell? ⟨J5, 2, none⟩ = some (.slice A0_2 l0_2.length c0_2) := (blk_cell J0.out 2).trans rfl; have JV : w5.cell? ⟨J5, 3, none⟩ = some (.int .i64 a0_3) := (blk_cell J0.out 3).trans rfl; have JW : w5.cell? ⟨J5, 4, none⟩ = some (.int .i64 a0_4) := (blk_cell J0.out 4).trans rfl; have KJ : w5.cell? ⟨J5, 5, none⟩ = some (.slice A0_5 l0_5.length c0_5) := (blk_cell J0.out 5).trans rfl; have KK : w5.cell? ⟨J5, 6, none⟩ = some (.slice A0_6 l0_6.length c0_6) := (blk_cell J0.out 6).trans rfl; have KL : w5.cell? ⟨J5, 7, none⟩ = some (.slice A0_7 l0_7.length c0_7) := (blk_cell J0.out 7).trans rfl; have JX := blk_frozen J0.out 0; have JY := blk_frozen J0.out 1; have JZ := blk_frozen J0.out 2; have K0 := blk_frozen J0.out 3; have K1 := blk_frozen J0.out 4; have KM := blk_frozen J0.out 5; have KN := blk_frozen J0.out 6; have KO := blk_frozen J0.out 7) | ((with_reducible refine gate_callee (f := 58) rfl ?_); refine goesL_ (some 8) rfl rfl Try.func58 (by kernel_rfl) rfl #[.slice A0_2 l0_2.length c0_2, .int .i64 a1] rfl (by (try simp only [List.map_toArray, List.map_cons, List.map_nil]); first | done | rfl | (simp only [List.length_drop, List.length_take]; rfl)) ?_; (with_reducible refine (laws_heldCellS.calls k _ _ l0_2 a1 t281 _ ?side1 ?side2 A3.out).mono ?_); (case side1 => repeat (first | exact (Kd.C_below HR0_2.out HB.out) | (with_reducible refine Kd.C_alloc ?_ _) | (with_reducible refine Kd.C_drewN ?_ _) | (with_reducible refine Kd.C_drew ?_))); (case side2 => exact HC0_2.out); rintro e w' ⟨rfl, ⟨nd, rfl⟩⟩; refine ⟨_, rfl, ?_⟩))
    go_ret
    exact ⟨by first | rfl | (simp [errW_none, errW_some] <;> rfl) | (simp [*, errW_none, errW_some] <;> rfl), by repeat (first | (with_reducible first | exact HB.out | apply below_alloc | apply pw_below_drewN | apply below_drew1 | refine below_set ?_ Jd.out) | exact HB.out)⟩
  · rw [if_neg c4] at H
    have c4b0 : decide (t281 < 0) = false := decide_eq_false c4
    clear c4
    replace H := Option.bind_eq_some_iff.mp H
    obtain ⟨t282, A70, H⟩ := H
    replace H : (if t282 < 0 then (some (-1)) else (some t282)) = some r := H
    have A7 := Aside0.mk A70
    clear A70
    by_cases c8 : t282 < 0
    · rw [if_pos c8] at H
      have c8b0 : decide (t282 < 0) = true := decide_eq_true c8
      clear c8
      obtain rfl := Option.some.inj H
      go_enter Try.func17, Try.ntmps17
      go_wp2_with (first | ((with_reducible refine gate_dst (N := 2) rfl ?_); refine box_event ?hg (N := 2) ?hd (cs := #[.int .i64 a0_0, .int .i64 a0_1, .slice A0_2 l0_2.length c0_2, .int .i64 a0_3, .int .i64 a0_4, .slice A0_5 l0_5.length c0_5, .slice A0_6 l0_6.length c0_6, .slice A0_7 l0_7.length c0_7]) (t := 30) ?hr ?_; (case hd => rfl); (case hg => rfl); (case hr => first | (go_simp; done) | (go_simp; rfl)); intro J5 hg w9 hbox hb; have n0_ := Aside0.mk (below_step bo hb); have n1_ := Aside0.mk (hbox); have n2_ := Aside0.mk ((by rw [hg]; exact (below_size bo) : w.heap.size ≤ J5)); have n3_ := Aside0.mk ((by rw [hg]; exact (below_size bo) : w.heap.size ≤ J5)); clear HB; have HB := n0_; have J0 := n1_; have JE := n2_; have Jd := n3_; clear n0_ n1_ n2_ n3_; clear hb hbox hg; have JI : w9.cell? ⟨J5, 0, none⟩ = some (.int .i64 a0_0) := (blk_cell J0.out 0).trans rfl; have JJ : w9.cell? ⟨J5, 1, none⟩ = some (.int .i64 a0_1) := (blk_cell J0.out 1).trans rfl; have JK : w9.cell? ⟨J5, 2, none⟩ = some (.slice A0_2 l0_2.length c0_2) := (blk_cell J0.out 2).trans rfl; have JL : w9.cell? ⟨J5, 3, none⟩ = some (.int .i64 a0_3) := (blk_cell J0.out 3).trans rfl; have JM : w9.cell? ⟨J5, 4, none⟩ = some (.int .i64 a0_4) := (blk_cell J0.out 4).trans rfl; have Kn : w9.cell? ⟨J5, 5, none⟩ = some (.slice A0_5 l0_5.length c0_5) := (blk_cell J0.out 5).trans rfl; have Ko : w9.cell? ⟨J5, 6, none⟩ = some (.slice A0_6 l0_6.length c0_6) := (blk_cell J0.out 6).trans rfl; have Kp : w9.cell? ⟨J5, 7, none⟩ = some (.slice A0_7 l0_7.length c0_7) := (blk_cell J0.out 7).trans rfl; have JN := blk_frozen J0.out 0; have JO := blk_frozen J0.out 1; have JP := blk_frozen J0.out 2; have JQ := blk_frozen J0.out 3; have JR := blk_frozen J0.out 4; have Kq := blk_frozen J0.out 5; have Kr := blk_frozen J0.out 6; have Ks := blk_frozen J0.out 7) | ((with_reducible refine gate_callee (f := 58) rfl ?_); refine goesL_ (some 8) rfl rfl Try.func58 (by kernel_rfl) rfl #[.slice A0_2 l0_2.length c0_2, .int .i64 a1] rfl (by (try simp only [List.map_toArray, List.map_cons, List.map_nil]); first | done | rfl | (simp only [List.length_drop, List.length_take]; rfl)) ?_; (with_reducible refine (laws_heldCellS.calls k _ _ l0_2 a1 t281 _ ?side1 ?side2 A3.out).mono ?_); (case side1 => repeat (first | exact (Kd.C_below HR0_2.out HB.out) | (with_reducible refine Kd.C_alloc ?_ _) | (with_reducible refine Kd.C_drewN ?_ _) | (with_reducible refine Kd.C_drew ?_))); (case side2 => exact HC0_2.out); rintro e w' ⟨rfl, ⟨nd, rfl⟩⟩; refine ⟨_, rfl, ?_⟩) | ((with_reducible refine gate_callee (f := 59) rfl ?_); refine goesL_ (some 14) rfl rfl Try.func59 (by kernel_rfl) rfl #[.agg #[.int .i64 a0_3, .int .i64 a0_4, .slice A0_5 l0_5.length c0_5, .slice A0_6 l0_6.length c0_6, .slice A0_7 l0_7.length c0_7], .int .i64 t281] rfl (by (try simp only [List.map_toArray, List.map_cons, List.map_nil]); first | done | rfl | (simp only [List.length_drop, List.length_take]; rfl)) ?_; (with_reducible refine (laws_heldCopies.calls k a0_3 a0_4 _ _ l0_5 _ _ l0_6 _ _ l0_7 t281 t282 _ ?side1 ?side2 ?side3 ?side4 ?side5 ?side6 A7.out).mono ?_); (case side1 => repeat (first | exact (Kd.C_below HR0_5.out (by repeat (first | (with_reducible first | exact HB.out | apply below_alloc | apply pw_below_drewN | apply below_drew1 | refine below_set ?_ Jd.out) | exact HB.out))) | (with_reducible refine Kd.C_alloc ?_ _) | (with_reducible refine Kd.C_drewN ?_ _) | (with_reducible refine Kd.C_drew ?_))); (case side2 => exact HC0_5.out); (case side3 => repeat (first | exact (Kd.C_below HR0_6.out (by repeat (first | (with_reducible first | exact HB.out | apply below_alloc | apply pw_below_drewN | apply below_drew1 | refine below_set ?_ Jd.out) | exact HB.out))) | (with_reducible refine Kd.C_alloc ?_ _) | (with_reducible refine Kd.C_drewN ?_ _) | (with_reducible refine Kd.C_drew ?_))); (case side4 => exact HC0_6.out); (case side5 => repeat (first | exact (Kd.C_below HR0_7.out (by repeat (first | (with_reducible first | exact HB.out | apply below_alloc | apply pw_below_drewN | apply below_drew1 | refine below_set ?_ Jd.out) | exact HB.out))) | (with_reducible refine Kd.C_alloc ?_ _) | (with_reducible refine Kd.C_drewN ?_ _) | (with_reducible refine Kd.C_drew ?_))); (case side6 => exact HC0_7.out); rintro e w11 ⟨rfl, hb⟩; refine ⟨_, rfl, ?_⟩; have n0_ := Aside0.mk (blk_below (g := J5) (o := .cells #[.int .i64 a0_0, .int .i64 a0_1, .slice A0_2 l0_2.length c0_2, .int .i64 a0_3, .int .i64 a0_4, .slice A0_5 l0_5.length c0_5, .slice A0_6 l0_6.length c0_6, .slice A0_7 l0_7.length c0_7] 30 (0, 0)) (by (with_reducible repeat (first | refine blk_drewN ?_ _ | refine blk_drew ?_ | refine blk_alloc ?_ _)); exact J0.out) hb); have n1_ := Aside0.mk (below_step (by repeat (first | (with_reducible first | exact HB.out | apply below_alloc | apply pw_below_drewN | apply below_drew1 | refine below_set ?_ Jd.out) | exact HB.out)) hb); clear J0; clear HB; have J0 := n0_; have HB := n1_; clear n0_ n1_; (try clear hb); (try clear hb2); (try clear hk); (try clear hi)))
      go_ret
      exact ⟨by first | rfl | (simp [errW_none, errW_some] <;> rfl) | (simp [*, errW_none, errW_some] <;> rfl), by repeat (first | (with_reducible first | exact HB.out | apply below_alloc | apply pw_below_drewN | apply below_drew1 | refine below_set ?_ Jd.out) | exact HB.out)⟩
    · rw [if_neg c8] at H
      have c8b0 : decide (t282 < 0) = false := decide_eq_false c8
      clear c8
      obtain rfl := Option.some.inj H
      go_enter Try.func17, Try.ntmps17
      go_wp2_with (first | ((with_reducible refine gate_dst (N := 2) rfl ?_); refine box_event ?hg (N := 2) ?hd (cs := #[.int .i64 a0_0, .int .i64 a0_1, .slice A0_2 l0_2.length c0_2, .int .i64 a0_3, .int .i64 a0_4, .slice A0_5 l0_5.length c0_5, .slice A0_6 l0_6.length c0_6, .slice A0_7 l0_7.length c0_7]) (t := 30) ?hr ?_; (case hd => rfl); (case hg => rfl); (case hr => first | (go_simp; done) | (go_simp; rfl)); intro J5 hg w12 hbox hb; have n0_ := Aside0.mk (below_step bo hb); have n1_ := Aside0.mk (hbox); have n2_ := Aside0.mk ((by rw [hg]; exact (below_size bo) : w.heap.size ≤ J5)); have n3_ := Aside0.mk ((by rw [hg]; exact (below_size bo) : w.heap.size ≤ J5)); clear HB; have HB := n0_; have J0 := n1_; have JE := n2_; have Jd := n3_; clear n0_ n1_ n2_ n3_; clear hb hbox hg; have Kt : w12.cell? ⟨J5, 0, none⟩ = some (.int .i64 a0_0) := (blk_cell J0.out 0).trans rfl; have Ku : w12.cell? ⟨J5, 1, none⟩ = some (.int .i64 a0_1) := (blk_cell J0.out 1).trans rfl; have Kv : w12.cell? ⟨J5, 2, none⟩ = some (.slice A0_2 l0_2.length c0_2) := (blk_cell J0.out 2).trans rfl; have Kw : w12.cell? ⟨J5, 3, none⟩ = some (.int .i64 a0_3) := (blk_cell J0.out 3).trans rfl; have Kx : w12.cell? ⟨J5, 4, none⟩ = some (.int .i64 a0_4) := (blk_cell J0.out 4).trans rfl; have Ky : w12.cell? ⟨J5, 5, none⟩ = some (.slice A0_5 l0_5.length c0_5) := (blk_cell J0.out 5).trans rfl; have Kz : w12.cell? ⟨J5, 6, none⟩ = some (.slice A0_6 l0_6.length c0_6) := (blk_cell J0.out 6).trans rfl; have KA : w12.cell? ⟨J5, 7, none⟩ = some (.slice A0_7 l0_7.length c0_7) := (blk_cell J0.out 7).trans rfl; have KB := blk_frozen J0.out 0; have KC := blk_frozen J0.out 1; have KD := blk_frozen J0.out 2; have KE := blk_frozen J0.out 3; have KF := blk_frozen J0.out 4; have KG := blk_frozen J0.out 5; have KH := blk_frozen J0.out 6; have KI := blk_frozen J0.out 7) | ((with_reducible refine gate_callee (f := 58) rfl ?_); refine goesL_ (some 8) rfl rfl Try.func58 (by kernel_rfl) rfl #[.slice A0_2 l0_2.length c0_2, .int .i64 a1] rfl (by (try simp only [List.map_toArray, List.map_cons, List.map_nil]); first | done | rfl | (simp only [List.length_drop, List.length_take]; rfl)) ?_; (with_reducible refine (laws_heldCellS.calls k _ _ l0_2 a1 t281 _ ?side1 ?side2 A3.out).mono ?_); (case side1 => repeat (first | exact (Kd.C_below HR0_2.out HB.out) | (with_reducible refine Kd.C_alloc ?_ _) | (with_reducible refine Kd.C_drewN ?_ _) | (with_reducible refine Kd.C_drew ?_))); (case side2 => exact HC0_2.out); rintro e w' ⟨rfl, ⟨nd, rfl⟩⟩; refine ⟨_, rfl, ?_⟩) | ((with_reducible refine gate_callee (f := 59) rfl ?_); refine goesL_ (some 14) rfl rfl Try.func59 (by kernel_rfl) rfl #[.agg #[.int .i64 a0_3, .int .i64 a0_4, .slice A0_5 l0_5.length c0_5, .slice A0_6 l0_6.length c0_6, .slice A0_7 l0_7.length c0_7], .int .i64 t281] rfl (by (try simp only [List.map_toArray, List.map_cons, List.map_nil]); first | done | rfl | (simp only [List.length_drop, List.length_take]; rfl)) ?_; (with_reducible refine (laws_heldCopies.calls k a0_3 a0_4 _ _ l0_5 _ _ l0_6 _ _ l0_7 t281 t282 _ ?side1 ?side2 ?side3 ?side4 ?side5 ?side6 A7.out).mono ?_); (case side1 => repeat (first | exact (Kd.C_below HR0_5.out (by repeat (first | (with_reducible first | exact HB.out | apply below_alloc | apply pw_below_drewN | apply below_drew1 | refine below_set ?_ Jd.out) | exact HB.out))) | (with_reducible refine Kd.C_alloc ?_ _) | (with_reducible refine Kd.C_drewN ?_ _) | (with_reducible refine Kd.C_drew ?_))); (case side2 => exact HC0_5.out); (case side3 => repeat (first | exact (Kd.C_below HR0_6.out (by repeat (first | (with_reducible first | exact HB.out | apply below_alloc | apply pw_below_drewN | apply below_drew1 | refine below_set ?_ Jd.out) | exact HB.out))) | (with_reducible refine Kd.C_alloc ?_ _) | (with_reducible refine Kd.C_drewN ?_ _) | (with_reducible refine Kd.C_drew ?_))); (case side4 => exact HC0_6.out); (case side5 => repeat (first | exact (Kd.C_below HR0_7.out (by repeat (first | (with_reducible first | exact HB.out | apply below_alloc | apply pw_below_drewN | apply below_drew1 | refine below_set ?_ Jd.out) | exact HB.out))) | (with_reducible refine Kd.C_alloc ?_ _) | (with_reducible refine Kd.C_drewN ?_ _) | (with_reducible refine Kd.C_drew ?_))); (case side6 => exact HC0_7.out); rintro e w14 ⟨rfl, hb⟩; refine ⟨_, rfl, ?_⟩; have n0_ := Aside0.mk (blk_below (g := J5) (o := .cells #[.int .i64 a0_0, .int .i64 a0_1, .slice A0_2 l0_2.length c0_2, .int .i64 a0_3, .int .i64 a0_4, .slice A0_5 l0_5.length c0_5, .slice A0_6 l0_6.length c0_6, .slice A0_7 l0_7.length c0_7] 30 (0, 0)) (by (with_reducible repeat (first | refine blk_drewN ?_ _ | refine blk_drew ?_ | refine blk_alloc ?_ _)); exact J0.out) hb); have n1_ := Aside0.mk (below_step (by repeat (first | (with_reducible first | exact HB.out | apply below_alloc | apply pw_below_drewN | apply below_drew1 | refine below_set ?_ Jd.out) | exact HB.out)) hb); clear J0; clear HB; have J0 := n0_; have HB := n1_; clear n0_ n1_; (try clear hb); (try clear hb2); (try clear hk); (try clear hi)))
      go_ret
      exact ⟨by first | rfl | (simp [errW_none, errW_some] <;> rfl) | (simp [*, errW_none, errW_some] <;> rfl), by repeat (first | (with_reducible first | exact HB.out | apply below_alloc | apply pw_below_drewN | apply below_drew1 | refine below_set ?_ Jd.out) | exact HB.out)⟩

end Go.Proofs.Ytbppgngfiijclaa.XFnExactNewCopies
