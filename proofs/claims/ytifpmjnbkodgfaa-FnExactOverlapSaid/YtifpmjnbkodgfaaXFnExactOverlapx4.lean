/- The machine's side of one law: functions as plain Lean functions, and that the calls do what these say. Written by a program of this session; no condition beyond those that each theorem names. -/
import Derived.Test.YtifpmjnbkodgfaaXFnExactOverlapx0
import Derived.Test.YtifpmjnbkodgfaaXFnExactOverlapx3
namespace Go.Proofs.Ytifpmjnbkodgfaa.XFnExactOverlap
open Go.RowKit Go.Proofs.YtifpmjnbkodgfaaW.PrintWords Go.Proofs.YtifpmjnbkodgfaaW.PrintLast Go.Proofs.YtifpmjnbkodgfaaW.PrintMore
attribute [local go_sem] max2_int min2_int max_two min_two max_three min_three max_four min_four   -- for this text's walks alone
set_option linter.unusedVariables false
set_option linter.unusedSimpArgs false

/-! ### spec_l10Place: function 77 -/
def spec_l10Place.l0 : Nat → List (S67) → Int → Int → Int → Option (Int)
  | 0, _, _, _, _ => none
  | k + 1, x0, x1, x2, x7 => if x7 < (x0.length : Int) then (if 0 ≤ x7 then (if ((rd_T67 x0 x7).f0) = x1 then (if ((rd_T67 x0 x7).f1) = x2 then (some x7) else (spec_l10Place.l0 k x0 x1 x2 (wrap64 (x7 + 1)))) else (spec_l10Place.l0 k x0 x1 x2 (wrap64 (x7 + 1)))) else (none)) else (some (-1))
def spec_l10Place.f (k : Nat) (l0 : List (S67)) (a1 : Int) (a2 : Int) : Option (Int) := spec_l10Place.l0 k l0 a1 a2 0
theorem spec_l10Place.mono_l : ∀ k, (∀ y0 y1 y2 y3, LeO (spec_l10Place.l0 k y0 y1 y2 y3) (spec_l10Place.l0 (k + 1) y0 y1 y2 y3))
  | 0 => fun _ _ _ _ r h => by simp [spec_l10Place.l0] at h
  | k + 1 => by
    have ih0 := spec_l10Place.mono_l k
    · intro y0 y1 y2 y3
      unfold spec_l10Place.l0
      repeat' first
      | (with_reducible exact ih0 _ _ _ _)
      | (with_reducible exact LeO.refl _)
      | (with_reducible exact LeO.none _)
      | (with_reducible refine LeO.ite ?_ ?_)
      | (with_reducible refine LeO.bind ?_ (fun _ => ?_))
      | exact ih0 _ _ _ _
      | exact LeO.none _
      | refine LeO.ite ?_ ?_
      | refine LeO.bind ?_ (fun _ => ?_)
theorem spec_l10Place.mono : ∀ a0 a1 a2 k, LeO (spec_l10Place.f k a0 a1 a2) (spec_l10Place.f (k + 1) a0 a1 a2) := by
  intro a0 a1 a2 k
  have ih0 := spec_l10Place.mono_l k
  unfold spec_l10Place.f
  repeat' first
      | (with_reducible exact ih0 _ _ _ _)
      | (with_reducible exact LeO.refl _)
      | (with_reducible exact LeO.none _)
      | (with_reducible refine LeO.ite ?_ ?_)
      | (with_reducible refine LeO.bind ?_ (fun _ => ?_))
      | exact ih0 _ _ _ _
      | exact LeO.none _
      | refine LeO.ite ?_ ?_
      | refine LeO.bind ?_ (fun _ => ?_)
set_option maxHeartbeats 8000000 in
set_option maxRecDepth 100000 in
theorem spec_l10Place.calls (k : Nat) (A0 : Option Addr) (c0 : Nat) (l0 : List (S67)) (a1 : Int) (a2 : Int) (r : Int) (w : World) (hr0 : Kd.C k67 w A0 l0.length l0) (hc0 : l0.length ≤ c0) (h : spec_l10Place.f k l0 a1 a2 = some r) :
    Calls Try.prog 77 #[.slice A0 l0.length c0, .int .i64 a1, .int .i64 a2] w fun e w' => e = .returned (.int .i64 r) ∧ Drawn0 w w' := by
  have HR0 := Aside0.mk hr0
  have HC0 := Aside0.mk hc0
  clear hr0 hc0
  have H : (spec_l10Place.l0 k l0 a1 a2 0) = some r := h
  clear h
  have H' := Aside0.mk H
  clear H
  go_enter Try.func77, Try.ntmps77
  go_wp2
  go_loopg [7] k (fun kq v7 w' => ∃ (x7_1 : Int), v7 = .int .i64 x7_1 ∧ Aside0 (spec_l10Place.l0 kq l0 a1 a2 x7_1 = some r) ∧ Aside0 (kq ≤ k) ∧ Drawn0 w w')
  case atStart => exact ⟨(0), (by first | rfl | (simp; done) | (simp [*]; done)), H', ⟨Nat.le_refl _⟩, by repeat (first | exact Drawn0.refl _ | apply Drawn0.step)⟩
  case round =>
    clear H'
    try clear p2
    obtain ⟨x7_1, rfl, HA, HK1, ⟨m1, rfl⟩⟩ := hrel
    cases gk with
    | zero => exact absurd HA.out (by simp [spec_l10Place.l0])
    | succ k1 =>
      have H := HA.out
      clear HA
      simp only [spec_l10Place.l0] at H
      by_cases c4 : x7_1 < (l0.length : Int)
      · rw [if_pos c4] at H
        have c4b0 : decide (x7_1 < (l0.length : Int)) = true := decide_eq_true c4
        clear c4
        by_cases c5 : 0 ≤ x7_1
        · rw [if_pos c5] at H
          have c5b0 : decide (0 ≤ x7_1) = true := decide_eq_true c5
          clear c5
          by_cases c6 : ((rd_T67 l0 x7_1).f0) = a1
          · rw [if_pos c6] at H
            have c6b0 : (((rd_T67 l0 x7_1).f0) == a1) = true := beq_iff_eq.mpr c6
            have c6b1 : (((rd_T67 l0 x7_1).f0) != a1) = false := bne_eq_false_iff_eq.mpr c6
            clear c6
            by_cases c7 : ((rd_T67 l0 x7_1).f1) = a2
            · rw [if_pos c7] at H
              have c7b0 : (((rd_T67 l0 x7_1).f1) == a2) = true := beq_iff_eq.mpr c7
              have c7b1 : (((rd_T67 l0 x7_1).f1) != a2) = false := bne_eq_false_iff_eq.mpr c7
              clear c7
              obtain rfl := Option.some.inj H
              have p136 : 0 ≤ (x7_1 : Int) := of_decide_eq_true (by first | (with_reducible assumption) | assumption)
              have q136 : x7_1 < (l0.length : Int) := of_decide_eq_true (by first | (with_reducible assumption) | assumption)
              obtain ⟨ad136, e136, hx136_0, hx136_1, hx136_2, hx136_3⟩ := at_T67 HR0.out x7_1 p136 q136
              cases e136
              replace p136 := eq_true p136
              replace q136 := eq_true q136
              have p137 : 0 ≤ (x7_1 : Int) := of_decide_eq_true (by first | (with_reducible assumption) | assumption)
              have q137 : x7_1 < (l0.length : Int) := of_decide_eq_true (by first | (with_reducible assumption) | assumption)
              obtain ⟨ad137, e137, hx137_0, hx137_1, hx137_2, hx137_3⟩ := at_T67 HR0.out x7_1 p137 q137
              obtain rfl : ad136 = ad137 := (by injection e137)
              replace p137 := eq_true p137
              replace q137 := eq_true q137
              go_wp2
              go_ret
              exact ⟨by first | rfl | (simp; done) | (simp [*]; done), by repeat (first | exact Drawn0.refl _ | apply Drawn0.step)⟩
            · rw [if_neg c7] at H
              have c7b0 : (((rd_T67 l0 x7_1).f1) == a2) = false := beq_eq_false_iff_ne.mpr c7
              have c7b1 : (((rd_T67 l0 x7_1).f1) != a2) = true := bne_iff_ne.mpr c7
              have H' := Aside0.mk H
              clear H
              have p136 : 0 ≤ (x7_1 : Int) := of_decide_eq_true (by first | (with_reducible assumption) | assumption)
              have q136 : x7_1 < (l0.length : Int) := of_decide_eq_true (by first | (with_reducible assumption) | assumption)
              obtain ⟨ad136, e136, hx136_0, hx136_1, hx136_2, hx136_3⟩ := at_T67 HR0.out x7_1 p136 q136
              cases e136
              replace p136 := eq_true p136
              replace q136 := eq_true q136
              have p137 : 0 ≤ (x7_1 : Int) := of_decide_eq_true (by first | (with_reducible assumption) | assumption)
              have q137 : x7_1 < (l0.length : Int) := of_decide_eq_true (by first | (with_reducible assumption) | assumption)
              obtain ⟨ad137, e137, hx137_0, hx137_1, hx137_2, hx137_3⟩ := at_T67 HR0.out x7_1 p137 q137
              obtain rfl : ad136 = ad137 := (by injection e137)
              replace p137 := eq_true p137
              replace q137 := eq_true q137
              go_wp2
              go_roundg k1
              case measure => have := HK1.out; omega
              case rel => exact ⟨(wrap64 (x7_1 + 1)), (by first | rfl | (simp; done) | (simp [*]; done)), H', ⟨by have := HK1.out; omega⟩, by repeat (first | exact Drawn0.refl _ | apply Drawn0.step)⟩
          · rw [if_neg c6] at H
            have c6b0 : (((rd_T67 l0 x7_1).f0) == a1) = false := beq_eq_false_iff_ne.mpr c6
            have c6b1 : (((rd_T67 l0 x7_1).f0) != a1) = true := bne_iff_ne.mpr c6
            have H' := Aside0.mk H
            clear H
            have p136 : 0 ≤ (x7_1 : Int) := of_decide_eq_true (by first | (with_reducible assumption) | assumption)
            have q136 : x7_1 < (l0.length : Int) := of_decide_eq_true (by first | (with_reducible assumption) | assumption)
            obtain ⟨ad136, e136, hx136_0, hx136_1, hx136_2, hx136_3⟩ := at_T67 HR0.out x7_1 p136 q136
            cases e136
            replace p136 := eq_true p136
            replace q136 := eq_true q136
            go_wp2
            go_roundg k1
            case measure => have := HK1.out; omega
            case rel => exact ⟨(wrap64 (x7_1 + 1)), (by first | rfl | (simp; done) | (simp [*]; done)), H', ⟨by have := HK1.out; omega⟩, by repeat (first | exact Drawn0.refl _ | apply Drawn0.step)⟩
        · rw [if_neg c5] at H
          exact absurd H (by simp)
      · rw [if_neg c4] at H
        have c4b0 : decide (x7_1 < (l0.length : Int)) = false := decide_eq_false c4
        clear c4
        obtain rfl := Option.some.inj H
        go_wp2
        go_ret
        exact ⟨by first | rfl | (simp; done) | (simp [*]; done), by repeat (first | exact Drawn0.refl _ | apply Drawn0.step)⟩

/-! ### spec_l10Overlap: function 61 -/
def spec_l10Overlap.f (k : Nat) (l0 : List (S67)) (a1 : Int) (a2 : Int) : Option (Bool) := (spec_l10Place.f k l0 4 a1).bind fun t138 => ((spec_l10Place.f k l0 4 a2).bind fun t139 => (if a1 = a2 then (some false) else (if t138 ≥ 0 then (if t139 ≥ 0 then ((spec_l10Place.f k l0 1 a1).bind fun t140 => (if t140 < t139 then ((spec_l10Place.f k l0 1 a2).bind fun t141 => (some (decide (t141 < t138)))) else (some false))) else (some false)) else (some false))))
theorem spec_l10Overlap.mono : ∀ a0 a1 a2 k, LeO (spec_l10Overlap.f k a0 a1 a2) (spec_l10Overlap.f (k + 1) a0 a1 a2) := by
  intro a0 a1 a2 k
  unfold spec_l10Overlap.f
  repeat' first
      | (with_reducible exact spec_l10Place.mono _ _ _ _)
      | (with_reducible exact LeO.refl _)
      | (with_reducible exact LeO.none _)
      | (with_reducible refine LeO.ite ?_ ?_)
      | (with_reducible refine LeO.bind ?_ (fun _ => ?_))
      | exact spec_l10Place.mono _ _ _ _
      | exact LeO.none _
      | refine LeO.ite ?_ ?_
      | refine LeO.bind ?_ (fun _ => ?_)
set_option maxHeartbeats 8000000 in
set_option maxRecDepth 100000 in
theorem spec_l10Overlap.calls (k : Nat) (A0 : Option Addr) (c0 : Nat) (l0 : List (S67)) (a1 : Int) (a2 : Int) (r : Bool) (w : World) (hr0 : Kd.C k67 w A0 l0.length l0) (hc0 : l0.length ≤ c0) (h : spec_l10Overlap.f k l0 a1 a2 = some r) :
    Calls Try.prog 61 #[.slice A0 l0.length c0, .int .i64 a1, .int .i64 a2] w fun e w' => e = .returned (.bool r) ∧ Drawn0 w w' := by
  have HR0 := Aside0.mk hr0
  have HC0 := Aside0.mk hc0
  clear hr0 hc0
  have H : ((spec_l10Place.f k l0 4 a1).bind fun t138 => ((spec_l10Place.f k l0 4 a2).bind fun t139 => (if a1 = a2 then (some false) else (if t138 ≥ 0 then (if t139 ≥ 0 then ((spec_l10Place.f k l0 1 a1).bind fun t140 => (if t140 < t139 then ((spec_l10Place.f k l0 1 a2).bind fun t141 => (some (decide (t141 < t138)))) else (some false))) else (some false)) else (some false))))) = some r := h
  clear h
  replace H := Option.bind_eq_some_iff.mp H
  obtain ⟨t138, A40, H⟩ := H
  replace H : ((spec_l10Place.f k l0 4 a2).bind fun t139 => (if a1 = a2 then (some false) else (if t138 ≥ 0 then (if t139 ≥ 0 then ((spec_l10Place.f k l0 1 a1).bind fun t140 => (if t140 < t139 then ((spec_l10Place.f k l0 1 a2).bind fun t141 => (some (decide (t141 < t138)))) else (some false))) else (some false)) else (some false)))) = some r := H
  have A4 := Aside0.mk A40
  clear A40
  replace H := Option.bind_eq_some_iff.mp H
  obtain ⟨t139, A50, H⟩ := H
  replace H : (if a1 = a2 then (some false) else (if t138 ≥ 0 then (if t139 ≥ 0 then ((spec_l10Place.f k l0 1 a1).bind fun t140 => (if t140 < t139 then ((spec_l10Place.f k l0 1 a2).bind fun t141 => (some (decide (t141 < t138)))) else (some false))) else (some false)) else (some false))) = some r := H
  have A5 := Aside0.mk A50
  clear A50
  by_cases c6 : a1 = a2
  · rw [if_pos c6] at H
    have c6b0 : (a1 == a2) = true := beq_iff_eq.mpr c6
    have c6b1 : (a1 != a2) = false := bne_eq_false_iff_eq.mpr c6
    clear c6
    obtain rfl := Option.some.inj H
    go_enter Try.func61, Try.ntmps61
    go_wp2_with (first | ((with_reducible refine gate_callee (f := 77) rfl ?_); refine goesL_ (some 11) rfl rfl Try.func77 (by kernel_rfl) rfl #[.slice A0 l0.length c0, .int .i64 4, .int .i64 a1] rfl (by (try simp only [List.map_toArray, List.map_cons, List.map_nil]); first | done | rfl | (simp only [List.length_drop, List.length_take]; rfl)) ?_; (with_reducible refine (spec_l10Place.calls k _ _ l0 4 a1 t138 _ ?side1 ?side2 A4.out).mono ?_); (case side1 => repeat (first | exact HR0.out | (with_reducible refine Kd.C_alloc ?_ _) | (with_reducible refine Kd.C_drewN ?_ _) | (with_reducible refine Kd.C_drew ?_))); (case side2 => exact HC0.out); rintro e w' ⟨rfl, ⟨nd, rfl⟩⟩; refine ⟨_, rfl, ?_⟩) | ((with_reducible refine gate_callee (f := 77) rfl ?_); refine goesL_ (some 14) rfl rfl Try.func77 (by kernel_rfl) rfl #[.slice A0 l0.length c0, .int .i64 4, .int .i64 a2] rfl (by (try simp only [List.map_toArray, List.map_cons, List.map_nil]); first | done | rfl | (simp only [List.length_drop, List.length_take]; rfl)) ?_; (with_reducible refine (spec_l10Place.calls k _ _ l0 4 a2 t139 _ ?side1 ?side2 A5.out).mono ?_); (case side1 => repeat (first | exact HR0.out | (with_reducible refine Kd.C_alloc ?_ _) | (with_reducible refine Kd.C_drewN ?_ _) | (with_reducible refine Kd.C_drew ?_))); (case side2 => exact HC0.out); rintro e w' ⟨rfl, ⟨nd, rfl⟩⟩; refine ⟨_, rfl, ?_⟩))
    go_ret
    exact ⟨by first | rfl | (simp; done) | (simp [*]; done), by repeat (first | exact Drawn0.refl _ | apply Drawn0.step)⟩
  · rw [if_neg c6] at H
    have c6b0 : (a1 == a2) = false := beq_eq_false_iff_ne.mpr c6
    have c6b1 : (a1 != a2) = true := bne_iff_ne.mpr c6
    by_cases c7 : t138 ≥ 0
    · rw [if_pos c7] at H
      have c7b0 : decide (0 ≤ t138) = true := decide_eq_true c7
      clear c7
      by_cases c8 : t139 ≥ 0
      · rw [if_pos c8] at H
        have c8b0 : decide (0 ≤ t139) = true := decide_eq_true c8
        clear c8
        replace H := Option.bind_eq_some_iff.mp H
        obtain ⟨t140, A90, H⟩ := H
        replace H : (if t140 < t139 then ((spec_l10Place.f k l0 1 a2).bind fun t141 => (some (decide (t141 < t138)))) else (some false)) = some r := H
        have A9 := Aside0.mk A90
        clear A90
        by_cases c10 : t140 < t139
        · rw [if_pos c10] at H
          have c10b0 : decide (t140 < t139) = true := decide_eq_true c10
          clear c10
          replace H := Option.bind_eq_some_iff.mp H
          obtain ⟨t141, A110, H⟩ := H
          replace H : (some (decide (t141 < t138))) = some r := H
          have A11 := Aside0.mk A110
          clear A110
          obtain rfl := Option.some.inj H
          go_enter Try.func61, Try.ntmps61
          go_wp2_with (first | ((with_reducible refine gate_callee (f := 77) rfl ?_); refine goesL_ (some 11) rfl rfl Try.func77 (by kernel_rfl) rfl #[.slice A0 l0.length c0, .int .i64 4, .int .i64 a1] rfl (by (try simp only [List.map_toArray, List.map_cons, List.map_nil]); first | done | rfl | (simp only [List.length_drop, List.length_take]; rfl)) ?_; (with_reducible refine (spec_l10Place.calls k _ _ l0 4 a1 t138 _ ?side1 ?side2 A4.out).mono ?_); (case side1 => repeat (first | exact HR0.out | (with_reducible refine Kd.C_alloc ?_ _) | (with_reducible refine Kd.C_drewN ?_ _) | (with_reducible refine Kd.C_drew ?_))); (case side2 => exact HC0.out); rintro e w' ⟨rfl, ⟨nd, rfl⟩⟩; refine ⟨_, rfl, ?_⟩) | ((with_reducible refine gate_callee (f := 77) rfl ?_); refine goesL_ (some 14) rfl rfl Try.func77 (by kernel_rfl) rfl #[.slice A0 l0.length c0, .int .i64 4, .int .i64 a2] rfl (by (try simp only [List.map_toArray, List.map_cons, List.map_nil]); first | done | rfl | (simp only [List.length_drop, List.length_take]; rfl)) ?_; (with_reducible refine (spec_l10Place.calls k _ _ l0 4 a2 t139 _ ?side1 ?side2 A5.out).mono ?_); (case side1 => repeat (first | exact HR0.out | (with_reducible refine Kd.C_alloc ?_ _) | (with_reducible refine Kd.C_drewN ?_ _) | (with_reducible refine Kd.C_drew ?_))); (case side2 => exact HC0.out); rintro e w' ⟨rfl, ⟨nd, rfl⟩⟩; refine ⟨_, rfl, ?_⟩) | (go_at_call 77; (with_reducible refine (spec_l10Place.calls k _ _ l0 1 a1 t140 _ ?side1 ?side2 A9.out).mono ?_); (case side1 => repeat (first | exact HR0.out | (with_reducible refine Kd.C_alloc ?_ _) | (with_reducible refine Kd.C_drewN ?_ _) | (with_reducible refine Kd.C_drew ?_))); (case side2 => exact HC0.out); rintro e w' ⟨rfl, ⟨nd, rfl⟩⟩) | (go_at_call 77; (with_reducible refine (spec_l10Place.calls k _ _ l0 1 a2 t141 _ ?side1 ?side2 A11.out).mono ?_); (case side1 => repeat (first | exact HR0.out | (with_reducible refine Kd.C_alloc ?_ _) | (with_reducible refine Kd.C_drewN ?_ _) | (with_reducible refine Kd.C_drew ?_))); (case side2 => exact HC0.out); rintro e w' ⟨rfl, ⟨nd, rfl⟩⟩))
          go_ret
          exact ⟨by first | rfl | (simp; done) | (simp [*]; done), by repeat (first | exact Drawn0.refl _ | apply Drawn0.step)⟩
        · rw [if_neg c10] at H
          have c10b0 : decide (t140 < t139) = false := decide_eq_false c10
          clear c10
          obtain rfl := Option.some.inj H
          go_enter Try.func61, Try.ntmps61
          go_wp2_with (first | ((with_reducible refine gate_callee (f := 77) rfl ?_); refine goesL_ (some 11) rfl rfl Try.func77 (by kernel_rfl) rfl #[.slice A0 l0.length c0, .int .i64 4, .int .i64 a1] rfl (by (try simp only [List.map_toArray, List.map_cons, List.map_nil]); first | done | rfl | (simp only [List.length_drop, List.length_take]; rfl)) ?_; (with_reducible refine (spec_l10Place.calls k _ _ l0 4 a1 t138 _ ?side1 ?side2 A4.out).mono ?_); (case side1 => repeat (first | exact HR0.out | (with_reducible refine Kd.C_alloc ?_ _) | (with_reducible refine Kd.C_drewN ?_ _) | (with_reducible refine Kd.C_drew ?_))); (case side2 => exact HC0.out); rintro e w' ⟨rfl, ⟨nd, rfl⟩⟩; refine ⟨_, rfl, ?_⟩) | ((with_reducible refine gate_callee (f := 77) rfl ?_); refine goesL_ (some 14) rfl rfl Try.func77 (by kernel_rfl) rfl #[.slice A0 l0.length c0, .int .i64 4, .int .i64 a2] rfl (by (try simp only [List.map_toArray, List.map_cons, List.map_nil]); first | done | rfl | (simp only [List.length_drop, List.length_take]; rfl)) ?_; (with_reducible refine (spec_l10Place.calls k _ _ l0 4 a2 t139 _ ?side1 ?side2 A5.out).mono ?_); (case side1 => repeat (first | exact HR0.out | (with_reducible refine Kd.C_alloc ?_ _) | (with_reducible refine Kd.C_drewN ?_ _) | (with_reducible refine Kd.C_drew ?_))); (case side2 => exact HC0.out); rintro e w' ⟨rfl, ⟨nd, rfl⟩⟩; refine ⟨_, rfl, ?_⟩) | (go_at_call 77; (with_reducible refine (spec_l10Place.calls k _ _ l0 1 a1 t140 _ ?side1 ?side2 A9.out).mono ?_); (case side1 => repeat (first | exact HR0.out | (with_reducible refine Kd.C_alloc ?_ _) | (with_reducible refine Kd.C_drewN ?_ _) | (with_reducible refine Kd.C_drew ?_))); (case side2 => exact HC0.out); rintro e w' ⟨rfl, ⟨nd, rfl⟩⟩))
          go_ret
          exact ⟨by first | rfl | (simp; done) | (simp [*]; done), by repeat (first | exact Drawn0.refl _ | apply Drawn0.step)⟩
      · rw [if_neg c8] at H
        have c8b0 : decide (0 ≤ t139) = false := decide_eq_false c8
        clear c8
        obtain rfl := Option.some.inj H
        go_enter Try.func61, Try.ntmps61
        go_wp2_with (first | ((with_reducible refine gate_callee (f := 77) rfl ?_); refine goesL_ (some 11) rfl rfl Try.func77 (by kernel_rfl) rfl #[.slice A0 l0.length c0, .int .i64 4, .int .i64 a1] rfl (by (try simp only [List.map_toArray, List.map_cons, List.map_nil]); first | done | rfl | (simp only [List.length_drop, List.length_take]; rfl)) ?_; (with_reducible refine (spec_l10Place.calls k _ _ l0 4 a1 t138 _ ?side1 ?side2 A4.out).mono ?_); (case side1 => repeat (first | exact HR0.out | (with_reducible refine Kd.C_alloc ?_ _) | (with_reducible refine Kd.C_drewN ?_ _) | (with_reducible refine Kd.C_drew ?_))); (case side2 => exact HC0.out); rintro e w' ⟨rfl, ⟨nd, rfl⟩⟩; refine ⟨_, rfl, ?_⟩) | ((with_reducible refine gate_callee (f := 77) rfl ?_); refine goesL_ (some 14) rfl rfl Try.func77 (by kernel_rfl) rfl #[.slice A0 l0.length c0, .int .i64 4, .int .i64 a2] rfl (by (try simp only [List.map_toArray, List.map_cons, List.map_nil]); first | done | rfl | (simp only [List.length_drop, List.length_take]; rfl)) ?_; (with_reducible refine (spec_l10Place.calls k _ _ l0 4 a2 t139 _ ?side1 ?side2 A5.out).mono ?_); (case side1 => repeat (first | exact HR0.out | (with_reducible refine Kd.C_alloc ?_ _) | (with_reducible refine Kd.C_drewN ?_ _) | (with_reducible refine Kd.C_drew ?_))); (case side2 => exact HC0.out); rintro e w' ⟨rfl, ⟨nd, rfl⟩⟩; refine ⟨_, rfl, ?_⟩))
        go_ret
        exact ⟨by first | rfl | (simp; done) | (simp [*]; done), by repeat (first | exact Drawn0.refl _ | apply Drawn0.step)⟩
    · rw [if_neg c7] at H
      have c7b0 : decide (0 ≤ t138) = false := decide_eq_false c7
      clear c7
      obtain rfl := Option.some.inj H
      go_enter Try.func61, Try.ntmps61
      go_wp2_with (first | ((with_reducible refine gate_callee (f := 77) rfl ?_); refine goesL_ (some 11) rfl rfl Try.func77 (by kernel_rfl) rfl #[.slice A0 l0.length c0, .int .i64 4, .int .i64 a1] rfl (by (try simp only [List.map_toArray, List.map_cons, List.map_nil]); first | done | rfl | (simp only [List.length_drop, List.length_take]; rfl)) ?_; (with_reducible refine (spec_l10Place.calls k _ _ l0 4 a1 t138 _ ?side1 ?side2 A4.out).mono ?_); (case side1 => repeat (first | exact HR0.out | (with_reducible refine Kd.C_alloc ?_ _) | (with_reducible refine Kd.C_drewN ?_ _) | (with_reducible refine Kd.C_drew ?_))); (case side2 => exact HC0.out); rintro e w' ⟨rfl, ⟨nd, rfl⟩⟩; refine ⟨_, rfl, ?_⟩) | ((with_reducible refine gate_callee (f := 77) rfl ?_); refine goesL_ (some 14) rfl rfl Try.func77 (by kernel_rfl) rfl #[.slice A0 l0.length c0, .int .i64 4, .int .i64 a2] rfl (by (try simp only [List.map_toArray, List.map_cons, List.map_nil]); first | done | rfl | (simp only [List.length_drop, List.length_take]; rfl)) ?_; (with_reducible refine (spec_l10Place.calls k _ _ l0 4 a2 t139 _ ?side1 ?side2 A5.out).mono ?_); (case side1 => repeat (first | exact HR0.out | (with_reducible refine Kd.C_alloc ?_ _) | (with_reducible refine Kd.C_drewN ?_ _) | (with_reducible refine Kd.C_drew ?_))); (case side2 => exact HC0.out); rintro e w' ⟨rfl, ⟨nd, rfl⟩⟩; refine ⟨_, rfl, ?_⟩))
      go_ret
      exact ⟨by first | rfl | (simp; done) | (simp [*]; done), by repeat (first | exact Drawn0.refl _ | apply Drawn0.step)⟩

/-! ### spec_Overlap: function 27 -/
def spec_Overlap.f (k : Nat) (l0 : List (S67)) (a1 : Int) (a2 : Int) : Option (Bool) := (spec_HistoryFault.f k l0).bind fun t142 => (if t142 = 0 then ((spec_l10Overlap.f k l0 a1 a2).bind fun t143 => (some t143)) else (some false))
theorem spec_Overlap.mono : ∀ a0 a1 a2 k, LeO (spec_Overlap.f k a0 a1 a2) (spec_Overlap.f (k + 1) a0 a1 a2) := by
  intro a0 a1 a2 k
  unfold spec_Overlap.f
  repeat' first
      | (with_reducible exact spec_HistoryFault.mono _ _)
      | (with_reducible exact spec_l10Overlap.mono _ _ _ _)
      | (with_reducible exact LeO.refl _)
      | (with_reducible exact LeO.none _)
      | (with_reducible refine LeO.ite ?_ ?_)
      | (with_reducible refine LeO.bind ?_ (fun _ => ?_))
      | exact spec_HistoryFault.mono _ _
      | exact spec_l10Overlap.mono _ _ _ _
      | exact LeO.none _
      | refine LeO.ite ?_ ?_
      | refine LeO.bind ?_ (fun _ => ?_)
set_option maxHeartbeats 8000000 in
set_option maxRecDepth 100000 in
theorem spec_Overlap.calls (k : Nat) (A0 : Option Addr) (c0 : Nat) (l0 : List (S67)) (a1 : Int) (a2 : Int) (r : Bool) (w : World) (hr0 : Kd.C k67 w A0 l0.length l0) (hc0 : l0.length ≤ c0) (h : spec_Overlap.f k l0 a1 a2 = some r) :
    Calls Try.prog 27 #[.slice A0 l0.length c0, .int .i64 a1, .int .i64 a2] w fun e w' => e = .returned (.bool r) ∧ Below w.heap.size w w' := by
  have HR0 := Aside0.mk hr0
  have HC0 := Aside0.mk hc0
  clear hr0 hc0
  have HB := Aside0.mk (Below.refl w.heap.size w)
  have H : ((spec_HistoryFault.f k l0).bind fun t142 => (if t142 = 0 then ((spec_l10Overlap.f k l0 a1 a2).bind fun t143 => (some t143)) else (some false))) = some r := h
  clear h
  replace H := Option.bind_eq_some_iff.mp H
  obtain ⟨t142, A40, H⟩ := H
  replace H : (if t142 = 0 then ((spec_l10Overlap.f k l0 a1 a2).bind fun t143 => (some t143)) else (some false)) = some r := H
  have A4 := Aside0.mk A40
  clear A40
  by_cases c5 : t142 = 0
  · rw [if_pos c5] at H
    have c5b0 : (t142 == 0) = true := beq_iff_eq.mpr c5
    have c5b1 : (t142 != 0) = false := bne_eq_false_iff_eq.mpr c5
    clear c5
    replace H := Option.bind_eq_some_iff.mp H
    obtain ⟨t143, A60, H⟩ := H
    replace H : (some t143) = some r := H
    have A6 := Aside0.mk A60
    clear A60
    obtain rfl := Option.some.inj H
    go_enter Try.func27, Try.ntmps27
    go_wp2_with (first | ((with_reducible refine gate_callee (f := 18) rfl ?_); refine goesL_ (some 8) rfl rfl Try.func18 (by kernel_rfl) rfl #[.slice A0 l0.length c0] rfl (by (try simp only [List.map_toArray, List.map_cons, List.map_nil]); first | done | rfl | (simp only [List.length_drop, List.length_take]; rfl)) ?_; (with_reducible refine (spec_HistoryFault.calls k _ _ l0 t142 _ ?side1 ?side2 A4.out).mono ?_); (case side1 => repeat (first | exact HR0.out | (with_reducible refine Kd.C_alloc ?_ _) | (with_reducible refine Kd.C_drewN ?_ _) | (with_reducible refine Kd.C_drew ?_))); (case side2 => exact HC0.out); rintro e w7 ⟨rfl, hb⟩; refine ⟨_, rfl, ?_⟩; have n0_ := Aside0.mk (below_step (by repeat (first | (with_reducible first | exact HB.out | apply below_alloc | apply pw_below_drewN | apply below_drew1) | exact HB.out)) hb); clear HB; have HB := n0_; clear n0_; (try clear hb); (try clear hb2); (try clear hk); (try clear hi)) | (go_at_call 61; (with_reducible refine (spec_l10Overlap.calls k _ _ l0 a1 a2 t143 _ ?side1 ?side2 A6.out).mono ?_); (case side1 => repeat (first | exact (Kd.C_below HR0.out HB.out) | (with_reducible refine Kd.C_alloc ?_ _) | (with_reducible refine Kd.C_drewN ?_ _) | (with_reducible refine Kd.C_drew ?_))); (case side2 => exact HC0.out); rintro e w' ⟨rfl, ⟨nd, rfl⟩⟩))
    go_ret
    exact ⟨by first | rfl | (simp [errW_none, errW_some] <;> rfl) | (simp [*, errW_none, errW_some] <;> rfl), by repeat (first | (with_reducible first | exact HB.out | apply below_alloc | apply pw_below_drewN | apply below_drew1) | exact HB.out)⟩
  · rw [if_neg c5] at H
    have c5b0 : (t142 == 0) = false := beq_eq_false_iff_ne.mpr c5
    have c5b1 : (t142 != 0) = true := bne_iff_ne.mpr c5
    obtain rfl := Option.some.inj H
    go_enter Try.func27, Try.ntmps27
    go_wp2_with (first | ((with_reducible refine gate_callee (f := 18) rfl ?_); refine goesL_ (some 8) rfl rfl Try.func18 (by kernel_rfl) rfl #[.slice A0 l0.length c0] rfl (by (try simp only [List.map_toArray, List.map_cons, List.map_nil]); first | done | rfl | (simp only [List.length_drop, List.length_take]; rfl)) ?_; (with_reducible refine (spec_HistoryFault.calls k _ _ l0 t142 _ ?side1 ?side2 A4.out).mono ?_); (case side1 => repeat (first | exact HR0.out | (with_reducible refine Kd.C_alloc ?_ _) | (with_reducible refine Kd.C_drewN ?_ _) | (with_reducible refine Kd.C_drew ?_))); (case side2 => exact HC0.out); rintro e w8 ⟨rfl, hb⟩; refine ⟨_, rfl, ?_⟩; have n0_ := Aside0.mk (below_step (by repeat (first | (with_reducible first | exact HB.out | apply below_alloc | apply pw_below_drewN | apply below_drew1) | exact HB.out)) hb); clear HB; have HB := n0_; clear n0_; (try clear hb); (try clear hb2); (try clear hk); (try clear hi)))
    go_ret
    exact ⟨by first | rfl | (simp [errW_none, errW_some] <;> rfl) | (simp [*, errW_none, errW_some] <;> rfl), by repeat (first | (with_reducible first | exact HB.out | apply below_alloc | apply pw_below_drewN | apply below_drew1) | exact HB.out)⟩

/-! ### impl_Hop: function 71 -/
set_option maxHeartbeats 4000000 in
set_option maxRecDepth 100000 in
theorem impl_Hop.calls (A0 : Option Addr) (c0 : Nat) (l0 : List (S67)) (gf : Nat) (lb : Array Value) (p : S67 → Bool) (w : World) (eg : ∀ args w, (callFunc gf args).run Try.prog w = .ok (.enter gf args) w) (hr0 : Kd.C k67 w A0 l0.length l0)
    (hp : ∀ (W : World) (x : S67), x ∈ l0 → Below w.heap.size w W → Calls Try.prog gf (#[.agg #[.int .i64 x.f0, .int .i64 x.f1, .int .i64 x.f2, .int .i64 x.f3]] ++ lb) W fun e w' => e = .returned (.bool (p x)) ∧ Below w.heap.size w w') :
    Calls Try.prog 71 #[.slice A0 l0.length c0, .func (.func gf) #[] lb] w fun e w' => e = .returned (.int .i64 (idxP p l0)) ∧ Below w.heap.size w w' := by
  have hlen := Kd.C_max hr0
  go_enter Try.func71, Try.ntmps71
  go_wp2
  go_loopg [5, 8] l0.length (fun gg _ s8 wr => ∃ kk : Nat, kk ≤ l0.length ∧ l0.length - kk ≤ gg ∧ s8 = .int .i64 kk ∧ Aside0 (Below w.heap.size w wr) ∧ Aside0 (∀ j, j < kk → p (l0.getD j z67) = false))
  case atStart => exact ⟨0, Nat.zero_le _, by omega, rfl, ⟨Below.refl _ w⟩, ⟨fun j hj => absurd hj (Nat.not_lt_zero _)⟩⟩
  case round =>
    obtain ⟨kk, hkk, hg, rfl, BW, HA⟩ := hrel
    by_cases hlt : kk < l0.length
    · have hltz : (kk : Int) < (l0.length : Int) := by omega
      have hrd := Kd.C_below hr0 BW.out
      obtain ⟨ade, eA, hce_0, hce_1, hce_2, hce_3⟩ := at_T67 hrd (kk : Int) (by omega) (by omega)
      subst eA
      have hcall := hp wr (rd_T67 l0 (kk : Int))  (getD_mem_ _ _ _ hlt) BW.out 
      have hx : rd_T67 l0 (kk : Int) = l0.getD kk z67 := rfl
      simp only [Int.toNat_natCast] at hce_0 hce_1 hce_2 hce_3
      clear hr0 hp hrd
      have HX := Aside0.mk hx
      clear hx
      skip
      cases hq : p (rd_T67 l0 (kk : Int)) with
      | true =>
        rw [hq] at hcall
        have HQ := Aside0.mk hq
        clear hq
        go_wp2_with (go_at_fn gf; refine hcall.mono ?_; rintro e w' ⟨rfl, hb'⟩)
        go_ret
        exact ⟨by rw [idxP_hit p z67 l0 kk hlt HA.out (by rw [← HX.out]; exact HQ.out)]; rfl, hb'⟩
      | false =>
        rw [hq] at hcall
        have HQ := Aside0.mk hq
        clear hq
        go_wp2_with (go_at_fn gf; refine hcall.mono ?_; rintro e w' ⟨rfl, hb'⟩)
        go_roundg (l0.length - (kk + 1))
        case measure => omega
        case rel =>
          refine ⟨kk + 1, by omega, by omega, by go_num, ⟨hb'⟩, ⟨fun j hj => ?_⟩⟩
          by_cases e : j = kk
          · subst e; rw [← HX.out]; exact HQ.out
          · exact HA.out j (by omega)
    · have hltz : ¬ (kk : Int) < (l0.length : Int) := by omega
      have : kk = l0.length := by omega
      subst this
      clear hr0 hp
      go_wp2
      go_ret
      exact ⟨by rw [idxP_miss p z67 l0 HA.out]; rfl, BW.out⟩

/-! ### slices_Index_int64_int64: function 83 -/
def slices_Index_int64_int64.f (l0 : List Int) (a1 : Int) : Option Int := some (idxP (fun y => a1 == y) l0)
set_option maxHeartbeats 4000000 in
theorem slices_Index_int64_int64.calls (A0 : Option Addr) (c0 : Nat) (l0 : List Int) (a1 : Int) (r : Int) (w : World) (hr0 : Kd.C (Kd.int .i64) w A0 l0.length l0) (hc0 : l0.length ≤ c0) (h : slices_Index_int64_int64.f l0 a1 = some r) :
    Calls Try.prog 83 #[.slice A0 l0.length c0, .int .i64 a1] w fun e w' => e = .returned (.int .i64 r) ∧ Drawn0 w w' := by
  have H := Aside0.mk (Option.some.inj h)
  clear h hc0
  have hlen := Kd.C_max hr0
  go_enter Try.func83, Try.ntmps83
  go_wp2
  go_loopg [5, 8] l0.length (fun gg _ s8 wr => ∃ kk : Nat, kk ≤ l0.length ∧ l0.length - kk ≤ gg ∧ s8 = .int .i64 kk ∧ Aside0 (Drawn0 w wr) ∧ Aside0 (∀ j, j < kk → (a1 == (l0.getD j 0)) = false))
  case atStart => exact ⟨0, Nat.zero_le _, by omega, rfl, ⟨Drawn0.refl w⟩, ⟨fun j hj => absurd hj (Nat.not_lt_zero _)⟩⟩
  case round =>
    obtain ⟨kk, hkk, hg, rfl, BW, HA⟩ := hrel
    by_cases hlt : kk < l0.length
    · have hltz : (kk : Int) < (l0.length : Int) := by omega
      have hrd := Kd.C_below hr0 BW.out.below
      obtain ⟨ade, eA, hce_0⟩ := Kd.at_int hrd (kk : Int) (by omega) (by omega)
      subst eA
      have hx : rd l0 (kk : Int) = l0.getD kk 0 := rfl
      simp only [Int.toNat_natCast] at hce_0
      clear hr0 hrd
      have HX := Aside0.mk hx
      clear hx
      cases hq : (a1 == rd l0 (kk : Int)) with
      | true =>
        have HQ := Aside0.mk hq
        go_wp2
        go_ret
        exact ⟨by rw [← H.out, idxP_hit (fun y => a1 == y) 0 l0 kk hlt HA.out (by rw [← HX.out]; exact HQ.out)]; rfl, by repeat (first | exact BW.out | apply Drawn0.step)⟩
      | false =>
        have HQ := Aside0.mk hq
        go_wp2
        go_roundg (l0.length - (kk + 1))
        case measure => omega
        case rel =>
          refine ⟨kk + 1, by omega, by omega, by go_num, ⟨by repeat (first | exact BW.out | apply Drawn0.step)⟩, ⟨fun j hj => ?_⟩⟩
          by_cases e : j = kk
          · subst e; rw [← HX.out]; exact HQ.out
          · exact HA.out j (by omega)
    · have hltz : ¬ (kk : Int) < (l0.length : Int) := by omega
      have : kk = l0.length := by omega
      subst this
      clear hr0
      go_wp2
      go_ret
      exact ⟨by rw [← H.out, idxP_miss (fun y => a1 == y) 0 l0 HA.out]; rfl, by repeat (first | exact BW.out | apply Drawn0.step)⟩


/-! ### slices_Contains_int64_int64: function 73 -/
def slices_Contains_int64_int64.f (l0 : List Int) (a1 : Int) : Option Bool := some (l0.contains a1)
set_option maxHeartbeats 4000000 in
theorem slices_Contains_int64_int64.calls (A0 : Option Addr) (c0 : Nat) (l0 : List Int) (a1 : Int) (r : Bool) (w : World) (hr0 : Kd.C (Kd.int .i64) w A0 l0.length l0) (hc0 : l0.length ≤ c0) (h : slices_Contains_int64_int64.f l0 a1 = some r) :
    Calls Try.prog 73 #[.slice A0 l0.length c0, .int .i64 a1] w fun e w' => e = .returned (.bool r) ∧ Drawn0 w w' := by
  have H := Aside0.mk (Option.some.inj h)
  have hcon := fun W h => slices_Index_int64_int64.calls A0 c0 l0 a1 _ W h hc0 rfl
  have HE := Aside0.mk (idxP_contains l0 a1)
  generalize idxP (fun y => a1 == y) l0 = q at hcon HE
  have HC := Aside0.mk hcon
  have HR := Aside0.mk hr0
  clear h hc0 hcon hr0
  go_enter Try.func73, Try.ntmps73
  go_wp2_with (go_at_call 83; refine (HC.out _ HR.out).mono ?_; rintro e w' ⟨rfl, hb'⟩)
  go_ret
  exact ⟨by rw [← H.out, ← HE.out]; rfl, hb'⟩


/-! ### impl_has: function 50 -/
def impl_has.p (a1 : Int) (l2 : List Int) (x : S67) : Bool := x.f1 == a1 && l2.contains x.f0
set_option maxHeartbeats 4000000 in
theorem impl_has_1.calls (x : S67) (b1 b2 : Nat) (a1 : Int) (A2 : Option Addr) (c2 : Nat) (l2 : List Int) (w : World) (h1 : w.cell? ⟨b1, 0, none⟩ = some (.int .i64 a1)) (h2 : w.cell? ⟨b2, 0, none⟩ = some (.slice A2 l2.length c2)) (l1 : b1 < w.heap.size) (lb2 : b2 < w.heap.size)
    (hr2 : Kd.C (Kd.int .i64) w A2 l2.length l2) (hc2 : l2.length ≤ c2) :
    Calls Try.prog 72 #[.agg #[.int .i64 x.f0, .int .i64 x.f1, .int .i64 x.f2, .int .i64 x.f3], .pointer (some ⟨b1, 0, none⟩), .pointer (some ⟨b2, 0, none⟩)] w fun e w' => e = .returned (.bool (impl_has.p a1 l2 x)) ∧ Below w.heap.size w w' := by
  obtain ⟨x0, x1, x2, x3⟩ := x
  have hcon := fun W (h : Kd.C (Kd.int .i64) W A2 l2.length l2) => slices_Contains_int64_int64.calls A2 c2 l2 x0 _ W h hc2 rfl
  have HP := Aside0.mk (show impl_has.p a1 l2 ⟨x0, x1, x2, x3⟩ = (x1 == a1 && l2.contains x0) from rfl)
  generalize impl_has.p a1 l2 ⟨x0, x1, x2, x3⟩ = r at HP ⊢
  generalize l2.contains x0 = q at hcon HP
  have HR := Aside0.mk hr2
  clear hr2 hc2
  dsimp only
  by_cases hx : x1 = a1
  · subst hx
    have HC := Aside0.mk hcon
    clear hcon
    go_enter Try.func72, Try.ntmps72
    go_wp2_with (go_at_call 73; refine (HC.out _ ?side1).mono ?_; (case side1 => exact Kd.C_alloc HR.out _); rintro e w' ⟨rfl, hd⟩)
    go_ret
    refine ⟨by rw [HP.out]; simp, below_step (below_alloc (Below.refl _ _) _) hd.below⟩
  · have e1 : (x1 == a1) = false := beq_eq_false_iff_ne.2 hx
    clear hcon
    go_enter Try.func72, Try.ntmps72
    go_wp2_with fail
    go_ret
    exact ⟨by rw [HP.out]; simp [e1], below_alloc (Below.refl _ _) _⟩
def impl_has.f (l0 : List S67) (a1 : Int) (l2 : List Int) : Option Int := some (idxP (impl_has.p a1 l2) l0)
set_option maxHeartbeats 4000000 in
theorem impl_has.calls (A0 : Option Addr) (c0 : Nat) (l0 : List S67) (a1 : Int) (A2 : Option Addr) (c2 : Nat) (l2 : List Int) (r : Int) (w : World) (hr0 : Kd.C k67 w A0 l0.length l0) (hc0 : l0.length ≤ c0) (hr2 : Kd.C (Kd.int .i64) w A2 l2.length l2) (hc2 : l2.length ≤ c2) (h : impl_has.f l0 a1 l2 = some r) :
    Calls Try.prog 50 #[.slice A0 l0.length c0, .int .i64 a1, .slice A2 l2.length c2] w fun e w' => e = .returned (.int .i64 r) ∧ Below w.heap.size w w' := by
  obtain rfl := Option.some.inj h
  clear h
  have hb0 : Below w.heap.size w ((w.alloc (.cells #[.int .i64 a1] 2)).alloc (.cells #[.slice A2 l2.length c2] 46)) := below_alloc (below_alloc (Below.refl _ _) _) _
  have hcon := impl_Hop.calls A0 c0 l0 72 #[.pointer (some ⟨w.heap.size, 0, none⟩), .pointer (some ⟨w.heap.size + 1, 0, none⟩)] (impl_has.p a1 l2) ((w.alloc (.cells #[.int .i64 a1] 2)).alloc (.cells #[.slice A2 l2.length c2] 46)) (enters_of Try.func72 (by kernel_rfl) rfl) (Kd.C_below hr0 hb0)
    (fun W x hx hb => (impl_has_1.calls x _ _ a1 A2 c2 l2 W ((hb.cell (by first | (simp; omega) | simp)).trans (by simp)) ((hb.cell (by first | (simp; omega) | simp)).trans (by simp)) (Nat.lt_of_lt_of_le (by first | (simp; omega) | simp) hb.size) (Nat.lt_of_lt_of_le (by first | (simp; omega) | simp) hb.size) (Kd.C_below hr2 (below_step hb0 hb)) hc2).mono fun e w' h => ⟨h.1, below_step hb h.2⟩)
  generalize idxP (impl_has.p a1 l2) l0 = r at hcon ⊢
  have HC := Aside0.mk hcon
  have HB := Aside0.mk hb0
  clear hcon hb0 hr0 hc0 hr2 hc2
  go_enter Try.func50, Try.ntmps50
  go_wp2_with (go_at_call 71; refine HC.out.mono ?_; rintro e w' ⟨rfl, hd⟩)
  go_ret
  exact ⟨rfl, below_step HB.out hd⟩


/-! ### impl_within: function 51 -/
def impl_within.f (a0 a1 a2 : Int) : Option Bool := some (withinB a0 a1 a2)
theorem impl_within.calls (a0 a1 a2 : Int) (r : Bool) (w : World) (h : impl_within.f a0 a1 a2 = some r) : Calls Try.prog 51 #[.int .i64 a0, .int .i64 a1, .int .i64 a2] w fun e w' => e = .returned (.bool r) ∧ Drawn0 w w' := by
  have H := Aside0.mk (Option.some.inj h)
  clear h
  by_cases h1 : a1 ≤ a0
  · have h1b : decide (a1 ≤ a0) = true := decide_eq_true h1
    clear h1
    go_enter Try.func51, Try.ntmps51
    go_wp2
    go_ret
    exact ⟨by rw [← H.out]; simp [withinB, h1b], by repeat (first | exact Drawn0.refl _ | apply Drawn0.step)⟩
  · have h1b : decide (a1 ≤ a0) = false := decide_eq_false h1
    clear h1
    go_enter Try.func51, Try.ntmps51
    go_wp2
    go_ret
    exact ⟨by rw [← H.out]; simp [withinB, h1b], by repeat (first | exact Drawn0.refl _ | apply Drawn0.step)⟩


/-! ### impl_isKey: function 52 -/
def impl_isKey.f (a0 : Int) : Option Bool := some (withinB a0 0 31)
theorem impl_isKey.calls (a0 : Int) (r : Bool) (w : World) (h : impl_isKey.f a0 = some r) : Calls Try.prog 52 #[.int .i64 a0] w fun e w' => e = .returned (.bool r) ∧ Drawn0 w w' := by
  have h1 := fun W => impl_within.calls a0 0 31 r W h
  clear h
  have H1 := Aside0.mk h1
  clear h1
  go_enter Try.func52, Try.ntmps52
  go_wp2_with (go_at_call 51; refine (H1.out _).mono ?_; rintro e w' ⟨rfl, hd⟩)
  go_ret
  exact ⟨rfl, hd⟩


/-! ### impl_HistoryFault: function 20 -/
def hopCode (pre : List S67) (x : S67) : Int :=
  if (!withinB x.f0 1 5 || !withinB x.f1 2 999 || !withinB x.f2 0 31 || !withinB x.f3 0 999) = true then 3
  else if ((!(x.f0 == 2 || x.f0 == 3) && x.f2 != 0) || (x.f0 != 2 && x.f3 != 0)) = true then 1
  else if ((decide (0 ≤ idxP (impl_has.p x.f1 [1]) pre) == (x.f0 == 1)) || decide (0 ≤ idxP (impl_has.p x.f1 [4, 5]) pre)) = true then 10 else 0
def histGo : List S67 → List S67 → Int
  | _, [] => 0
  | pre, x :: xs => if hopCode pre x = 0 then histGo (pre ++ [x]) xs else hopCode pre x
def impl_HistoryFault.f (l0 : List S67) : Option Int := some (if 400 < l0.length then 2 else histGo [] l0)
theorem histGo_step (l : List S67) (k : Nat) (h : k < l.length) : histGo (l.take k) (l.drop k) = if hopCode (l.take k) (l.getD k z67) = 0 then histGo (l.take (k + 1)) (l.drop (k + 1)) else hopCode (l.take k) (l.getD k z67) := by
  rw [List.drop_eq_getElem_cons h, List.take_succ_eq_append_getElem h, List.getD_eq_getElem?_getD, List.getElem?_eq_getElem h]
  rfl
theorem has_cut (A0 : Option Addr) (c0 n : Nat) (l0 : List S67) (hn : n ≤ l0.length) (a1 : Int) (l2 : List Int) (hl2 : l2.length ≤ 5) (w : World) (hr0 : Kd.C k67 w A0 l0.length l0) (hc0 : l0.length ≤ c0) (b T : Nat) (W : World) (hb : Below w.heap.size w W) (hr2 : W.heap[b]? = some (.cells (l2.map (Value.int .i64)).toArray T (0, 0))) :
    Calls Try.prog 50 #[.slice A0 n c0, .int .i64 a1, .slice (some ⟨b, 0, none⟩) l2.length l2.length] W fun e w' => e = .returned (.int .i64 (idxP (impl_has.p a1 l2) (l0.take n))) ∧ Below W.heap.size W w' := by
  have hl : (l0.take n).length = n := by rw [List.length_take]; omega
  have h := impl_has.calls A0 c0 (l0.take n) a1 (some ⟨b, 0, none⟩) l2.length l2 _ W (Kd.C_below (Kd.C_take hr0 hn) hb) (by omega) (C_block hr2 (by omega)) (Nat.le_refl _) rfl
  rw [hl] at h
  exact h
theorem cells4 {w : World} {b T : Nat} {v0 v1 v2 v3 : Value} (h : w.heap[b]? = some (.cells #[v0, v1, v2, v3] T (0, 0))) : w.cell? ⟨b, 0, none⟩ = some v0 ∧ w.cell? ⟨b, 1, none⟩ = some v1 ∧ w.cell? ⟨b, 2, none⟩ = some v2 ∧ w.cell? ⟨b, 3, none⟩ = some v3 :=
  ⟨(blk_cell h 0).trans rfl, (blk_cell h 1).trans rfl, (blk_cell h 2).trans rfl, (blk_cell h 3).trans rfl⟩
set_option maxHeartbeats 8000000 in
set_option maxRecDepth 100000 in
theorem impl_HistoryFault.calls (A0 : Option Addr) (c0 : Nat) (l0 : List S67) (r : Int) (w : World) (hr0 : Kd.C k67 w A0 l0.length l0) (hc0 : l0.length ≤ c0) (h : impl_HistoryFault.f l0 = some r) :
    Calls Try.prog 20 #[.slice A0 l0.length c0] w fun e w' => e = .returned (.int .i64 r) ∧ Below w.heap.size w w' := by
  have HR := Aside0.mk (Option.some.inj h)
  clear h
  have hlen := Kd.C_max hr0
  by_cases hbig : 400 < l0.length
  · have hbz : (400 : Int) < (l0.length : Int) := by omega
    rw [if_pos hbig] at HR
    clear hr0 hc0
    go_enter Try.func20, Try.ntmps20
    go_wp2
    go_ret
    exact ⟨by rw [← HR.out]; rfl, Below.refl _ _⟩
  · have hbz : ¬ (400 : Int) < (l0.length : Int) := by omega
    rw [if_neg hbig] at HR
    have hH1 := fun a1 n hn => has_cut A0 c0 n l0 hn a1 [1] (by simp) w hr0 hc0
    have hH2 := fun a1 n hn => has_cut A0 c0 n l0 hn a1 [4, 5] (by simp) w hr0 hc0
    have HH1 := Aside0.mk hH1
    have HH2 := Aside0.mk hH2
    have HRR := Aside0.mk hr0
    clear hH1 hH2 hr0
    go_enter Try.func20, Try.ntmps20
    go_wp2
    go_loopg [2, 13] l0.length (fun gg s2 s13 wr => ∃ kk : Nat, kk ≤ l0.length ∧ l0.length - kk ≤ gg ∧ s2 = .int .i64 0 ∧ s13 = .int .i64 kk ∧ Aside0 (Below w.heap.size w wr) ∧ Aside0 (histGo (l0.take kk) (l0.drop kk) = r))
    case atStart => exact ⟨0, Nat.zero_le _, by omega, rfl, rfl, ⟨Below.refl _ w⟩, ⟨by simpa using HR.out⟩⟩
    case round =>
      obtain ⟨kk, hkk, hg, rfl, rfl, BW, HA⟩ := hrel
      by_cases hlt : kk < l0.length
      · have hltz : (kk : Int) < (l0.length : Int) := by omega
        have hrd := Kd.C_below HRR.out BW.out
        obtain ⟨ad, eA, hd0, hd1, hd2, hd3⟩ := at_T67 hrd (kk : Int) (by omega) (by omega)
        have hx : rd_T67 l0 (kk : Int) = l0.getD kk z67 := rfl
        simp only [Int.toNat_natCast] at hd0 hd1 hd2 hd3
        have HS := Aside0.mk (histGo_step l0 kk hlt)
        rw [← hx] at HS
        generalize rd_T67 l0 (kk : Int) = x at *
        obtain ⟨x0, x1, x2, x3⟩ := x
        clear hx hrd
        have HE := Aside0.mk eA
        subst eA
        dsimp only at hd0 hd1 hd2 hd3
        have hC : hopCode (l0.take kk) ⟨x0, x1, x2, x3⟩ = (if (!withinB x0 1 5 || !withinB x1 2 999 || !withinB x2 0 31 || !withinB x3 0 999) = true then 3
            else if ((!(x0 == 2 || x0 == 3) && x2 != 0) || (x0 != 2 && x3 != 0)) = true then 1
            else if ((decide (0 ≤ idxP (impl_has.p x1 [1]) (l0.take kk)) == (x0 == 1)) || decide (0 ≤ idxP (impl_has.p x1 [4, 5]) (l0.take kk))) = true then 10 else 0) := rfl
        rw [HA.out] at HS
        generalize hopCode (l0.take kk) ⟨x0, x1, x2, x3⟩ = c at HS hC
        have hG1 := HH1.out x1 kk (by omega)
        have hG2 := HH2.out x1 kk (by omega)
        generalize idxP (impl_has.p x1 [1]) (l0.take kk) = q1 at hG1 hC
        generalize idxP (impl_has.p x1 [4, 5]) (l0.take kk) = q2 at hG2 hC
        have hW1 := fun W => impl_within.calls x0 1 5 _ W rfl
        have hW2 := fun W => impl_within.calls x1 2 999 _ W rfl
        have hW3 := fun W => impl_isKey.calls x2 _ W rfl
        have hW4 := fun W => impl_within.calls x3 0 999 _ W rfl
        generalize withinB x0 1 5 = b1 at hW1 hC
        generalize withinB x1 2 999 = b2 at hW2 hC
        generalize withinB x2 0 31 = b3 at hW3 hC
        generalize withinB x3 0 999 = b4 at hW4 hC
        have HC := Aside0.mk hC
        have G1 := Aside0.mk hG1
        have G2 := Aside0.mk hG2
        have W1 := Aside0.mk hW1
        have W2 := Aside0.mk hW2
        have W3 := Aside0.mk hW3
        have W4 := Aside0.mk hW4
        clear hC hG1 hG2 hW1 hW2 hW3 hW4 HH1 HH2
        go_upto_region 6 with fail
        go_cut [5, 6] (fun s5 s6 wx => s5 = .bool (x0 == 2 || x0 == 3) ∧ s6 = .slice (some ad) kk c0 ∧ Aside0 (Below wr.heap.size wr wx) ∧ Aside0 (wx.heap[wr.heap.size]? = some (.cells #[.int .i64 x0, .int .i64 x1, .int .i64 x2, .int .i64 x3] 67 (0, 0))))
        case first =>
          have hk0 : (0 : Int) ≤ (kk : Int) := by omega
          have hk1 : (kk : Int) ≤ (l0.length : Int) := by omega
          have hk2 : (kk : Int) ≤ (c0 : Int) := by omega
          by_cases e2 : x0 = 2
          · have e2b : (x0 == 2) = true := by simp [e2]
            clear e2
            go_quiet (fail)
            go_wp2
            go_meet
            exact ⟨by simp [e2b], rfl, ⟨pw_below_drewN (below_alloc (Below.refl _ _) _) _⟩, ⟨heap_alloc_new wr _⟩⟩
          · have e2b : (x0 == 2) = false := by simp [e2]
            clear e2
            go_quiet (fail)
            go_wp2
            go_meet
            exact ⟨by simp [e2b], rfl, ⟨pw_below_drewN (below_alloc (Below.refl _ _) _) _⟩, ⟨heap_alloc_new wr _⟩⟩
        case rest =>
          obtain ⟨rfl, rfl, CB, CX⟩ := hcut
          generalize (x0 == 2 || x0 == 3) = tt at HC ⊢
          obtain ⟨hx0, hx1, hx2, hx3⟩ := cells4 CX.out
          clear hd0 hd1 hd2 hd3
          go_upto_region 8 with (go_at_call 50; refine (G1.out _ 2 _ ?s1 ?s2).mono ?_; (case s1 => exact below_alloc (below_step BW.out CB.out) _); (case s2 => exact heap_alloc_new _ _); rintro e w1 ⟨rfl, hb1⟩)
          have hB1 := below_step (below_alloc (below_step BW.out CB.out) _) hb1
          have hX1 := blk_below (blk_alloc CX.out _) hb1
          have B1 := Aside0.mk hB1
          have X1 := Aside0.mk hX1
          clear hx0 hx1 hx2 hx3 hB1 hX1 hb1 CB CX
          obtain ⟨hx0, hx1, hx2, hx3⟩ := cells4 X1.out
          cases b1 with
          | false =>
            have hc : c = 3 := by rw [HC.out]; rfl
            have HK := Aside0.mk hc
            clear hc
            go_wp2_with (first | (go_at_call 51; (with_reducible refine (W1.out _).mono ?_); rintro e w2 ⟨rfl, ⟨n2, rfl⟩⟩) | (go_at_call 51; (with_reducible refine (W2.out _).mono ?_); rintro e w2 ⟨rfl, ⟨n2, rfl⟩⟩) | (go_at_call 52; (with_reducible refine (W3.out _).mono ?_); rintro e w2 ⟨rfl, ⟨n2, rfl⟩⟩) | (go_at_call 51; (with_reducible refine (W4.out _).mono ?_); rintro e w2 ⟨rfl, ⟨n2, rfl⟩⟩) | (go_at_call 50; refine (G2.out _ 2 _ ?s1 ?s2).mono ?_; (case s1 => exact below_alloc (by repeat (first | exact B1.out | apply pw_below_drewN)) _); (case s2 => exact heap_alloc_new _ _); rintro e w3 ⟨rfl, hb3⟩))
            go_ret
            exact ⟨by rw [HS.out, HK.out]; rfl, (by repeat (first | exact B1.out | apply pw_below_drewN))⟩
          | true =>
          cases b2 with
          | false =>
            have hc : c = 3 := by rw [HC.out]; rfl
            have HK := Aside0.mk hc
            clear hc
            go_wp2_with (first | (go_at_call 51; (with_reducible refine (W1.out _).mono ?_); rintro e w2 ⟨rfl, ⟨n2, rfl⟩⟩) | (go_at_call 51; (with_reducible refine (W2.out _).mono ?_); rintro e w2 ⟨rfl, ⟨n2, rfl⟩⟩) | (go_at_call 52; (with_reducible refine (W3.out _).mono ?_); rintro e w2 ⟨rfl, ⟨n2, rfl⟩⟩) | (go_at_call 51; (with_reducible refine (W4.out _).mono ?_); rintro e w2 ⟨rfl, ⟨n2, rfl⟩⟩) | (go_at_call 50; refine (G2.out _ 2 _ ?s1 ?s2).mono ?_; (case s1 => exact below_alloc (by repeat (first | exact B1.out | apply pw_below_drewN)) _); (case s2 => exact heap_alloc_new _ _); rintro e w3 ⟨rfl, hb3⟩))
            go_ret
            exact ⟨by rw [HS.out, HK.out]; rfl, (by repeat (first | exact B1.out | apply pw_below_drewN))⟩
          | true =>
          cases b3 with
          | false =>
            have hc : c = 3 := by rw [HC.out]; rfl
            have HK := Aside0.mk hc
            clear hc
            go_wp2_with (first | (go_at_call 51; (with_reducible refine (W1.out _).mono ?_); rintro e w2 ⟨rfl, ⟨n2, rfl⟩⟩) | (go_at_call 51; (with_reducible refine (W2.out _).mono ?_); rintro e w2 ⟨rfl, ⟨n2, rfl⟩⟩) | (go_at_call 52; (with_reducible refine (W3.out _).mono ?_); rintro e w2 ⟨rfl, ⟨n2, rfl⟩⟩) | (go_at_call 51; (with_reducible refine (W4.out _).mono ?_); rintro e w2 ⟨rfl, ⟨n2, rfl⟩⟩) | (go_at_call 50; refine (G2.out _ 2 _ ?s1 ?s2).mono ?_; (case s1 => exact below_alloc (by repeat (first | exact B1.out | apply pw_below_drewN)) _); (case s2 => exact heap_alloc_new _ _); rintro e w3 ⟨rfl, hb3⟩))
            go_ret
            exact ⟨by rw [HS.out, HK.out]; rfl, (by repeat (first | exact B1.out | apply pw_below_drewN))⟩
          | true =>
          cases b4 with
          | false =>
            have hc : c = 3 := by rw [HC.out]; rfl
            have HK := Aside0.mk hc
            clear hc
            go_wp2_with (first | (go_at_call 51; (with_reducible refine (W1.out _).mono ?_); rintro e w2 ⟨rfl, ⟨n2, rfl⟩⟩) | (go_at_call 51; (with_reducible refine (W2.out _).mono ?_); rintro e w2 ⟨rfl, ⟨n2, rfl⟩⟩) | (go_at_call 52; (with_reducible refine (W3.out _).mono ?_); rintro e w2 ⟨rfl, ⟨n2, rfl⟩⟩) | (go_at_call 51; (with_reducible refine (W4.out _).mono ?_); rintro e w2 ⟨rfl, ⟨n2, rfl⟩⟩) | (go_at_call 50; refine (G2.out _ 2 _ ?s1 ?s2).mono ?_; (case s1 => exact below_alloc (by repeat (first | exact B1.out | apply pw_below_drewN)) _); (case s2 => exact heap_alloc_new _ _); rintro e w3 ⟨rfl, hb3⟩))
            go_ret
            exact ⟨by rw [HS.out, HK.out]; rfl, (by repeat (first | exact B1.out | apply pw_below_drewN))⟩
          | true =>
          generalize decide (0 ≤ q1) = bg at HC ⊢
          cases tt with
          | true =>
            cases z02 : (x0 != 2) with
            | false =>
              cases z1 : (x0 == 1) with
              | false =>
                cases bg with
                | false =>
                  have hc : c = 10 := by rw [HC.out]; simp [z02, z1]
                  have HK := Aside0.mk hc
                  clear hc
                  go_wp2_with (first | (go_at_call 51; (with_reducible refine (W1.out _).mono ?_); rintro e w2 ⟨rfl, ⟨n2, rfl⟩⟩) | (go_at_call 51; (with_reducible refine (W2.out _).mono ?_); rintro e w2 ⟨rfl, ⟨n2, rfl⟩⟩) | (go_at_call 52; (with_reducible refine (W3.out _).mono ?_); rintro e w2 ⟨rfl, ⟨n2, rfl⟩⟩) | (go_at_call 51; (with_reducible refine (W4.out _).mono ?_); rintro e w2 ⟨rfl, ⟨n2, rfl⟩⟩) | (go_at_call 50; refine (G2.out _ 2 _ ?s1 ?s2).mono ?_; (case s1 => exact below_alloc (by repeat (first | exact B1.out | apply pw_below_drewN)) _); (case s2 => exact heap_alloc_new _ _); rintro e w3 ⟨rfl, hb3⟩))
                  go_ret
                  exact ⟨by rw [HS.out, HK.out]; rfl, (by repeat (first | exact B1.out | apply pw_below_drewN))⟩
                | true =>
                  cases zq : (decide (0 ≤ q2)) with
                  | true =>
                    have hc : c = 10 := by rw [HC.out]; simp [z02, z1, zq]
                    have HK := Aside0.mk hc
                    clear hc
                    go_wp2_with (first | (go_at_call 51; (with_reducible refine (W1.out _).mono ?_); rintro e w2 ⟨rfl, ⟨n2, rfl⟩⟩) | (go_at_call 51; (with_reducible refine (W2.out _).mono ?_); rintro e w2 ⟨rfl, ⟨n2, rfl⟩⟩) | (go_at_call 52; (with_reducible refine (W3.out _).mono ?_); rintro e w2 ⟨rfl, ⟨n2, rfl⟩⟩) | (go_at_call 51; (with_reducible refine (W4.out _).mono ?_); rintro e w2 ⟨rfl, ⟨n2, rfl⟩⟩) | (go_at_call 50; refine (G2.out _ 2 _ ?s1 ?s2).mono ?_; (case s1 => exact below_alloc (by repeat (first | exact B1.out | apply pw_below_drewN)) _); (case s2 => exact heap_alloc_new _ _); rintro e w3 ⟨rfl, hb3⟩))
                    go_ret
                    exact ⟨by rw [HS.out, HK.out]; rfl, below_step (below_alloc (by repeat (first | exact B1.out | apply pw_below_drewN)) _) hb3⟩
                  | false =>
                    have hc : c = 0 := by rw [HC.out]; simp [z02, z1, zq]
                    have HK := Aside0.mk hc
                    clear hc
                    go_wp2_with (first | (go_at_call 51; (with_reducible refine (W1.out _).mono ?_); rintro e w2 ⟨rfl, ⟨n2, rfl⟩⟩) | (go_at_call 51; (with_reducible refine (W2.out _).mono ?_); rintro e w2 ⟨rfl, ⟨n2, rfl⟩⟩) | (go_at_call 52; (with_reducible refine (W3.out _).mono ?_); rintro e w2 ⟨rfl, ⟨n2, rfl⟩⟩) | (go_at_call 51; (with_reducible refine (W4.out _).mono ?_); rintro e w2 ⟨rfl, ⟨n2, rfl⟩⟩) | (go_at_call 50; refine (G2.out _ 2 _ ?s1 ?s2).mono ?_; (case s1 => exact below_alloc (by repeat (first | exact B1.out | apply pw_below_drewN)) _); (case s2 => exact heap_alloc_new _ _); rintro e w3 ⟨rfl, hb3⟩))
                    go_roundg (l0.length - (kk + 1))
                    case measure => omega
                    case rel => exact ⟨kk + 1, by omega, by omega, rfl, by go_num, ⟨below_step (below_alloc (by repeat (first | exact B1.out | apply pw_below_drewN)) _) hb3⟩, ⟨by have h_ := HS.out; rw [HK.out, if_pos rfl] at h_; exact h_.symm⟩⟩
              | true =>
                cases bg with
                | false =>
                  cases zq : (decide (0 ≤ q2)) with
                  | true =>
                    have hc : c = 10 := by rw [HC.out]; simp [z02, z1, zq]
                    have HK := Aside0.mk hc
                    clear hc
                    go_wp2_with (first | (go_at_call 51; (with_reducible refine (W1.out _).mono ?_); rintro e w2 ⟨rfl, ⟨n2, rfl⟩⟩) | (go_at_call 51; (with_reducible refine (W2.out _).mono ?_); rintro e w2 ⟨rfl, ⟨n2, rfl⟩⟩) | (go_at_call 52; (with_reducible refine (W3.out _).mono ?_); rintro e w2 ⟨rfl, ⟨n2, rfl⟩⟩) | (go_at_call 51; (with_reducible refine (W4.out _).mono ?_); rintro e w2 ⟨rfl, ⟨n2, rfl⟩⟩) | (go_at_call 50; refine (G2.out _ 2 _ ?s1 ?s2).mono ?_; (case s1 => exact below_alloc (by repeat (first | exact B1.out | apply pw_below_drewN)) _); (case s2 => exact heap_alloc_new _ _); rintro e w3 ⟨rfl, hb3⟩))
                    go_ret
                    exact ⟨by rw [HS.out, HK.out]; rfl, below_step (below_alloc (by repeat (first | exact B1.out | apply pw_below_drewN)) _) hb3⟩
                  | false =>
                    have hc : c = 0 := by rw [HC.out]; simp [z02, z1, zq]
                    have HK := Aside0.mk hc
                    clear hc
                    go_wp2_with (first | (go_at_call 51; (with_reducible refine (W1.out _).mono ?_); rintro e w2 ⟨rfl, ⟨n2, rfl⟩⟩) | (go_at_call 51; (with_reducible refine (W2.out _).mono ?_); rintro e w2 ⟨rfl, ⟨n2, rfl⟩⟩) | (go_at_call 52; (with_reducible refine (W3.out _).mono ?_); rintro e w2 ⟨rfl, ⟨n2, rfl⟩⟩) | (go_at_call 51; (with_reducible refine (W4.out _).mono ?_); rintro e w2 ⟨rfl, ⟨n2, rfl⟩⟩) | (go_at_call 50; refine (G2.out _ 2 _ ?s1 ?s2).mono ?_; (case s1 => exact below_alloc (by repeat (first | exact B1.out | apply pw_below_drewN)) _); (case s2 => exact heap_alloc_new _ _); rintro e w3 ⟨rfl, hb3⟩))
                    go_roundg (l0.length - (kk + 1))
                    case measure => omega
                    case rel => exact ⟨kk + 1, by omega, by omega, rfl, by go_num, ⟨below_step (below_alloc (by repeat (first | exact B1.out | apply pw_below_drewN)) _) hb3⟩, ⟨by have h_ := HS.out; rw [HK.out, if_pos rfl] at h_; exact h_.symm⟩⟩
                | true =>
                  have hc : c = 10 := by rw [HC.out]; simp [z02, z1]
                  have HK := Aside0.mk hc
                  clear hc
                  go_wp2_with (first | (go_at_call 51; (with_reducible refine (W1.out _).mono ?_); rintro e w2 ⟨rfl, ⟨n2, rfl⟩⟩) | (go_at_call 51; (with_reducible refine (W2.out _).mono ?_); rintro e w2 ⟨rfl, ⟨n2, rfl⟩⟩) | (go_at_call 52; (with_reducible refine (W3.out _).mono ?_); rintro e w2 ⟨rfl, ⟨n2, rfl⟩⟩) | (go_at_call 51; (with_reducible refine (W4.out _).mono ?_); rintro e w2 ⟨rfl, ⟨n2, rfl⟩⟩) | (go_at_call 50; refine (G2.out _ 2 _ ?s1 ?s2).mono ?_; (case s1 => exact below_alloc (by repeat (first | exact B1.out | apply pw_below_drewN)) _); (case s2 => exact heap_alloc_new _ _); rintro e w3 ⟨rfl, hb3⟩))
                  go_ret
                  exact ⟨by rw [HS.out, HK.out]; rfl, (by repeat (first | exact B1.out | apply pw_below_drewN))⟩
            | true =>
              cases z3 : (x3 != 0) with
              | true =>
                have hc : c = 1 := by rw [HC.out]; simp [z02, z3]
                have HK := Aside0.mk hc
                clear hc
                go_wp2_with (first | (go_at_call 51; (with_reducible refine (W1.out _).mono ?_); rintro e w2 ⟨rfl, ⟨n2, rfl⟩⟩) | (go_at_call 51; (with_reducible refine (W2.out _).mono ?_); rintro e w2 ⟨rfl, ⟨n2, rfl⟩⟩) | (go_at_call 52; (with_reducible refine (W3.out _).mono ?_); rintro e w2 ⟨rfl, ⟨n2, rfl⟩⟩) | (go_at_call 51; (with_reducible refine (W4.out _).mono ?_); rintro e w2 ⟨rfl, ⟨n2, rfl⟩⟩) | (go_at_call 50; refine (G2.out _ 2 _ ?s1 ?s2).mono ?_; (case s1 => exact below_alloc (by repeat (first | exact B1.out | apply pw_below_drewN)) _); (case s2 => exact heap_alloc_new _ _); rintro e w3 ⟨rfl, hb3⟩))
                go_ret
                exact ⟨by rw [HS.out, HK.out]; rfl, (by repeat (first | exact B1.out | apply pw_below_drewN))⟩
              | false =>
                cases z1 : (x0 == 1) with
                | false =>
                  cases bg with
                  | false =>
                    have hc : c = 10 := by rw [HC.out]; simp [z02, z3, z1]
                    have HK := Aside0.mk hc
                    clear hc
                    go_wp2_with (first | (go_at_call 51; (with_reducible refine (W1.out _).mono ?_); rintro e w2 ⟨rfl, ⟨n2, rfl⟩⟩) | (go_at_call 51; (with_reducible refine (W2.out _).mono ?_); rintro e w2 ⟨rfl, ⟨n2, rfl⟩⟩) | (go_at_call 52; (with_reducible refine (W3.out _).mono ?_); rintro e w2 ⟨rfl, ⟨n2, rfl⟩⟩) | (go_at_call 51; (with_reducible refine (W4.out _).mono ?_); rintro e w2 ⟨rfl, ⟨n2, rfl⟩⟩) | (go_at_call 50; refine (G2.out _ 2 _ ?s1 ?s2).mono ?_; (case s1 => exact below_alloc (by repeat (first | exact B1.out | apply pw_below_drewN)) _); (case s2 => exact heap_alloc_new _ _); rintro e w3 ⟨rfl, hb3⟩))
                    go_ret
                    exact ⟨by rw [HS.out, HK.out]; rfl, (by repeat (first | exact B1.out | apply pw_below_drewN))⟩
                  | true =>
                    cases zq : (decide (0 ≤ q2)) with
                    | true =>
                      have hc : c = 10 := by rw [HC.out]; simp [z02, z3, z1, zq]
                      have HK := Aside0.mk hc
                      clear hc
                      go_wp2_with (first | (go_at_call 51; (with_reducible refine (W1.out _).mono ?_); rintro e w2 ⟨rfl, ⟨n2, rfl⟩⟩) | (go_at_call 51; (with_reducible refine (W2.out _).mono ?_); rintro e w2 ⟨rfl, ⟨n2, rfl⟩⟩) | (go_at_call 52; (with_reducible refine (W3.out _).mono ?_); rintro e w2 ⟨rfl, ⟨n2, rfl⟩⟩) | (go_at_call 51; (with_reducible refine (W4.out _).mono ?_); rintro e w2 ⟨rfl, ⟨n2, rfl⟩⟩) | (go_at_call 50; refine (G2.out _ 2 _ ?s1 ?s2).mono ?_; (case s1 => exact below_alloc (by repeat (first | exact B1.out | apply pw_below_drewN)) _); (case s2 => exact heap_alloc_new _ _); rintro e w3 ⟨rfl, hb3⟩))
                      go_ret
                      exact ⟨by rw [HS.out, HK.out]; rfl, below_step (below_alloc (by repeat (first | exact B1.out | apply pw_below_drewN)) _) hb3⟩
                    | false =>
                      have hc : c = 0 := by rw [HC.out]; simp [z02, z3, z1, zq]
                      have HK := Aside0.mk hc
                      clear hc
                      go_wp2_with (first | (go_at_call 51; (with_reducible refine (W1.out _).mono ?_); rintro e w2 ⟨rfl, ⟨n2, rfl⟩⟩) | (go_at_call 51; (with_reducible refine (W2.out _).mono ?_); rintro e w2 ⟨rfl, ⟨n2, rfl⟩⟩) | (go_at_call 52; (with_reducible refine (W3.out _).mono ?_); rintro e w2 ⟨rfl, ⟨n2, rfl⟩⟩) | (go_at_call 51; (with_reducible refine (W4.out _).mono ?_); rintro e w2 ⟨rfl, ⟨n2, rfl⟩⟩) | (go_at_call 50; refine (G2.out _ 2 _ ?s1 ?s2).mono ?_; (case s1 => exact below_alloc (by repeat (first | exact B1.out | apply pw_below_drewN)) _); (case s2 => exact heap_alloc_new _ _); rintro e w3 ⟨rfl, hb3⟩))
                      go_roundg (l0.length - (kk + 1))
                      case measure => omega
                      case rel => exact ⟨kk + 1, by omega, by omega, rfl, by go_num, ⟨below_step (below_alloc (by repeat (first | exact B1.out | apply pw_below_drewN)) _) hb3⟩, ⟨by have h_ := HS.out; rw [HK.out, if_pos rfl] at h_; exact h_.symm⟩⟩
                | true =>
                  cases bg with
                  | false =>
                    cases zq : (decide (0 ≤ q2)) with
                    | true =>
                      have hc : c = 10 := by rw [HC.out]; simp [z02, z3, z1, zq]
                      have HK := Aside0.mk hc
                      clear hc
                      go_wp2_with (first | (go_at_call 51; (with_reducible refine (W1.out _).mono ?_); rintro e w2 ⟨rfl, ⟨n2, rfl⟩⟩) | (go_at_call 51; (with_reducible refine (W2.out _).mono ?_); rintro e w2 ⟨rfl, ⟨n2, rfl⟩⟩) | (go_at_call 52; (with_reducible refine (W3.out _).mono ?_); rintro e w2 ⟨rfl, ⟨n2, rfl⟩⟩) | (go_at_call 51; (with_reducible refine (W4.out _).mono ?_); rintro e w2 ⟨rfl, ⟨n2, rfl⟩⟩) | (go_at_call 50; refine (G2.out _ 2 _ ?s1 ?s2).mono ?_; (case s1 => exact below_alloc (by repeat (first | exact B1.out | apply pw_below_drewN)) _); (case s2 => exact heap_alloc_new _ _); rintro e w3 ⟨rfl, hb3⟩))
                      go_ret
                      exact ⟨by rw [HS.out, HK.out]; rfl, below_step (below_alloc (by repeat (first | exact B1.out | apply pw_below_drewN)) _) hb3⟩
                    | false =>
                      have hc : c = 0 := by rw [HC.out]; simp [z02, z3, z1, zq]
                      have HK := Aside0.mk hc
                      clear hc
                      go_wp2_with (first | (go_at_call 51; (with_reducible refine (W1.out _).mono ?_); rintro e w2 ⟨rfl, ⟨n2, rfl⟩⟩) | (go_at_call 51; (with_reducible refine (W2.out _).mono ?_); rintro e w2 ⟨rfl, ⟨n2, rfl⟩⟩) | (go_at_call 52; (with_reducible refine (W3.out _).mono ?_); rintro e w2 ⟨rfl, ⟨n2, rfl⟩⟩) | (go_at_call 51; (with_reducible refine (W4.out _).mono ?_); rintro e w2 ⟨rfl, ⟨n2, rfl⟩⟩) | (go_at_call 50; refine (G2.out _ 2 _ ?s1 ?s2).mono ?_; (case s1 => exact below_alloc (by repeat (first | exact B1.out | apply pw_below_drewN)) _); (case s2 => exact heap_alloc_new _ _); rintro e w3 ⟨rfl, hb3⟩))
                      go_roundg (l0.length - (kk + 1))
                      case measure => omega
                      case rel => exact ⟨kk + 1, by omega, by omega, rfl, by go_num, ⟨below_step (below_alloc (by repeat (first | exact B1.out | apply pw_below_drewN)) _) hb3⟩, ⟨by have h_ := HS.out; rw [HK.out, if_pos rfl] at h_; exact h_.symm⟩⟩
                  | true =>
                    have hc : c = 10 := by rw [HC.out]; simp [z02, z3, z1]
                    have HK := Aside0.mk hc
                    clear hc
                    go_wp2_with (first | (go_at_call 51; (with_reducible refine (W1.out _).mono ?_); rintro e w2 ⟨rfl, ⟨n2, rfl⟩⟩) | (go_at_call 51; (with_reducible refine (W2.out _).mono ?_); rintro e w2 ⟨rfl, ⟨n2, rfl⟩⟩) | (go_at_call 52; (with_reducible refine (W3.out _).mono ?_); rintro e w2 ⟨rfl, ⟨n2, rfl⟩⟩) | (go_at_call 51; (with_reducible refine (W4.out _).mono ?_); rintro e w2 ⟨rfl, ⟨n2, rfl⟩⟩) | (go_at_call 50; refine (G2.out _ 2 _ ?s1 ?s2).mono ?_; (case s1 => exact below_alloc (by repeat (first | exact B1.out | apply pw_below_drewN)) _); (case s2 => exact heap_alloc_new _ _); rintro e w3 ⟨rfl, hb3⟩))
                    go_ret
                    exact ⟨by rw [HS.out, HK.out]; rfl, (by repeat (first | exact B1.out | apply pw_below_drewN))⟩
          | false =>
            cases z2 : (x2 != 0) with
            | true =>
              have hc : c = 1 := by rw [HC.out]; simp [z2]
              have HK := Aside0.mk hc
              clear hc
              go_wp2_with (first | (go_at_call 51; (with_reducible refine (W1.out _).mono ?_); rintro e w2 ⟨rfl, ⟨n2, rfl⟩⟩) | (go_at_call 51; (with_reducible refine (W2.out _).mono ?_); rintro e w2 ⟨rfl, ⟨n2, rfl⟩⟩) | (go_at_call 52; (with_reducible refine (W3.out _).mono ?_); rintro e w2 ⟨rfl, ⟨n2, rfl⟩⟩) | (go_at_call 51; (with_reducible refine (W4.out _).mono ?_); rintro e w2 ⟨rfl, ⟨n2, rfl⟩⟩) | (go_at_call 50; refine (G2.out _ 2 _ ?s1 ?s2).mono ?_; (case s1 => exact below_alloc (by repeat (first | exact B1.out | apply pw_below_drewN)) _); (case s2 => exact heap_alloc_new _ _); rintro e w3 ⟨rfl, hb3⟩))
              go_ret
              exact ⟨by rw [HS.out, HK.out]; rfl, (by repeat (first | exact B1.out | apply pw_below_drewN))⟩
            | false =>
              cases z02 : (x0 != 2) with
              | false =>
                cases z1 : (x0 == 1) with
                | false =>
                  cases bg with
                  | false =>
                    have hc : c = 10 := by rw [HC.out]; simp [z2, z02, z1]
                    have HK := Aside0.mk hc
                    clear hc
                    go_wp2_with (first | (go_at_call 51; (with_reducible refine (W1.out _).mono ?_); rintro e w2 ⟨rfl, ⟨n2, rfl⟩⟩) | (go_at_call 51; (with_reducible refine (W2.out _).mono ?_); rintro e w2 ⟨rfl, ⟨n2, rfl⟩⟩) | (go_at_call 52; (with_reducible refine (W3.out _).mono ?_); rintro e w2 ⟨rfl, ⟨n2, rfl⟩⟩) | (go_at_call 51; (with_reducible refine (W4.out _).mono ?_); rintro e w2 ⟨rfl, ⟨n2, rfl⟩⟩) | (go_at_call 50; refine (G2.out _ 2 _ ?s1 ?s2).mono ?_; (case s1 => exact below_alloc (by repeat (first | exact B1.out | apply pw_below_drewN)) _); (case s2 => exact heap_alloc_new _ _); rintro e w3 ⟨rfl, hb3⟩))
                    go_ret
                    exact ⟨by rw [HS.out, HK.out]; rfl, (by repeat (first | exact B1.out | apply pw_below_drewN))⟩
                  | true =>
                    cases zq : (decide (0 ≤ q2)) with
                    | true =>
                      have hc : c = 10 := by rw [HC.out]; simp [z2, z02, z1, zq]
                      have HK := Aside0.mk hc
                      clear hc
                      go_wp2_with (first | (go_at_call 51; (with_reducible refine (W1.out _).mono ?_); rintro e w2 ⟨rfl, ⟨n2, rfl⟩⟩) | (go_at_call 51; (with_reducible refine (W2.out _).mono ?_); rintro e w2 ⟨rfl, ⟨n2, rfl⟩⟩) | (go_at_call 52; (with_reducible refine (W3.out _).mono ?_); rintro e w2 ⟨rfl, ⟨n2, rfl⟩⟩) | (go_at_call 51; (with_reducible refine (W4.out _).mono ?_); rintro e w2 ⟨rfl, ⟨n2, rfl⟩⟩) | (go_at_call 50; refine (G2.out _ 2 _ ?s1 ?s2).mono ?_; (case s1 => exact below_alloc (by repeat (first | exact B1.out | apply pw_below_drewN)) _); (case s2 => exact heap_alloc_new _ _); rintro e w3 ⟨rfl, hb3⟩))
                      go_ret
                      exact ⟨by rw [HS.out, HK.out]; rfl, below_step (below_alloc (by repeat (first | exact B1.out | apply pw_below_drewN)) _) hb3⟩
                    | false =>
                      have hc : c = 0 := by rw [HC.out]; simp [z2, z02, z1, zq]
                      have HK := Aside0.mk hc
                      clear hc
                      go_wp2_with (first | (go_at_call 51; (with_reducible refine (W1.out _).mono ?_); rintro e w2 ⟨rfl, ⟨n2, rfl⟩⟩) | (go_at_call 51; (with_reducible refine (W2.out _).mono ?_); rintro e w2 ⟨rfl, ⟨n2, rfl⟩⟩) | (go_at_call 52; (with_reducible refine (W3.out _).mono ?_); rintro e w2 ⟨rfl, ⟨n2, rfl⟩⟩) | (go_at_call 51; (with_reducible refine (W4.out _).mono ?_); rintro e w2 ⟨rfl, ⟨n2, rfl⟩⟩) | (go_at_call 50; refine (G2.out _ 2 _ ?s1 ?s2).mono ?_; (case s1 => exact below_alloc (by repeat (first | exact B1.out | apply pw_below_drewN)) _); (case s2 => exact heap_alloc_new _ _); rintro e w3 ⟨rfl, hb3⟩))
                      go_roundg (l0.length - (kk + 1))
                      case measure => omega
                      case rel => exact ⟨kk + 1, by omega, by omega, rfl, by go_num, ⟨below_step (below_alloc (by repeat (first | exact B1.out | apply pw_below_drewN)) _) hb3⟩, ⟨by have h_ := HS.out; rw [HK.out, if_pos rfl] at h_; exact h_.symm⟩⟩
                | true =>
                  cases bg with
                  | false =>
                    cases zq : (decide (0 ≤ q2)) with
                    | true =>
                      have hc : c = 10 := by rw [HC.out]; simp [z2, z02, z1, zq]
                      have HK := Aside0.mk hc
                      clear hc
                      go_wp2_with (first | (go_at_call 51; (with_reducible refine (W1.out _).mono ?_); rintro e w2 ⟨rfl, ⟨n2, rfl⟩⟩) | (go_at_call 51; (with_reducible refine (W2.out _).mono ?_); rintro e w2 ⟨rfl, ⟨n2, rfl⟩⟩) | (go_at_call 52; (with_reducible refine (W3.out _).mono ?_); rintro e w2 ⟨rfl, ⟨n2, rfl⟩⟩) | (go_at_call 51; (with_reducible refine (W4.out _).mono ?_); rintro e w2 ⟨rfl, ⟨n2, rfl⟩⟩) | (go_at_call 50; refine (G2.out _ 2 _ ?s1 ?s2).mono ?_; (case s1 => exact below_alloc (by repeat (first | exact B1.out | apply pw_below_drewN)) _); (case s2 => exact heap_alloc_new _ _); rintro e w3 ⟨rfl, hb3⟩))
                      go_ret
                      exact ⟨by rw [HS.out, HK.out]; rfl, below_step (below_alloc (by repeat (first | exact B1.out | apply pw_below_drewN)) _) hb3⟩
                    | false =>
                      have hc : c = 0 := by rw [HC.out]; simp [z2, z02, z1, zq]
                      have HK := Aside0.mk hc
                      clear hc
                      go_wp2_with (first | (go_at_call 51; (with_reducible refine (W1.out _).mono ?_); rintro e w2 ⟨rfl, ⟨n2, rfl⟩⟩) | (go_at_call 51; (with_reducible refine (W2.out _).mono ?_); rintro e w2 ⟨rfl, ⟨n2, rfl⟩⟩) | (go_at_call 52; (with_reducible refine (W3.out _).mono ?_); rintro e w2 ⟨rfl, ⟨n2, rfl⟩⟩) | (go_at_call 51; (with_reducible refine (W4.out _).mono ?_); rintro e w2 ⟨rfl, ⟨n2, rfl⟩⟩) | (go_at_call 50; refine (G2.out _ 2 _ ?s1 ?s2).mono ?_; (case s1 => exact below_alloc (by repeat (first | exact B1.out | apply pw_below_drewN)) _); (case s2 => exact heap_alloc_new _ _); rintro e w3 ⟨rfl, hb3⟩))
                      go_roundg (l0.length - (kk + 1))
                      case measure => omega
                      case rel => exact ⟨kk + 1, by omega, by omega, rfl, by go_num, ⟨below_step (below_alloc (by repeat (first | exact B1.out | apply pw_below_drewN)) _) hb3⟩, ⟨by have h_ := HS.out; rw [HK.out, if_pos rfl] at h_; exact h_.symm⟩⟩
                  | true =>
                    have hc : c = 10 := by rw [HC.out]; simp [z2, z02, z1]
                    have HK := Aside0.mk hc
                    clear hc
                    go_wp2_with (first | (go_at_call 51; (with_reducible refine (W1.out _).mono ?_); rintro e w2 ⟨rfl, ⟨n2, rfl⟩⟩) | (go_at_call 51; (with_reducible refine (W2.out _).mono ?_); rintro e w2 ⟨rfl, ⟨n2, rfl⟩⟩) | (go_at_call 52; (with_reducible refine (W3.out _).mono ?_); rintro e w2 ⟨rfl, ⟨n2, rfl⟩⟩) | (go_at_call 51; (with_reducible refine (W4.out _).mono ?_); rintro e w2 ⟨rfl, ⟨n2, rfl⟩⟩) | (go_at_call 50; refine (G2.out _ 2 _ ?s1 ?s2).mono ?_; (case s1 => exact below_alloc (by repeat (first | exact B1.out | apply pw_below_drewN)) _); (case s2 => exact heap_alloc_new _ _); rintro e w3 ⟨rfl, hb3⟩))
                    go_ret
                    exact ⟨by rw [HS.out, HK.out]; rfl, (by repeat (first | exact B1.out | apply pw_below_drewN))⟩
              | true =>
                cases z3 : (x3 != 0) with
                | true =>
                  have hc : c = 1 := by rw [HC.out]; simp [z2, z02, z3]
                  have HK := Aside0.mk hc
                  clear hc
                  go_wp2_with (first | (go_at_call 51; (with_reducible refine (W1.out _).mono ?_); rintro e w2 ⟨rfl, ⟨n2, rfl⟩⟩) | (go_at_call 51; (with_reducible refine (W2.out _).mono ?_); rintro e w2 ⟨rfl, ⟨n2, rfl⟩⟩) | (go_at_call 52; (with_reducible refine (W3.out _).mono ?_); rintro e w2 ⟨rfl, ⟨n2, rfl⟩⟩) | (go_at_call 51; (with_reducible refine (W4.out _).mono ?_); rintro e w2 ⟨rfl, ⟨n2, rfl⟩⟩) | (go_at_call 50; refine (G2.out _ 2 _ ?s1 ?s2).mono ?_; (case s1 => exact below_alloc (by repeat (first | exact B1.out | apply pw_below_drewN)) _); (case s2 => exact heap_alloc_new _ _); rintro e w3 ⟨rfl, hb3⟩))
                  go_ret
                  exact ⟨by rw [HS.out, HK.out]; rfl, (by repeat (first | exact B1.out | apply pw_below_drewN))⟩
                | false =>
                  cases z1 : (x0 == 1) with
                  | false =>
                    cases bg with
                    | false =>
                      have hc : c = 10 := by rw [HC.out]; simp [z2, z02, z3, z1]
                      have HK := Aside0.mk hc
                      clear hc
                      go_wp2_with (first | (go_at_call 51; (with_reducible refine (W1.out _).mono ?_); rintro e w2 ⟨rfl, ⟨n2, rfl⟩⟩) | (go_at_call 51; (with_reducible refine (W2.out _).mono ?_); rintro e w2 ⟨rfl, ⟨n2, rfl⟩⟩) | (go_at_call 52; (with_reducible refine (W3.out _).mono ?_); rintro e w2 ⟨rfl, ⟨n2, rfl⟩⟩) | (go_at_call 51; (with_reducible refine (W4.out _).mono ?_); rintro e w2 ⟨rfl, ⟨n2, rfl⟩⟩) | (go_at_call 50; refine (G2.out _ 2 _ ?s1 ?s2).mono ?_; (case s1 => exact below_alloc (by repeat (first | exact B1.out | apply pw_below_drewN)) _); (case s2 => exact heap_alloc_new _ _); rintro e w3 ⟨rfl, hb3⟩))
                      go_ret
                      exact ⟨by rw [HS.out, HK.out]; rfl, (by repeat (first | exact B1.out | apply pw_below_drewN))⟩
                    | true =>
                      cases zq : (decide (0 ≤ q2)) with
                      | true =>
                        have hc : c = 10 := by rw [HC.out]; simp [z2, z02, z3, z1, zq]
                        have HK := Aside0.mk hc
                        clear hc
                        go_wp2_with (first | (go_at_call 51; (with_reducible refine (W1.out _).mono ?_); rintro e w2 ⟨rfl, ⟨n2, rfl⟩⟩) | (go_at_call 51; (with_reducible refine (W2.out _).mono ?_); rintro e w2 ⟨rfl, ⟨n2, rfl⟩⟩) | (go_at_call 52; (with_reducible refine (W3.out _).mono ?_); rintro e w2 ⟨rfl, ⟨n2, rfl⟩⟩) | (go_at_call 51; (with_reducible refine (W4.out _).mono ?_); rintro e w2 ⟨rfl, ⟨n2, rfl⟩⟩) | (go_at_call 50; refine (G2.out _ 2 _ ?s1 ?s2).mono ?_; (case s1 => exact below_alloc (by repeat (first | exact B1.out | apply pw_below_drewN)) _); (case s2 => exact heap_alloc_new _ _); rintro e w3 ⟨rfl, hb3⟩))
                        go_ret
                        exact ⟨by rw [HS.out, HK.out]; rfl, below_step (below_alloc (by repeat (first | exact B1.out | apply pw_below_drewN)) _) hb3⟩
                      | false =>
                        have hc : c = 0 := by rw [HC.out]; simp [z2, z02, z3, z1, zq]
                        have HK := Aside0.mk hc
                        clear hc
                        go_wp2_with (first | (go_at_call 51; (with_reducible refine (W1.out _).mono ?_); rintro e w2 ⟨rfl, ⟨n2, rfl⟩⟩) | (go_at_call 51; (with_reducible refine (W2.out _).mono ?_); rintro e w2 ⟨rfl, ⟨n2, rfl⟩⟩) | (go_at_call 52; (with_reducible refine (W3.out _).mono ?_); rintro e w2 ⟨rfl, ⟨n2, rfl⟩⟩) | (go_at_call 51; (with_reducible refine (W4.out _).mono ?_); rintro e w2 ⟨rfl, ⟨n2, rfl⟩⟩) | (go_at_call 50; refine (G2.out _ 2 _ ?s1 ?s2).mono ?_; (case s1 => exact below_alloc (by repeat (first | exact B1.out | apply pw_below_drewN)) _); (case s2 => exact heap_alloc_new _ _); rintro e w3 ⟨rfl, hb3⟩))
                        go_roundg (l0.length - (kk + 1))
                        case measure => omega
                        case rel => exact ⟨kk + 1, by omega, by omega, rfl, by go_num, ⟨below_step (below_alloc (by repeat (first | exact B1.out | apply pw_below_drewN)) _) hb3⟩, ⟨by have h_ := HS.out; rw [HK.out, if_pos rfl] at h_; exact h_.symm⟩⟩
                  | true =>
                    cases bg with
                    | false =>
                      cases zq : (decide (0 ≤ q2)) with
                      | true =>
                        have hc : c = 10 := by rw [HC.out]; simp [z2, z02, z3, z1, zq]
                        have HK := Aside0.mk hc
                        clear hc
                        go_wp2_with (first | (go_at_call 51; (with_reducible refine (W1.out _).mono ?_); rintro e w2 ⟨rfl, ⟨n2, rfl⟩⟩) | (go_at_call 51; (with_reducible refine (W2.out _).mono ?_); rintro e w2 ⟨rfl, ⟨n2, rfl⟩⟩) | (go_at_call 52; (with_reducible refine (W3.out _).mono ?_); rintro e w2 ⟨rfl, ⟨n2, rfl⟩⟩) | (go_at_call 51; (with_reducible refine (W4.out _).mono ?_); rintro e w2 ⟨rfl, ⟨n2, rfl⟩⟩) | (go_at_call 50; refine (G2.out _ 2 _ ?s1 ?s2).mono ?_; (case s1 => exact below_alloc (by repeat (first | exact B1.out | apply pw_below_drewN)) _); (case s2 => exact heap_alloc_new _ _); rintro e w3 ⟨rfl, hb3⟩))
                        go_ret
                        exact ⟨by rw [HS.out, HK.out]; rfl, below_step (below_alloc (by repeat (first | exact B1.out | apply pw_below_drewN)) _) hb3⟩
                      | false =>
                        have hc : c = 0 := by rw [HC.out]; simp [z2, z02, z3, z1, zq]
                        have HK := Aside0.mk hc
                        clear hc
                        go_wp2_with (first | (go_at_call 51; (with_reducible refine (W1.out _).mono ?_); rintro e w2 ⟨rfl, ⟨n2, rfl⟩⟩) | (go_at_call 51; (with_reducible refine (W2.out _).mono ?_); rintro e w2 ⟨rfl, ⟨n2, rfl⟩⟩) | (go_at_call 52; (with_reducible refine (W3.out _).mono ?_); rintro e w2 ⟨rfl, ⟨n2, rfl⟩⟩) | (go_at_call 51; (with_reducible refine (W4.out _).mono ?_); rintro e w2 ⟨rfl, ⟨n2, rfl⟩⟩) | (go_at_call 50; refine (G2.out _ 2 _ ?s1 ?s2).mono ?_; (case s1 => exact below_alloc (by repeat (first | exact B1.out | apply pw_below_drewN)) _); (case s2 => exact heap_alloc_new _ _); rintro e w3 ⟨rfl, hb3⟩))
                        go_roundg (l0.length - (kk + 1))
                        case measure => omega
                        case rel => exact ⟨kk + 1, by omega, by omega, rfl, by go_num, ⟨below_step (below_alloc (by repeat (first | exact B1.out | apply pw_below_drewN)) _) hb3⟩, ⟨by have h_ := HS.out; rw [HK.out, if_pos rfl] at h_; exact h_.symm⟩⟩
                    | true =>
                      have hc : c = 10 := by rw [HC.out]; simp [z2, z02, z3, z1]
                      have HK := Aside0.mk hc
                      clear hc
                      go_wp2_with (first | (go_at_call 51; (with_reducible refine (W1.out _).mono ?_); rintro e w2 ⟨rfl, ⟨n2, rfl⟩⟩) | (go_at_call 51; (with_reducible refine (W2.out _).mono ?_); rintro e w2 ⟨rfl, ⟨n2, rfl⟩⟩) | (go_at_call 52; (with_reducible refine (W3.out _).mono ?_); rintro e w2 ⟨rfl, ⟨n2, rfl⟩⟩) | (go_at_call 51; (with_reducible refine (W4.out _).mono ?_); rintro e w2 ⟨rfl, ⟨n2, rfl⟩⟩) | (go_at_call 50; refine (G2.out _ 2 _ ?s1 ?s2).mono ?_; (case s1 => exact below_alloc (by repeat (first | exact B1.out | apply pw_below_drewN)) _); (case s2 => exact heap_alloc_new _ _); rintro e w3 ⟨rfl, hb3⟩))
                      go_ret
                      exact ⟨by rw [HS.out, HK.out]; rfl, (by repeat (first | exact B1.out | apply pw_below_drewN))⟩
      · have hltz : ¬ (kk : Int) < (l0.length : Int) := by omega
        have : kk = l0.length := by omega
        subst this
        clear HH1 HH2 HRR
        go_wp2
        go_ret
        exact ⟨by rw [← HA.out]; simp [histGo], BW.out⟩


end Go.Proofs.Ytifpmjnbkodgfaa.XFnExactOverlap
