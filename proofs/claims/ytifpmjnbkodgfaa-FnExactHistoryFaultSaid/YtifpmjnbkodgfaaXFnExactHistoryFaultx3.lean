/- The machine's side of one law: functions as plain Lean functions, and that the calls do what these say. Written by a program of this session; no condition beyond those that each theorem names. -/
import Derived.Test.YtifpmjnbkodgfaaXFnExactHistoryFaultx0
import Derived.Test.YtifpmjnbkodgfaaXFnExactHistoryFaultx2
namespace Go.Proofs.Ytifpmjnbkodgfaa.XFnExactHistoryFault
open Go.RowKit Go.Proofs.YtifpmjnbkodgfaaW.PrintWords Go.Proofs.YtifpmjnbkodgfaaW.PrintLast Go.Proofs.YtifpmjnbkodgfaaW.PrintMore
attribute [local go_sem] max2_int min2_int max_two min_two max_three min_three max_four min_four   -- for this text's walks alone
set_option linter.unusedVariables false
set_option linter.unusedSimpArgs false

/-! ### laws_toHopS: function 19 -/
def laws_toHopS.l0 : Nat → List (S72) → List (S67) → Int → Option ((List (S67)))
  | 0, _, _, _ => none
  | k + 1, x0, x3, x4 => if x4 < (x0.length : Int) then (if 0 ≤ x4 then ((laws_toHop.f ((rd_T72 x0 x4).f0) ((rd_T72 x0 x4).f1) ((rd_T72 x0 x4).f2) ((rd_T72 x0 x4).f3)).bind fun bt126 => (if x4 < (x3.length : Int) then (laws_toHopS.l0 k x0 (x3.set (x4 : Int).toNat (⟨bt126.1, bt126.2.1, bt126.2.2.1, bt126.2.2.2⟩ : S67)) (wrap64 (x4 + 1))) else (none))) else (none)) else (some x3)
def laws_toHopS.f (k : Nat) (l0 : List (S72)) : Option ((List (S67))) := if 0 ≤ (l0.length : Int) then (if ((l0.length : Int) : Int).toNat ≤ 8796093022208 then (laws_toHopS.l0 k l0 (List.replicate ((l0.length : Int) : Int).toNat z67) 0) else (none)) else (none)
theorem laws_toHopS.mono_l : ∀ k, (∀ y0 y1 y2, LeO (laws_toHopS.l0 k y0 y1 y2) (laws_toHopS.l0 (k + 1) y0 y1 y2))
  | 0 => fun _ _ _ r h => by simp [laws_toHopS.l0] at h
  | k + 1 => by
    have ih0 := laws_toHopS.mono_l k
    · intro y0 y1 y2
      unfold laws_toHopS.l0
      repeat' first
      | (with_reducible exact ih0 _ _ _)
      | (with_reducible exact LeO.refl _)
      | (with_reducible exact LeO.none _)
      | (with_reducible refine LeO.ite ?_ ?_)
      | (with_reducible refine LeO.bind ?_ (fun _ => ?_))
      | exact ih0 _ _ _
      | exact LeO.none _
      | refine LeO.ite ?_ ?_
      | refine LeO.bind ?_ (fun _ => ?_)
theorem laws_toHopS.mono : ∀ a0 k, LeO (laws_toHopS.f k a0) (laws_toHopS.f (k + 1) a0) := by
  intro a0 k
  have ih0 := laws_toHopS.mono_l k
  unfold laws_toHopS.f
  repeat' first
      | (with_reducible exact ih0 _ _ _)
      | (with_reducible exact LeO.refl _)
      | (with_reducible exact LeO.none _)
      | (with_reducible refine LeO.ite ?_ ?_)
      | (with_reducible refine LeO.bind ?_ (fun _ => ?_))
      | exact ih0 _ _ _
      | exact LeO.none _
      | refine LeO.ite ?_ ?_
      | refine LeO.bind ?_ (fun _ => ?_)
set_option maxHeartbeats 8000000 in
set_option maxRecDepth 100000 in
theorem laws_toHopS.calls (k : Nat) (A0 : Option Addr) (c0 : Nat) (l0 : List (S72)) (r : List (S67)) (w : World) (hr0 : Kd.C k72 w A0 l0.length l0) (hc0 : l0.length ≤ c0) (h : laws_toHopS.f k l0 = some r) :
    Calls Try.prog 19 #[.slice A0 l0.length c0] w fun e w' => ∃ v0_ : Value, e = .returned (v0_) ∧ Kd.R k67 67 w' w.heap.size (fun _ => True) v0_ r ∧ Below w.heap.size w w' := by
  have hu72 := Try.underlying72
  have hu67 := Try.underlying67
  have HR0 := Aside0.mk hr0
  have HC0 := Aside0.mk hc0
  clear hr0 hc0
  have HB := Aside0.mk (Below.refl w.heap.size w)
  have H : (if 0 ≤ (l0.length : Int) then (if ((l0.length : Int) : Int).toNat ≤ 8796093022208 then (laws_toHopS.l0 k l0 (List.replicate ((l0.length : Int) : Int).toNat z67) 0) else (none)) else (none)) = some r := h
  clear h
  by_cases c2 : 0 ≤ (l0.length : Int)
  · rw [if_pos c2] at H
    have c2b0 := eq_true c2
    have c2b1 : decide (0 ≤ (l0.length : Int)) = true := decide_eq_true c2
    clear c2
    by_cases c3 : ((l0.length : Int) : Int).toNat ≤ 8796093022208
    · rw [if_pos c3] at H
      have c3b0 := eq_true c3
      have c3b1 : decide (((l0.length : Int) : Int).toNat ≤ 8796093022208) = true := decide_eq_true c3
      clear c3
      obtain ⟨y122, hy122⟩ : ∃ y_ : List (S67), y_ = (List.replicate ((l0.length : Int) : Int).toNat z67) := ⟨_, rfl⟩
      replace H : (laws_toHopS.l0 k l0 y122 0) = some r := by first | (rw [hy122]; with_reducible exact H) | (have H2_ := (Option.bind_some _ _).symm.trans H; rw [hy122]; with_reducible exact H2_) | (have H2_ := (Option.bind_some _ _).symm.trans H; with_reducible exact H2_) | with_reducible exact H | (rw [hy122]; exact H) | exact H
      have Ny122 := Aside0.mk hy122
      clear hy122
      have H' := Aside0.mk H
      clear H
      go_enter Try.func19, Try.ntmps19
      go_wp2_with (first | ((with_reducible refine gate_dst (N := 7) rfl ?_); refine Kd.R_make k67 _ 67 rfl (N := 7) rfl 34 _ _ rfl (l0.length : Int) rfl rfl Try.underlying34 (.agg #[(.int .i64 0), (.int .i64 0), (.int .i64 0), (.int .i64 0)]) 32 info67 rfl (by decide) (by omega) z67 (ok := fun _ => True) (okp := fun _ => True) (k67_mkM _ _ _ z67 ) (fun _ hk => hk) trivial (of_decide_eq_true (by first | (with_reducible assumption) | assumption)) (Nat.le_trans (Nat.mul_le_mul_right _ (of_decide_eq_true (by first | (with_reducible assumption) | assumption) : (l0.length : Int).toNat ≤ 8796093022208)) (by omega)) (Below.refl _ _) (Nat.le_refl _) ?_; intro v123 w4 ho5 hb hg_ hnew_; clear hg_ hnew_; (first | rw [← Ny122.out] at ho5 | (simp only [Int.reduceToNat] at ho5; rw [← Ny122.out] at ho5)); have n0_ := Aside0.mk (Kd.R_lower ho5 (below_size (by repeat (first | (with_reducible first | exact HB.out | apply below_alloc | apply pw_below_drewN | apply below_drew1) | exact HB.out)))); have n1_ := Aside0.mk (below_step (by repeat (first | (with_reducible first | exact HB.out | apply below_alloc | apply pw_below_drewN | apply below_drew1) | exact HB.out)) hb); clear HB; have HO124 := n0_; have HB := n1_; clear n0_ n1_; clear hb ho5))
      go_loopg [4] k (fun kq v4 w' => ∃ (x3_1 : List (S67)) (x4_1 : Int), v4 = .int .i64 x4_1 ∧ Aside0 (laws_toHopS.l0 kq l0 x3_1 x4_1 = some r) ∧ Aside0 (kq ≤ k) ∧ Aside0 (Kd.R k67 67 w' w.heap.size (fun _ => True) v123 x3_1) ∧ Aside0 (Below w.heap.size w w'))
      case atStart => exact ⟨(y122), (0), (by first | rfl | (simp; done) | (simp [*]; done)), H', ⟨Nat.le_refl _⟩, ⟨by (with_reducible repeat (first | apply Kd.R_alloc | apply Kd.R_drewN | apply Kd.R_drew)); exact HO124.out⟩, ⟨by repeat (first | (with_reducible first | exact HB.out | apply below_alloc | apply pw_below_drewN | apply below_drew1) | exact HB.out)⟩⟩
      case round =>
        clear H'
        try clear c1
        try clear c2
        try clear c2b0
        try clear c2b1
        try clear p2
        try clear c3
        try clear c3b0
        try clear c3b1
        obtain ⟨x3_1, x4_1, rfl, HA, HK1, HO_3, HB⟩ := hrel
        cases gk with
        | zero => exact absurd HA.out (by simp [laws_toHopS.l0])
        | succ k1 =>
          have H := HA.out
          clear HA
          simp only [laws_toHopS.l0] at H
          by_cases c6 : x4_1 < (l0.length : Int)
          · rw [if_pos c6] at H
            have c6b0 : decide (x4_1 < (l0.length : Int)) = true := decide_eq_true c6
            clear c6
            by_cases c7 : 0 ≤ x4_1
            · rw [if_pos c7] at H
              have c7b0 : decide (0 ≤ x4_1) = true := decide_eq_true c7
              clear c7
              replace H := Option.bind_eq_some_iff.mp H
              obtain ⟨⟨t126, t127, t128, t129⟩, A80, H⟩ := H
              replace H : (if x4_1 < (x3_1.length : Int) then (laws_toHopS.l0 k1 l0 (x3_1.set (x4_1 : Int).toNat (⟨t126, t127, t128, t129⟩ : S67)) (wrap64 (x4_1 + 1))) else (none)) = some r := H
              have A8 := Aside0.mk A80
              clear A80
              by_cases c9 : x4_1 < (x3_1.length : Int)
              · rw [if_pos c9] at H
                have c9b0 : decide (x4_1 < (x3_1.length : Int)) = true := decide_eq_true c9
                clear c9
                obtain ⟨y130, hy130⟩ : ∃ y_ : List (S67), y_ = (x3_1.set (x4_1 : Int).toNat (⟨t126, t127, t128, t129⟩ : S67)) := ⟨_, rfl⟩
                replace H : (laws_toHopS.l0 k1 l0 y130 (wrap64 (x4_1 + 1))) = some r := by first | (rw [hy130]; with_reducible exact H) | (have H2_ := (Option.bind_some _ _).symm.trans H; rw [hy130]; with_reducible exact H2_) | (have H2_ := (Option.bind_some _ _).symm.trans H; with_reducible exact H2_) | with_reducible exact H | (rw [hy130]; exact H) | exact H
                have Ny130 := Aside0.mk hy130
                clear hy130
                have H' := Aside0.mk H
                clear H
                have p125 : 0 ≤ (x4_1 : Int) := of_decide_eq_true (by first | (with_reducible assumption) | assumption)
                have q125 : x4_1 < (l0.length : Int) := of_decide_eq_true (by first | (with_reducible assumption) | assumption)
                obtain ⟨ad125, e125, hx125_0, hx125_1, hx125_2, hx125_3⟩ := at_T72 HR0.out x4_1 p125 q125
                cases e125
                replace hx125_0 := (HB.out.cell (World.block_lt_of_cell? w _ hx125_0)).trans hx125_0
                replace hx125_1 := (HB.out.cell (World.block_lt_of_cell? w _ hx125_1)).trans hx125_1
                replace hx125_2 := (HB.out.cell (World.block_lt_of_cell? w _ hx125_2)).trans hx125_2
                replace hx125_3 := (HB.out.cell (World.block_lt_of_cell? w _ hx125_3)).trans hx125_3
                replace p125 := eq_true p125
                replace q125 := eq_true q125
                go_wp2_with (first | ((with_reducible refine gate_callee (f := 49) rfl ?_); refine goesL_ (some 20) rfl rfl Try.func49 (by kernel_rfl) rfl #[.agg #[.int .i64 ((rd_T72 l0 x4_1).f0), .int .i64 ((rd_T72 l0 x4_1).f1), .int .i64 ((rd_T72 l0 x4_1).f2), .int .i64 ((rd_T72 l0 x4_1).f3)]] rfl (by (try simp only [List.map_toArray, List.map_cons, List.map_nil]); first | done | rfl | (simp only [List.length_drop, List.length_take]; rfl)) ?_; (with_reducible refine (laws_toHop.calls ((rd_T72 l0 x4_1).f0) ((rd_T72 l0 x4_1).f1) ((rd_T72 l0 x4_1).f2) ((rd_T72 l0 x4_1).f3) t126 t127 t128 t129 _ A8.out).mono ?_); rintro e w11 ⟨rfl, hb⟩; refine ⟨_, rfl, ?_⟩; have n0_ := Aside0.mk (Kd.R_below (by (with_reducible repeat (first | apply Kd.R_alloc | apply Kd.R_drewN | apply Kd.R_drew)); exact HO_3.out) hb); have n1_ := Aside0.mk (below_step (by repeat (first | (with_reducible first | exact HB.out | apply below_alloc | apply pw_below_drewN | apply below_drew1) | exact HB.out)) hb); clear HO_3; clear HB; have HO_3 := n0_; have HB := n1_; clear n0_ n1_; (try clear hb); (try clear hb2); (try clear hk); (try clear hi); have p10 : 0 ≤ (x4_1 : Int) := of_decide_eq_true (by first | (with_reducible assumption) | assumption); have q10 : (x4_1 : Int) < ((x3_1.length : Int) : Int) := of_decide_eq_true (by first | (with_reducible assumption) | assumption); obtain ⟨go10, co10, eo10, gb10, gl10, cl10, HG10⟩ := Kd.R_form HO_3.out (by omega); (first | cases eo10 | (injection eo10 with ea_ en_ ec_; (first | subst ea_ | (injection ea_ with ea_; subst ea_)); subst ec_; clear en_)); have GB10 := Aside0.mk gb10; have GG10 := Aside0.mk HG10; clear gb10 gl10 HG10; obtain ⟨ce10, hcl10, hM10, hcc10, hfr10⟩ := Kd.R_elem HO_3.out z67 (x4_1 : Int) p10 q10; obtain rfl := k67_openM hM10; have hx10_0 : w11.cell? ⟨go10, (x4_1 : Int).toNat * 4, none⟩ = some (.int .i64 ((rd_T67 x3_1 x4_1).f0)) := hcc10 0 _ rfl; have hx10_1 : w11.cell? ⟨go10, (x4_1 : Int).toNat * 4 + 1, none⟩ = some (.int .i64 ((rd_T67 x3_1 x4_1).f1)) := hcc10 1 _ rfl; have hx10_2 : w11.cell? ⟨go10, (x4_1 : Int).toNat * 4 + 2, none⟩ = some (.int .i64 ((rd_T67 x3_1 x4_1).f2)) := hcc10 2 _ rfl; have hx10_3 : w11.cell? ⟨go10, (x4_1 : Int).toNat * 4 + 3, none⟩ = some (.int .i64 ((rd_T67 x3_1 x4_1).f3)) := hcc10 3 _ rfl; have hf10_0 : w11.frozen? ⟨go10, (x4_1 : Int).toNat * 4, none⟩ = false := hfr10 0; have hf10_1 : w11.frozen? ⟨go10, (x4_1 : Int).toNat * 4 + 1, none⟩ = false := hfr10 1; have hf10_2 : w11.frozen? ⟨go10, (x4_1 : Int).toNat * 4 + 2, none⟩ = false := hfr10 2; have hf10_3 : w11.frozen? ⟨go10, (x4_1 : Int).toNat * 4 + 3, none⟩ = false := hfr10 3; clear hcl10 hcc10 hfr10 hM10; replace p10 := eq_true p10; replace q10 := eq_true q10; have HX12 := Aside0.mk (show Kd.R k67 67 w11 w.heap.size (fun _ => True) (.slice (some ⟨go10, 0, none⟩) x3_1.length co10) x3_1 from (by (with_reducible repeat (first | apply Kd.R_alloc | apply Kd.R_drewN | apply Kd.R_drew)); exact HO_3.out)); obtain ⟨ce12, hcl12, hM12, hcc12, hfr12⟩ := Kd.R_elem HX12.out z67 (x4_1 : Int) (of_decide_eq_true (by first | (with_reducible assumption) | assumption)) (by have h_ : (x4_1 : Int) < ((x3_1.length : Int) : Int) := of_decide_eq_true (by first | (with_reducible assumption) | assumption); first | exact h_ | (have e_ := (Kd.R_reads' HO_3.out).1; omega) | simpa using h_); obtain rfl := k67_openM hM12; have HP12 := Kd.R_seg HX12.out (x4_1 : Int) (of_decide_eq_true (by first | (with_reducible assumption) | assumption)) (by have h_ : (x4_1 : Int) < ((x3_1.length : Int) : Int) := of_decide_eq_true (by first | (with_reducible assumption) | assumption); first | exact h_ | (have e_ := (Kd.R_reads' HO_3.out).1; omega) | simpa using h_) (seg := [.int .i64 t126, .int .i64 t127, .int .i64 t128, .int .i64 t129]) (j := 0) hcl12 hcc12 (show 4 ≤ 4 from by decide) (x' := (⟨t126, t127, t128, t129⟩ : S67)) (k67_mkM _ _ _ (⟨t126, t127, t128, t129⟩ : S67) ) (fun _ hk => hk); have hx12_0 := hcc12 0 _ rfl; (try simp only [show (k67).sz = 4 from rfl, Nat.mul_one, Nat.add_zero] at hx12_0); have hf12_0 := hfr12 0; (try simp only [show (k67).sz = 4 from rfl, Nat.mul_one, Nat.add_zero] at hf12_0); have hx12_1 := hcc12 1 _ rfl; (try simp only [show (k67).sz = 4 from rfl, Nat.mul_one, Nat.add_zero] at hx12_1); have hf12_1 := hfr12 1; (try simp only [show (k67).sz = 4 from rfl, Nat.mul_one, Nat.add_zero] at hf12_1); have hx12_2 := hcc12 2 _ rfl; (try simp only [show (k67).sz = 4 from rfl, Nat.mul_one, Nat.add_zero] at hx12_2); have hf12_2 := hfr12 2; (try simp only [show (k67).sz = 4 from rfl, Nat.mul_one, Nat.add_zero] at hf12_2); have hx12_3 := hcc12 3 _ rfl; (try simp only [show (k67).sz = 4 from rfl, Nat.mul_one, Nat.add_zero] at hx12_3); have hf12_3 := hfr12 3; (try simp only [show (k67).sz = 4 from rfl, Nat.mul_one, Nat.add_zero] at hf12_3); clear hcl12 hcc12 hfr12 hM12) | ((with_reducible refine gate_store (t := 67) (p := 21) rfl ?_); refine store_event (t := 67) (p := 21) (v := ?vo_w13) (w1 := ((((w11.setCell ⟨go10, (x4_1 : Int).toNat * 4, none⟩ (.int .i64 t126)).setCell ⟨go10, (x4_1 : Int).toNat * 4 + 1, none⟩ (.int .i64 t127)).setCell ⟨go10, (x4_1 : Int).toNat * 4 + 2, none⟩ (.int .i64 t128)).setCell ⟨go10, (x4_1 : Int).toNat * 4 + 3, none⟩ (.int .i64 t129))) ?hg ?ho ?hn ?hr ?_; (case ho => rfl); (case hg => rfl); (case hn => rfl); (case hr => first | (go_simp; done) | (go_simp; rfl)); intro w13 hw; have hg : w11.grownBy w13 (some go10) := (by rw [hw]; exact HP12.2); have hp_ : Kd.R k67 67 w13 w.heap.size (fun _ => True) (.slice (some ⟨go10, 0, none⟩) x3_1.length co10) y130 := (by rw [hw, Ny130.out]; exact HP12.1); clear HP12; have n0_ := Aside0.mk (hp_); have n1_ := Aside0.mk ((by rw [hw]; exact below_set (below_set (below_set (below_set (HB.out) GB10.out) GB10.out) GB10.out) GB10.out : Below w.heap.size w w13)); clear HO_3; clear HB; have HO_3 := n0_; have HB := n1_; clear n0_ n1_; clear hg hw hp_))
                go_roundg k1
                case measure => have := HK1.out; omega
                case rel => exact ⟨(y130), (wrap64 (x4_1 + 1)), (by first | rfl | (simp; done) | (simp [*]; done)), H', ⟨by have := HK1.out; omega⟩, ⟨by (with_reducible repeat (first | apply Kd.R_alloc | apply Kd.R_drewN | apply Kd.R_drew)); exact HO_3.out⟩, ⟨by repeat (first | (with_reducible first | exact HB.out | apply below_alloc | apply pw_below_drewN | apply below_drew1) | exact HB.out)⟩⟩
              · rw [if_neg c9] at H
                exact absurd H (by simp)
            · rw [if_neg c7] at H
              exact absurd H (by simp)
          · rw [if_neg c6] at H
            have c6b0 : decide (x4_1 < (l0.length : Int)) = false := decide_eq_false c6
            clear c6
            obtain rfl := Option.some.inj H
            go_wp2
            go_ret
            exact ⟨_, by first | rfl | (simp [errW_none, errW_some] <;> rfl) | (simp [*, errW_none, errW_some] <;> rfl), by (with_reducible repeat (first | apply Kd.R_alloc | apply Kd.R_drewN | apply Kd.R_drew)); exact HO_3.out, by repeat (first | (with_reducible first | exact HB.out | apply below_alloc | apply pw_below_drewN | apply below_drew1) | exact HB.out)⟩
    · rw [if_neg c3] at H
      exact absurd H (by simp)
  · rw [if_neg c2] at H
    exact absurd H (by simp)

/-! ### impl_Hop: function 71 -/
set_option maxHeartbeats 4000000 in
set_option maxRecDepth 100000 in
theorem impl_Hop.calls (A0 : Option Addr) (c0 : Nat) (l0 : List (S67)) (gf : Nat) (lb : Array Value) (p : S67 → Bool) (w : World) (eg : ∀ args w, (callFunc gf args).run Try.prog w = .ok (.enter gf args) w) (hr0 : Kd.C k67 w A0 l0.length l0)
    (hp : ∀ (W : World) (x : S67), x ∈ l0 → Below w.heap.size w W → Calls Try.prog gf (#[.agg #[.int .i64 x.f0, .int .i64 x.f1, .int .i64 x.f2, .int .i64 x.f3]] ++ lb) W fun e w' => e = .returned (.bool (p x)) ∧ Below w.heap.size w w') :
    Calls Try.prog 71 #[.slice A0 l0.length c0, .func (.func gf) #[] lb] w fun e w' => e = .returned (.int .i64 (idxP p l0)) ∧ Below w.heap.size w w' := by
  have hlen := Kd.C_max hr0
  go_enter Try.func71, Try.ntmps71
  go_wp2
  go_loopg [5, 8] l0.length (fun gg _ s8 wr => ∃ kk : Nat, kk ≤ l0.length ∧ l0.length - kk ≤ gg ∧ s8 = .int .i64 kk ∧ Aside0 (Below w.heap.size w wr) ∧ Aside0 (∀ j, j < kk → p (l0.getD j z67) = false))
  case atStart => exact ⟨0, Nat.zero_le _, by omega, rfl, ⟨Below.refl _ w⟩, ⟨fun j hj => absurd hj (Nat.not_lt_zero _)⟩⟩
  case round =>
    obtain ⟨kk, hkk, hg, rfl, BW, HA⟩ := hrel
    by_cases hlt : kk < l0.length
    · have hltz : (kk : Int) < (l0.length : Int) := by omega
      have hrd := Kd.C_below hr0 BW.out
      obtain ⟨ade, eA, hce_0, hce_1, hce_2, hce_3⟩ := at_T67 hrd (kk : Int) (by omega) (by omega)
      subst eA
      have hcall := hp wr (rd_T67 l0 (kk : Int))  (getD_mem_ _ _ _ hlt) BW.out 
      have hx : rd_T67 l0 (kk : Int) = l0.getD kk z67 := rfl
      simp only [Int.toNat_natCast] at hce_0 hce_1 hce_2 hce_3
      clear hr0 hp hrd
      have HX := Aside0.mk hx
      clear hx
      skip
      cases hq : p (rd_T67 l0 (kk : Int)) with
      | true =>
        rw [hq] at hcall
        have HQ := Aside0.mk hq
        clear hq
        go_wp2_with (go_at_fn gf; refine hcall.mono ?_; rintro e w' ⟨rfl, hb'⟩)
        go_ret
        exact ⟨by rw [idxP_hit p z67 l0 kk hlt HA.out (by rw [← HX.out]; exact HQ.out)]; rfl, hb'⟩
      | false =>
        rw [hq] at hcall
        have HQ := Aside0.mk hq
        clear hq
        go_wp2_with (go_at_fn gf; refine hcall.mono ?_; rintro e w' ⟨rfl, hb'⟩)
        go_roundg (l0.length - (kk + 1))
        case measure => omega
        case rel =>
          refine ⟨kk + 1, by omega, by omega, by go_num, ⟨hb'⟩, ⟨fun j hj => ?_⟩⟩
          by_cases e : j = kk
          · subst e; rw [← HX.out]; exact HQ.out
          · exact HA.out j (by omega)
    · have hltz : ¬ (kk : Int) < (l0.length : Int) := by omega
      have : kk = l0.length := by omega
      subst this
      clear hr0 hp
      go_wp2
      go_ret
      exact ⟨by rw [idxP_miss p z67 l0 HA.out]; rfl, BW.out⟩

/-! ### slices_Index_int64_int64: function 83 -/
def slices_Index_int64_int64.f (l0 : List Int) (a1 : Int) : Option Int := some (idxP (fun y => a1 == y) l0)
set_option maxHeartbeats 4000000 in
theorem slices_Index_int64_int64.calls (A0 : Option Addr) (c0 : Nat) (l0 : List Int) (a1 : Int) (r : Int) (w : World) (hr0 : Kd.C (Kd.int .i64) w A0 l0.length l0) (hc0 : l0.length ≤ c0) (h : slices_Index_int64_int64.f l0 a1 = some r) :
    Calls Try.prog 83 #[.slice A0 l0.length c0, .int .i64 a1] w fun e w' => e = .returned (.int .i64 r) ∧ Drawn0 w w' := by
  have H := Aside0.mk (Option.some.inj h)
  clear h hc0
  have hlen := Kd.C_max hr0
  go_enter Try.func83, Try.ntmps83
  go_wp2
  go_loopg [5, 8] l0.length (fun gg _ s8 wr => ∃ kk : Nat, kk ≤ l0.length ∧ l0.length - kk ≤ gg ∧ s8 = .int .i64 kk ∧ Aside0 (Drawn0 w wr) ∧ Aside0 (∀ j, j < kk → (a1 == (l0.getD j 0)) = false))
  case atStart => exact ⟨0, Nat.zero_le _, by omega, rfl, ⟨Drawn0.refl w⟩, ⟨fun j hj => absurd hj (Nat.not_lt_zero _)⟩⟩
  case round =>
    obtain ⟨kk, hkk, hg, rfl, BW, HA⟩ := hrel
    by_cases hlt : kk < l0.length
    · have hltz : (kk : Int) < (l0.length : Int) := by omega
      have hrd := Kd.C_below hr0 BW.out.below
      obtain ⟨ade, eA, hce_0⟩ := Kd.at_int hrd (kk : Int) (by omega) (by omega)
      subst eA
      have hx : rd l0 (kk : Int) = l0.getD kk 0 := rfl
      simp only [Int.toNat_natCast] at hce_0
      clear hr0 hrd
      have HX := Aside0.mk hx
      clear hx
      cases hq : (a1 == rd l0 (kk : Int)) with
      | true =>
        have HQ := Aside0.mk hq
        go_wp2
        go_ret
        exact ⟨by rw [← H.out, idxP_hit (fun y => a1 == y) 0 l0 kk hlt HA.out (by rw [← HX.out]; exact HQ.out)]; rfl, by repeat (first | exact BW.out | apply Drawn0.step)⟩
      | false =>
        have HQ := Aside0.mk hq
        go_wp2
        go_roundg (l0.length - (kk + 1))
        case measure => omega
        case rel =>
          refine ⟨kk + 1, by omega, by omega, by go_num, ⟨by repeat (first | exact BW.out | apply Drawn0.step)⟩, ⟨fun j hj => ?_⟩⟩
          by_cases e : j = kk
          · subst e; rw [← HX.out]; exact HQ.out
          · exact HA.out j (by omega)
    · have hltz : ¬ (kk : Int) < (l0.length : Int) := by omega
      have : kk = l0.length := by omega
      subst this
      clear hr0
      go_wp2
      go_ret
      exact ⟨by rw [← H.out, idxP_miss (fun y => a1 == y) 0 l0 HA.out]; rfl, by repeat (first | exact BW.out | apply Drawn0.step)⟩


/-! ### slices_Contains_int64_int64: function 73 -/
def slices_Contains_int64_int64.f (l0 : List Int) (a1 : Int) : Option Bool := some (l0.contains a1)
set_option maxHeartbeats 4000000 in
theorem slices_Contains_int64_int64.calls (A0 : Option Addr) (c0 : Nat) (l0 : List Int) (a1 : Int) (r : Bool) (w : World) (hr0 : Kd.C (Kd.int .i64) w A0 l0.length l0) (hc0 : l0.length ≤ c0) (h : slices_Contains_int64_int64.f l0 a1 = some r) :
    Calls Try.prog 73 #[.slice A0 l0.length c0, .int .i64 a1] w fun e w' => e = .returned (.bool r) ∧ Drawn0 w w' := by
  have H := Aside0.mk (Option.some.inj h)
  have hcon := fun W h => slices_Index_int64_int64.calls A0 c0 l0 a1 _ W h hc0 rfl
  have HE := Aside0.mk (idxP_contains l0 a1)
  generalize idxP (fun y => a1 == y) l0 = q at hcon HE
  have HC := Aside0.mk hcon
  have HR := Aside0.mk hr0
  clear h hc0 hcon hr0
  go_enter Try.func73, Try.ntmps73
  go_wp2_with (go_at_call 83; refine (HC.out _ HR.out).mono ?_; rintro e w' ⟨rfl, hb'⟩)
  go_ret
  exact ⟨by rw [← H.out, ← HE.out]; rfl, hb'⟩


/-! ### impl_has: function 50 -/
def impl_has.p (a1 : Int) (l2 : List Int) (x : S67) : Bool := x.f1 == a1 && l2.contains x.f0
set_option maxHeartbeats 4000000 in
theorem impl_has_1.calls (x : S67) (b1 b2 : Nat) (a1 : Int) (A2 : Option Addr) (c2 : Nat) (l2 : List Int) (w : World) (h1 : w.cell? ⟨b1, 0, none⟩ = some (.int .i64 a1)) (h2 : w.cell? ⟨b2, 0, none⟩ = some (.slice A2 l2.length c2)) (l1 : b1 < w.heap.size) (lb2 : b2 < w.heap.size)
    (hr2 : Kd.C (Kd.int .i64) w A2 l2.length l2) (hc2 : l2.length ≤ c2) :
    Calls Try.prog 72 #[.agg #[.int .i64 x.f0, .int .i64 x.f1, .int .i64 x.f2, .int .i64 x.f3], .pointer (some ⟨b1, 0, none⟩), .pointer (some ⟨b2, 0, none⟩)] w fun e w' => e = .returned (.bool (impl_has.p a1 l2 x)) ∧ Below w.heap.size w w' := by
  obtain ⟨x0, x1, x2, x3⟩ := x
  have hcon := fun W (h : Kd.C (Kd.int .i64) W A2 l2.length l2) => slices_Contains_int64_int64.calls A2 c2 l2 x0 _ W h hc2 rfl
  have HP := Aside0.mk (show impl_has.p a1 l2 ⟨x0, x1, x2, x3⟩ = (x1 == a1 && l2.contains x0) from rfl)
  generalize impl_has.p a1 l2 ⟨x0, x1, x2, x3⟩ = r at HP ⊢
  generalize l2.contains x0 = q at hcon HP
  have HR := Aside0.mk hr2
  clear hr2 hc2
  dsimp only
  by_cases hx : x1 = a1
  · subst hx
    have HC := Aside0.mk hcon
    clear hcon
    go_enter Try.func72, Try.ntmps72
    go_wp2_with (go_at_call 73; refine (HC.out _ ?side1).mono ?_; (case side1 => exact Kd.C_alloc HR.out _); rintro e w' ⟨rfl, hd⟩)
    go_ret
    refine ⟨by rw [HP.out]; simp, below_step (below_alloc (Below.refl _ _) _) hd.below⟩
  · have e1 : (x1 == a1) = false := beq_eq_false_iff_ne.2 hx
    clear hcon
    go_enter Try.func72, Try.ntmps72
    go_wp2_with fail
    go_ret
    exact ⟨by rw [HP.out]; simp [e1], below_alloc (Below.refl _ _) _⟩
def impl_has.f (l0 : List S67) (a1 : Int) (l2 : List Int) : Option Int := some (idxP (impl_has.p a1 l2) l0)
set_option maxHeartbeats 4000000 in
theorem impl_has.calls (A0 : Option Addr) (c0 : Nat) (l0 : List S67) (a1 : Int) (A2 : Option Addr) (c2 : Nat) (l2 : List Int) (r : Int) (w : World) (hr0 : Kd.C k67 w A0 l0.length l0) (hc0 : l0.length ≤ c0) (hr2 : Kd.C (Kd.int .i64) w A2 l2.length l2) (hc2 : l2.length ≤ c2) (h : impl_has.f l0 a1 l2 = some r) :
    Calls Try.prog 50 #[.slice A0 l0.length c0, .int .i64 a1, .slice A2 l2.length c2] w fun e w' => e = .returned (.int .i64 r) ∧ Below w.heap.size w w' := by
  obtain rfl := Option.some.inj h
  clear h
  have hb0 : Below w.heap.size w ((w.alloc (.cells #[.int .i64 a1] 2)).alloc (.cells #[.slice A2 l2.length c2] 46)) := below_alloc (below_alloc (Below.refl _ _) _) _
  have hcon := impl_Hop.calls A0 c0 l0 72 #[.pointer (some ⟨w.heap.size, 0, none⟩), .pointer (some ⟨w.heap.size + 1, 0, none⟩)] (impl_has.p a1 l2) ((w.alloc (.cells #[.int .i64 a1] 2)).alloc (.cells #[.slice A2 l2.length c2] 46)) (enters_of Try.func72 (by kernel_rfl) rfl) (Kd.C_below hr0 hb0)
    (fun W x hx hb => (impl_has_1.calls x _ _ a1 A2 c2 l2 W ((hb.cell (by first | (simp; omega) | simp)).trans (by simp)) ((hb.cell (by first | (simp; omega) | simp)).trans (by simp)) (Nat.lt_of_lt_of_le (by first | (simp; omega) | simp) hb.size) (Nat.lt_of_lt_of_le (by first | (simp; omega) | simp) hb.size) (Kd.C_below hr2 (below_step hb0 hb)) hc2).mono fun e w' h => ⟨h.1, below_step hb h.2⟩)
  generalize idxP (impl_has.p a1 l2) l0 = r at hcon ⊢
  have HC := Aside0.mk hcon
  have HB := Aside0.mk hb0
  clear hcon hb0 hr0 hc0 hr2 hc2
  go_enter Try.func50, Try.ntmps50
  go_wp2_with (go_at_call 71; refine HC.out.mono ?_; rintro e w' ⟨rfl, hd⟩)
  go_ret
  exact ⟨rfl, below_step HB.out hd⟩


/-! ### impl_within: function 51 -/
def impl_within.f (a0 a1 a2 : Int) : Option Bool := some (withinB a0 a1 a2)
theorem impl_within.calls (a0 a1 a2 : Int) (r : Bool) (w : World) (h : impl_within.f a0 a1 a2 = some r) : Calls Try.prog 51 #[.int .i64 a0, .int .i64 a1, .int .i64 a2] w fun e w' => e = .returned (.bool r) ∧ Drawn0 w w' := by
  have H := Aside0.mk (Option.some.inj h)
  clear h
  by_cases h1 : a1 ≤ a0
  · have h1b : decide (a1 ≤ a0) = true := decide_eq_true h1
    clear h1
    go_enter Try.func51, Try.ntmps51
    go_wp2
    go_ret
    exact ⟨by rw [← H.out]; simp [withinB, h1b], by repeat (first | exact Drawn0.refl _ | apply Drawn0.step)⟩
  · have h1b : decide (a1 ≤ a0) = false := decide_eq_false h1
    clear h1
    go_enter Try.func51, Try.ntmps51
    go_wp2
    go_ret
    exact ⟨by rw [← H.out]; simp [withinB, h1b], by repeat (first | exact Drawn0.refl _ | apply Drawn0.step)⟩


/-! ### impl_isKey: function 52 -/
def impl_isKey.f (a0 : Int) : Option Bool := some (withinB a0 0 31)
theorem impl_isKey.calls (a0 : Int) (r : Bool) (w : World) (h : impl_isKey.f a0 = some r) : Calls Try.prog 52 #[.int .i64 a0] w fun e w' => e = .returned (.bool r) ∧ Drawn0 w w' := by
  have h1 := fun W => impl_within.calls a0 0 31 r W h
  clear h
  have H1 := Aside0.mk h1
  clear h1
  go_enter Try.func52, Try.ntmps52
  go_wp2_with (go_at_call 51; refine (H1.out _).mono ?_; rintro e w' ⟨rfl, hd⟩)
  go_ret
  exact ⟨rfl, hd⟩


/-! ### impl_HistoryFault: function 20 -/
def hopCode (pre : List S67) (x : S67) : Int :=
  if (!withinB x.f0 1 5 || !withinB x.f1 2 999 || !withinB x.f2 0 31 || !withinB x.f3 0 999) = true then 3
  else if ((!(x.f0 == 2 || x.f0 == 3) && x.f2 != 0) || (x.f0 != 2 && x.f3 != 0)) = true then 1
  else if ((decide (0 ≤ idxP (impl_has.p x.f1 [1]) pre) == (x.f0 == 1)) || decide (0 ≤ idxP (impl_has.p x.f1 [4, 5]) pre)) = true then 10 else 0
def histGo : List S67 → List S67 → Int
  | _, [] => 0
  | pre, x :: xs => if hopCode pre x = 0 then histGo (pre ++ [x]) xs else hopCode pre x
def impl_HistoryFault.f (l0 : List S67) : Option Int := some (if 400 < l0.length then 2 else histGo [] l0)
theorem histGo_step (l : List S67) (k : Nat) (h : k < l.length) : histGo (l.take k) (l.drop k) = if hopCode (l.take k) (l.getD k z67) = 0 then histGo (l.take (k + 1)) (l.drop (k + 1)) else hopCode (l.take k) (l.getD k z67) := by
  rw [List.drop_eq_getElem_cons h, List.take_succ_eq_append_getElem h, List.getD_eq_getElem?_getD, List.getElem?_eq_getElem h]
  rfl
theorem has_cut (A0 : Option Addr) (c0 n : Nat) (l0 : List S67) (hn : n ≤ l0.length) (a1 : Int) (l2 : List Int) (hl2 : l2.length ≤ 5) (w : World) (hr0 : Kd.C k67 w A0 l0.length l0) (hc0 : l0.length ≤ c0) (b T : Nat) (W : World) (hb : Below w.heap.size w W) (hr2 : W.heap[b]? = some (.cells (l2.map (Value.int .i64)).toArray T (0, 0))) :
    Calls Try.prog 50 #[.slice A0 n c0, .int .i64 a1, .slice (some ⟨b, 0, none⟩) l2.length l2.length] W fun e w' => e = .returned (.int .i64 (idxP (impl_has.p a1 l2) (l0.take n))) ∧ Below W.heap.size W w' := by
  have hl : (l0.take n).length = n := by rw [List.length_take]; omega
  have h := impl_has.calls A0 c0 (l0.take n) a1 (some ⟨b, 0, none⟩) l2.length l2 _ W (Kd.C_below (Kd.C_take hr0 hn) hb) (by omega) (C_block hr2 (by omega)) (Nat.le_refl _) rfl
  rw [hl] at h
  exact h
theorem cells4 {w : World} {b T : Nat} {v0 v1 v2 v3 : Value} (h : w.heap[b]? = some (.cells #[v0, v1, v2, v3] T (0, 0))) : w.cell? ⟨b, 0, none⟩ = some v0 ∧ w.cell? ⟨b, 1, none⟩ = some v1 ∧ w.cell? ⟨b, 2, none⟩ = some v2 ∧ w.cell? ⟨b, 3, none⟩ = some v3 :=
  ⟨(blk_cell h 0).trans rfl, (blk_cell h 1).trans rfl, (blk_cell h 2).trans rfl, (blk_cell h 3).trans rfl⟩
set_option maxHeartbeats 8000000 in
set_option maxRecDepth 100000 in
theorem impl_HistoryFault.calls (A0 : Option Addr) (c0 : Nat) (l0 : List S67) (r : Int) (w : World) (hr0 : Kd.C k67 w A0 l0.length l0) (hc0 : l0.length ≤ c0) (h : impl_HistoryFault.f l0 = some r) :
    Calls Try.prog 20 #[.slice A0 l0.length c0] w fun e w' => e = .returned (.int .i64 r) ∧ Below w.heap.size w w' := by
  have HR := Aside0.mk (Option.some.inj h)
  clear h
  have hlen := Kd.C_max hr0
  by_cases hbig : 400 < l0.length
  · have hbz : (400 : Int) < (l0.length : Int) := by omega
    rw [if_pos hbig] at HR
    clear hr0 hc0
    go_enter Try.func20, Try.ntmps20
    go_wp2
    go_ret
    exact ⟨by rw [← HR.out]; rfl, Below.refl _ _⟩
  · have hbz : ¬ (400 : Int) < (l0.length : Int) := by omega
    rw [if_neg hbig] at HR
    have hH1 := fun a1 n hn => has_cut A0 c0 n l0 hn a1 [1] (by simp) w hr0 hc0
    have hH2 := fun a1 n hn => has_cut A0 c0 n l0 hn a1 [4, 5] (by simp) w hr0 hc0
    have HH1 := Aside0.mk hH1
    have HH2 := Aside0.mk hH2
    have HRR := Aside0.mk hr0
    clear hH1 hH2 hr0
    go_enter Try.func20, Try.ntmps20
    go_wp2
    go_loopg [2, 13] l0.length (fun gg s2 s13 wr => ∃ kk : Nat, kk ≤ l0.length ∧ l0.length - kk ≤ gg ∧ s2 = .int .i64 0 ∧ s13 = .int .i64 kk ∧ Aside0 (Below w.heap.size w wr) ∧ Aside0 (histGo (l0.take kk) (l0.drop kk) = r))
    case atStart => exact ⟨0, Nat.zero_le _, by omega, rfl, rfl, ⟨Below.refl _ w⟩, ⟨by simpa using HR.out⟩⟩
    case round =>
      obtain ⟨kk, hkk, hg, rfl, rfl, BW, HA⟩ := hrel
      by_cases hlt : kk < l0.length
      · have hltz : (kk : Int) < (l0.length : Int) := by omega
        have hrd := Kd.C_below HRR.out BW.out
        obtain ⟨ad, eA, hd0, hd1, hd2, hd3⟩ := at_T67 hrd (kk : Int) (by omega) (by omega)
        have hx : rd_T67 l0 (kk : Int) = l0.getD kk z67 := rfl
        simp only [Int.toNat_natCast] at hd0 hd1 hd2 hd3
        have HS := Aside0.mk (histGo_step l0 kk hlt)
        rw [← hx] at HS
        generalize rd_T67 l0 (kk : Int) = x at *
        obtain ⟨x0, x1, x2, x3⟩ := x
        clear hx hrd
        have HE := Aside0.mk eA
        subst eA
        dsimp only at hd0 hd1 hd2 hd3
        have hC : hopCode (l0.take kk) ⟨x0, x1, x2, x3⟩ = (if (!withinB x0 1 5 || !withinB x1 2 999 || !withinB x2 0 31 || !withinB x3 0 999) = true then 3
            else if ((!(x0 == 2 || x0 == 3) && x2 != 0) || (x0 != 2 && x3 != 0)) = true then 1
            else if ((decide (0 ≤ idxP (impl_has.p x1 [1]) (l0.take kk)) == (x0 == 1)) || decide (0 ≤ idxP (impl_has.p x1 [4, 5]) (l0.take kk))) = true then 10 else 0) := rfl
        rw [HA.out] at HS
        generalize hopCode (l0.take kk) ⟨x0, x1, x2, x3⟩ = c at HS hC
        have hG1 := HH1.out x1 kk (by omega)
        have hG2 := HH2.out x1 kk (by omega)
        generalize idxP (impl_has.p x1 [1]) (l0.take kk) = q1 at hG1 hC
        generalize idxP (impl_has.p x1 [4, 5]) (l0.take kk) = q2 at hG2 hC
        have hW1 := fun W => impl_within.calls x0 1 5 _ W rfl
        have hW2 := fun W => impl_within.calls x1 2 999 _ W rfl
        have hW3 := fun W => impl_isKey.calls x2 _ W rfl
        have hW4 := fun W => impl_within.calls x3 0 999 _ W rfl
        generalize withinB x0 1 5 = b1 at hW1 hC
        generalize withinB x1 2 999 = b2 at hW2 hC
        generalize withinB x2 0 31 = b3 at hW3 hC
        generalize withinB x3 0 999 = b4 at hW4 hC
        have HC := Aside0.mk hC
        have G1 := Aside0.mk hG1
        have G2 := Aside0.mk hG2
        have W1 := Aside0.mk hW1
        have W2 := Aside0.mk hW2
        have W3 := Aside0.mk hW3
        have W4 := Aside0.mk hW4
        clear hC hG1 hG2 hW1 hW2 hW3 hW4 HH1 HH2
        go_upto_region 6 with fail
        go_cut [5, 6] (fun s5 s6 wx => s5 = .bool (x0 == 2 || x0 == 3) ∧ s6 = .slice (some ad) kk c0 ∧ Aside0 (Below wr.heap.size wr wx) ∧ Aside0 (wx.heap[wr.heap.size]? = some (.cells #[.int .i64 x0, .int .i64 x1, .int .i64 x2, .int .i64 x3] 67 (0, 0))))
        case first =>
          have hk0 : (0 : Int) ≤ (kk : Int) := by omega
          have hk1 : (kk : Int) ≤ (l0.length : Int) := by omega
          have hk2 : (kk : Int) ≤ (c0 : Int) := by omega
          by_cases e2 : x0 = 2
          · have e2b : (x0 == 2) = true := by simp [e2]
            clear e2
            go_quiet (fail)
            go_wp2
            go_meet
            exact ⟨by simp [e2b], rfl, ⟨pw_below_drewN (below_alloc (Below.refl _ _) _) _⟩, ⟨heap_alloc_new wr _⟩⟩
          · have e2b : (x0 == 2) = false := by simp [e2]
            clear e2
            go_quiet (fail)
            go_wp2
            go_meet
            exact ⟨by simp [e2b], rfl, ⟨pw_below_drewN (below_alloc (Below.refl _ _) _) _⟩, ⟨heap_alloc_new wr _⟩⟩
        case rest =>
          obtain ⟨rfl, rfl, CB, CX⟩ := hcut
          generalize (x0 == 2 || x0 == 3) = tt at HC ⊢
          obtain ⟨hx0, hx1, hx2, hx3⟩ := cells4 CX.out
          clear hd0 hd1 hd2 hd3
          go_upto_region 8 with (go_at_call 50; refine (G1.out _ 2 _ ?s1 ?s2).mono ?_; (case s1 => exact below_alloc (below_step BW.out CB.out) _); (case s2 => exact heap_alloc_new _ _); rintro e w1 ⟨rfl, hb1⟩)
          have hB1 := below_step (below_alloc (below_step BW.out CB.out) _) hb1
          have hX1 := blk_below (blk_alloc CX.out _) hb1
          have B1 := Aside0.mk hB1
          have X1 := Aside0.mk hX1
          clear hx0 hx1 hx2 hx3 hB1 hX1 hb1 CB CX
          obtain ⟨hx0, hx1, hx2, hx3⟩ := cells4 X1.out
          cases b1 with
          | false =>
            have hc : c = 3 := by rw [HC.out]; rfl
            have HK := Aside0.mk hc
            clear hc
            go_wp2_with (first | (go_at_call 51; (with_reducible refine (W1.out _).mono ?_); rintro e w2 ⟨rfl, ⟨n2, rfl⟩⟩) | (go_at_call 51; (with_reducible refine (W2.out _).mono ?_); rintro e w2 ⟨rfl, ⟨n2, rfl⟩⟩) | (go_at_call 52; (with_reducible refine (W3.out _).mono ?_); rintro e w2 ⟨rfl, ⟨n2, rfl⟩⟩) | (go_at_call 51; (with_reducible refine (W4.out _).mono ?_); rintro e w2 ⟨rfl, ⟨n2, rfl⟩⟩) | (go_at_call 50; refine (G2.out _ 2 _ ?s1 ?s2).mono ?_; (case s1 => exact below_alloc (by repeat (first | exact B1.out | apply pw_below_drewN)) _); (case s2 => exact heap_alloc_new _ _); rintro e w3 ⟨rfl, hb3⟩))
            go_ret
            exact ⟨by rw [HS.out, HK.out]; rfl, (by repeat (first | exact B1.out | apply pw_below_drewN))⟩
          | true =>
          cases b2 with
          | false =>
            have hc : c = 3 := by rw [HC.out]; rfl
            have HK := Aside0.mk hc
            clear hc
            go_wp2_with (first | (go_at_call 51; (with_reducible refine (W1.out _).mono ?_); rintro e w2 ⟨rfl, ⟨n2, rfl⟩⟩) | (go_at_call 51; (with_reducible refine (W2.out _).mono ?_); rintro e w2 ⟨rfl, ⟨n2, rfl⟩⟩) | (go_at_call 52; (with_reducible refine (W3.out _).mono ?_); rintro e w2 ⟨rfl, ⟨n2, rfl⟩⟩) | (go_at_call 51; (with_reducible refine (W4.out _).mono ?_); rintro e w2 ⟨rfl, ⟨n2, rfl⟩⟩) | (go_at_call 50; refine (G2.out _ 2 _ ?s1 ?s2).mono ?_; (case s1 => exact below_alloc (by repeat (first | exact B1.out | apply pw_below_drewN)) _); (case s2 => exact heap_alloc_new _ _); rintro e w3 ⟨rfl, hb3⟩))
            go_ret
            exact ⟨by rw [HS.out, HK.out]; rfl, (by repeat (first | exact B1.out | apply pw_below_drewN))⟩
          | true =>
          cases b3 with
          | false =>
            have hc : c = 3 := by rw [HC.out]; rfl
            have HK := Aside0.mk hc
            clear hc
            go_wp2_with (first | (go_at_call 51; (with_reducible refine (W1.out _).mono ?_); rintro e w2 ⟨rfl, ⟨n2, rfl⟩⟩) | (go_at_call 51; (with_reducible refine (W2.out _).mono ?_); rintro e w2 ⟨rfl, ⟨n2, rfl⟩⟩) | (go_at_call 52; (with_reducible refine (W3.out _).mono ?_); rintro e w2 ⟨rfl, ⟨n2, rfl⟩⟩) | (go_at_call 51; (with_reducible refine (W4.out _).mono ?_); rintro e w2 ⟨rfl, ⟨n2, rfl⟩⟩) | (go_at_call 50; refine (G2.out _ 2 _ ?s1 ?s2).mono ?_; (case s1 => exact below_alloc (by repeat (first | exact B1.out | apply pw_below_drewN)) _); (case s2 => exact heap_alloc_new _ _); rintro e w3 ⟨rfl, hb3⟩))
            go_ret
            exact ⟨by rw [HS.out, HK.out]; rfl, (by repeat (first | exact B1.out | apply pw_below_drewN))⟩
          | true =>
          cases b4 with
          | false =>
            have hc : c = 3 := by rw [HC.out]; rfl
            have HK := Aside0.mk hc
            clear hc
            go_wp2_with (first | (go_at_call 51; (with_reducible refine (W1.out _).mono ?_); rintro e w2 ⟨rfl, ⟨n2, rfl⟩⟩) | (go_at_call 51; (with_reducible refine (W2.out _).mono ?_); rintro e w2 ⟨rfl, ⟨n2, rfl⟩⟩) | (go_at_call 52; (with_reducible refine (W3.out _).mono ?_); rintro e w2 ⟨rfl, ⟨n2, rfl⟩⟩) | (go_at_call 51; (with_reducible refine (W4.out _).mono ?_); rintro e w2 ⟨rfl, ⟨n2, rfl⟩⟩) | (go_at_call 50; refine (G2.out _ 2 _ ?s1 ?s2).mono ?_; (case s1 => exact below_alloc (by repeat (first | exact B1.out | apply pw_below_drewN)) _); (case s2 => exact heap_alloc_new _ _); rintro e w3 ⟨rfl, hb3⟩))
            go_ret
            exact ⟨by rw [HS.out, HK.out]; rfl, (by repeat (first | exact B1.out | apply pw_below_drewN))⟩
          | true =>
          generalize decide (0 ≤ q1) = bg at HC ⊢
          cases tt with
          | true =>
            cases z02 : (x0 != 2) with
            | false =>
              cases z1 : (x0 == 1) with
              | false =>
                cases bg with
                | false =>
                  have hc : c = 10 := by rw [HC.out]; simp [z02, z1]
                  have HK := Aside0.mk hc
                  clear hc
                  go_wp2_with (first | (go_at_call 51; (with_reducible refine (W1.out _).mono ?_); rintro e w2 ⟨rfl, ⟨n2, rfl⟩⟩) | (go_at_call 51; (with_reducible refine (W2.out _).mono ?_); rintro e w2 ⟨rfl, ⟨n2, rfl⟩⟩) | (go_at_call 52; (with_reducible refine (W3.out _).mono ?_); rintro e w2 ⟨rfl, ⟨n2, rfl⟩⟩) | (go_at_call 51; (with_reducible refine (W4.out _).mono ?_); rintro e w2 ⟨rfl, ⟨n2, rfl⟩⟩) | (go_at_call 50; refine (G2.out _ 2 _ ?s1 ?s2).mono ?_; (case s1 => exact below_alloc (by repeat (first | exact B1.out | apply pw_below_drewN)) _); (case s2 => exact heap_alloc_new _ _); rintro e w3 ⟨rfl, hb3⟩))
                  go_ret
                  exact ⟨by rw [HS.out, HK.out]; rfl, (by repeat (first | exact B1.out | apply pw_below_drewN))⟩
                | true =>
                  cases zq : (decide (0 ≤ q2)) with
                  | true =>
                    have hc : c = 10 := by rw [HC.out]; simp [z02, z1, zq]
                    have HK := Aside0.mk hc
                    clear hc
                    go_wp2_with (first | (go_at_call 51; (with_reducible refine (W1.out _).mono ?_); rintro e w2 ⟨rfl, ⟨n2, rfl⟩⟩) | (go_at_call 51; (with_reducible refine (W2.out _).mono ?_); rintro e w2 ⟨rfl, ⟨n2, rfl⟩⟩) | (go_at_call 52; (with_reducible refine (W3.out _).mono ?_); rintro e w2 ⟨rfl, ⟨n2, rfl⟩⟩) | (go_at_call 51; (with_reducible refine (W4.out _).mono ?_); rintro e w2 ⟨rfl, ⟨n2, rfl⟩⟩) | (go_at_call 50; refine (G2.out _ 2 _ ?s1 ?s2).mono ?_; (case s1 => exact below_alloc (by repeat (first | exact B1.out | apply pw_below_drewN)) _); (case s2 => exact heap_alloc_new _ _); rintro e w3 ⟨rfl, hb3⟩))
                    go_ret
                    exact ⟨by rw [HS.out, HK.out]; rfl, below_step (below_alloc (by repeat (first | exact B1.out | apply pw_below_drewN)) _) hb3⟩
                  | false =>
                    have hc : c = 0 := by rw [HC.out]; simp [z02, z1, zq]
                    have HK := Aside0.mk hc
                    clear hc
                    go_wp2_with (first | (go_at_call 51; (with_reducible refine (W1.out _).mono ?_); rintro e w2 ⟨rfl, ⟨n2, rfl⟩⟩) | (go_at_call 51; (with_reducible refine (W2.out _).mono ?_); rintro e w2 ⟨rfl, ⟨n2, rfl⟩⟩) | (go_at_call 52; (with_reducible refine (W3.out _).mono ?_); rintro e w2 ⟨rfl, ⟨n2, rfl⟩⟩) | (go_at_call 51; (with_reducible refine (W4.out _).mono ?_); rintro e w2 ⟨rfl, ⟨n2, rfl⟩⟩) | (go_at_call 50; refine (G2.out _ 2 _ ?s1 ?s2).mono ?_; (case s1 => exact below_alloc (by repeat (first | exact B1.out | apply pw_below_drewN)) _); (case s2 => exact heap_alloc_new _ _); rintro e w3 ⟨rfl, hb3⟩))
                    go_roundg (l0.length - (kk + 1))
                    case measure => omega
                    case rel => exact ⟨kk + 1, by omega, by omega, rfl, by go_num, ⟨below_step (below_alloc (by repeat (first | exact B1.out | apply pw_below_drewN)) _) hb3⟩, ⟨by have h_ := HS.out; rw [HK.out, if_pos rfl] at h_; exact h_.symm⟩⟩
              | true =>
                cases bg with
                | false =>
                  cases zq : (decide (0 ≤ q2)) with
                  | true =>
                    have hc : c = 10 := by rw [HC.out]; simp [z02, z1, zq]
                    have HK := Aside0.mk hc
                    clear hc
                    go_wp2_with (first | (go_at_call 51; (with_reducible refine (W1.out _).mono ?_); rintro e w2 ⟨rfl, ⟨n2, rfl⟩⟩) | (go_at_call 51; (with_reducible refine (W2.out _).mono ?_); rintro e w2 ⟨rfl, ⟨n2, rfl⟩⟩) | (go_at_call 52; (with_reducible refine (W3.out _).mono ?_); rintro e w2 ⟨rfl, ⟨n2, rfl⟩⟩) | (go_at_call 51; (with_reducible refine (W4.out _).mono ?_); rintro e w2 ⟨rfl, ⟨n2, rfl⟩⟩) | (go_at_call 50; refine (G2.out _ 2 _ ?s1 ?s2).mono ?_; (case s1 => exact below_alloc (by repeat (first | exact B1.out | apply pw_below_drewN)) _); (case s2 => exact heap_alloc_new _ _); rintro e w3 ⟨rfl, hb3⟩))
                    go_ret
                    exact ⟨by rw [HS.out, HK.out]; rfl, below_step (below_alloc (by repeat (first | exact B1.out | apply pw_below_drewN)) _) hb3⟩
                  | false =>
                    have hc : c = 0 := by rw [HC.out]; simp [z02, z1, zq]
                    have HK := Aside0.mk hc
                    clear hc
                    go_wp2_with (first | (go_at_call 51; (with_reducible refine (W1.out _).mono ?_); rintro e w2 ⟨rfl, ⟨n2, rfl⟩⟩) | (go_at_call 51; (with_reducible refine (W2.out _).mono ?_); rintro e w2 ⟨rfl, ⟨n2, rfl⟩⟩) | (go_at_call 52; (with_reducible refine (W3.out _).mono ?_); rintro e w2 ⟨rfl, ⟨n2, rfl⟩⟩) | (go_at_call 51; (with_reducible refine (W4.out _).mono ?_); rintro e w2 ⟨rfl, ⟨n2, rfl⟩⟩) | (go_at_call 50; refine (G2.out _ 2 _ ?s1 ?s2).mono ?_; (case s1 => exact below_alloc (by repeat (first | exact B1.out | apply pw_below_drewN)) _); (case s2 => exact heap_alloc_new _ _); rintro e w3 ⟨rfl, hb3⟩))
                    go_roundg (l0.length - (kk + 1))
                    case measure => omega
                    case rel => exact ⟨kk + 1, by omega, by omega, rfl, by go_num, ⟨below_step (below_alloc (by repeat (first | exact B1.out | apply pw_below_drewN)) _) hb3⟩, ⟨by have h_ := HS.out; rw [HK.out, if_pos rfl] at h_; exact h_.symm⟩⟩
                | true =>
                  have hc : c = 10 := by rw [HC.out]; simp [z02, z1]
                  have HK := Aside0.mk hc
                  clear hc
                  go_wp2_with (first | (go_at_call 51; (with_reducible refine (W1.out _).mono ?_); rintro e w2 ⟨rfl, ⟨n2, rfl⟩⟩) | (go_at_call 51; (with_reducible refine (W2.out _).mono ?_); rintro e w2 ⟨rfl, ⟨n2, rfl⟩⟩) | (go_at_call 52; (with_reducible refine (W3.out _).mono ?_); rintro e w2 ⟨rfl, ⟨n2, rfl⟩⟩) | (go_at_call 51; (with_reducible refine (W4.out _).mono ?_); rintro e w2 ⟨rfl, ⟨n2, rfl⟩⟩) | (go_at_call 50; refine (G2.out _ 2 _ ?s1 ?s2).mono ?_; (case s1 => exact below_alloc (by repeat (first | exact B1.out | apply pw_below_drewN)) _); (case s2 => exact heap_alloc_new _ _); rintro e w3 ⟨rfl, hb3⟩))
                  go_ret
                  exact ⟨by rw [HS.out, HK.out]; rfl, (by repeat (first | exact B1.out | apply pw_below_drewN))⟩
            | true =>
              cases z3 : (x3 != 0) with
              | true =>
                have hc : c = 1 := by rw [HC.out]; simp [z02, z3]
                have HK := Aside0.mk hc
                clear hc
                go_wp2_with (first | (go_at_call 51; (with_reducible refine (W1.out _).mono ?_); rintro e w2 ⟨rfl, ⟨n2, rfl⟩⟩) | (go_at_call 51; (with_reducible refine (W2.out _).mono ?_); rintro e w2 ⟨rfl, ⟨n2, rfl⟩⟩) | (go_at_call 52; (with_reducible refine (W3.out _).mono ?_); rintro e w2 ⟨rfl, ⟨n2, rfl⟩⟩) | (go_at_call 51; (with_reducible refine (W4.out _).mono ?_); rintro e w2 ⟨rfl, ⟨n2, rfl⟩⟩) | (go_at_call 50; refine (G2.out _ 2 _ ?s1 ?s2).mono ?_; (case s1 => exact below_alloc (by repeat (first | exact B1.out | apply pw_below_drewN)) _); (case s2 => exact heap_alloc_new _ _); rintro e w3 ⟨rfl, hb3⟩))
                go_ret
                exact ⟨by rw [HS.out, HK.out]; rfl, (by repeat (first | exact B1.out | apply pw_below_drewN))⟩
              | false =>
                cases z1 : (x0 == 1) with
                | false =>
                  cases bg with
                  | false =>
                    have hc : c = 10 := by rw [HC.out]; simp [z02, z3, z1]
                    have HK := Aside0.mk hc
                    clear hc
                    go_wp2_with (first | (go_at_call 51; (with_reducible refine (W1.out _).mono ?_); rintro e w2 ⟨rfl, ⟨n2, rfl⟩⟩) | (go_at_call 51; (with_reducible refine (W2.out _).mono ?_); rintro e w2 ⟨rfl, ⟨n2, rfl⟩⟩) | (go_at_call 52; (with_reducible refine (W3.out _).mono ?_); rintro e w2 ⟨rfl, ⟨n2, rfl⟩⟩) | (go_at_call 51; (with_reducible refine (W4.out _).mono ?_); rintro e w2 ⟨rfl, ⟨n2, rfl⟩⟩) | (go_at_call 50; refine (G2.out _ 2 _ ?s1 ?s2).mono ?_; (case s1 => exact below_alloc (by repeat (first | exact B1.out | apply pw_below_drewN)) _); (case s2 => exact heap_alloc_new _ _); rintro e w3 ⟨rfl, hb3⟩))
                    go_ret
                    exact ⟨by rw [HS.out, HK.out]; rfl, (by repeat (first | exact B1.out | apply pw_below_drewN))⟩
                  | true =>
                    cases zq : (decide (0 ≤ q2)) with
                    | true =>
                      have hc : c = 10 := by rw [HC.out]; simp [z02, z3, z1, zq]
                      have HK := Aside0.mk hc
                      clear hc
                      go_wp2_with (first | (go_at_call 51; (with_reducible refine (W1.out _).mono ?_); rintro e w2 ⟨rfl, ⟨n2, rfl⟩⟩) | (go_at_call 51; (with_reducible refine (W2.out _).mono ?_); rintro e w2 ⟨rfl, ⟨n2, rfl⟩⟩) | (go_at_call 52; (with_reducible refine (W3.out _).mono ?_); rintro e w2 ⟨rfl, ⟨n2, rfl⟩⟩) | (go_at_call 51; (with_reducible refine (W4.out _).mono ?_); rintro e w2 ⟨rfl, ⟨n2, rfl⟩⟩) | (go_at_call 50; refine (G2.out _ 2 _ ?s1 ?s2).mono ?_; (case s1 => exact below_alloc (by repeat (first | exact B1.out | apply pw_below_drewN)) _); (case s2 => exact heap_alloc_new _ _); rintro e w3 ⟨rfl, hb3⟩))
                      go_ret
                      exact ⟨by rw [HS.out, HK.out]; rfl, below_step (below_alloc (by repeat (first | exact B1.out | apply pw_below_drewN)) _) hb3⟩
                    | false =>
                      have hc : c = 0 := by rw [HC.out]; simp [z02, z3, z1, zq]
                      have HK := Aside0.mk hc
                      clear hc
                      go_wp2_with (first | (go_at_call 51; (with_reducible refine (W1.out _).mono ?_); rintro e w2 ⟨rfl, ⟨n2, rfl⟩⟩) | (go_at_call 51; (with_reducible refine (W2.out _).mono ?_); rintro e w2 ⟨rfl, ⟨n2, rfl⟩⟩) | (go_at_call 52; (with_reducible refine (W3.out _).mono ?_); rintro e w2 ⟨rfl, ⟨n2, rfl⟩⟩) | (go_at_call 51; (with_reducible refine (W4.out _).mono ?_); rintro e w2 ⟨rfl, ⟨n2, rfl⟩⟩) | (go_at_call 50; refine (G2.out _ 2 _ ?s1 ?s2).mono ?_; (case s1 => exact below_alloc (by repeat (first | exact B1.out | apply pw_below_drewN)) _); (case s2 => exact heap_alloc_new _ _); rintro e w3 ⟨rfl, hb3⟩))
                      go_roundg (l0.length - (kk + 1))
                      case measure => omega
                      case rel => exact ⟨kk + 1, by omega, by omega, rfl, by go_num, ⟨below_step (below_alloc (by repeat (first | exact B1.out | apply pw_below_drewN)) _) hb3⟩, ⟨by have h_ := HS.out; rw [HK.out, if_pos rfl] at h_; exact h_.symm⟩⟩
                | true =>
                  cases bg with
                  | false =>
                    cases zq : (decide (0 ≤ q2)) with
                    | true =>
                      have hc : c = 10 := by rw [HC.out]; simp [z02, z3, z1, zq]
                      have HK := Aside0.mk hc
                      clear hc
                      go_wp2_with (first | (go_at_call 51; (with_reducible refine (W1.out _).mono ?_); rintro e w2 ⟨rfl, ⟨n2, rfl⟩⟩) | (go_at_call 51; (with_reducible refine (W2.out _).mono ?_); rintro e w2 ⟨rfl, ⟨n2, rfl⟩⟩) | (go_at_call 52; (with_reducible refine (W3.out _).mono ?_); rintro e w2 ⟨rfl, ⟨n2, rfl⟩⟩) | (go_at_call 51; (with_reducible refine (W4.out _).mono ?_); rintro e w2 ⟨rfl, ⟨n2, rfl⟩⟩) | (go_at_call 50; refine (G2.out _ 2 _ ?s1 ?s2).mono ?_; (case s1 => exact below_alloc (by repeat (first | exact B1.out | apply pw_below_drewN)) _); (case s2 => exact heap_alloc_new _ _); rintro e w3 ⟨rfl, hb3⟩))
                      go_ret
                      exact ⟨by rw [HS.out, HK.out]; rfl, below_step (below_alloc (by repeat (first | exact B1.out | apply pw_below_drewN)) _) hb3⟩
                    | false =>
                      have hc : c = 0 := by rw [HC.out]; simp [z02, z3, z1, zq]
                      have HK := Aside0.mk hc
                      clear hc
                      go_wp2_with (first | (go_at_call 51; (with_reducible refine (W1.out _).mono ?_); rintro e w2 ⟨rfl, ⟨n2, rfl⟩⟩) | (go_at_call 51; (with_reducible refine (W2.out _).mono ?_); rintro e w2 ⟨rfl, ⟨n2, rfl⟩⟩) | (go_at_call 52; (with_reducible refine (W3.out _).mono ?_); rintro e w2 ⟨rfl, ⟨n2, rfl⟩⟩) | (go_at_call 51; (with_reducible refine (W4.out _).mono ?_); rintro e w2 ⟨rfl, ⟨n2, rfl⟩⟩) | (go_at_call 50; refine (G2.out _ 2 _ ?s1 ?s2).mono ?_; (case s1 => exact below_alloc (by repeat (first | exact B1.out | apply pw_below_drewN)) _); (case s2 => exact heap_alloc_new _ _); rintro e w3 ⟨rfl, hb3⟩))
                      go_roundg (l0.length - (kk + 1))
                      case measure => omega
                      case rel => exact ⟨kk + 1, by omega, by omega, rfl, by go_num, ⟨below_step (below_alloc (by repeat (first | exact B1.out | apply pw_below_drewN)) _) hb3⟩, ⟨by have h_ := HS.out; rw [HK.out, if_pos rfl] at h_; exact h_.symm⟩⟩
                  | true =>
                    have hc : c = 10 := by rw [HC.out]; simp [z02, z3, z1]
                    have HK := Aside0.mk hc
                    clear hc
                    go_wp2_with (first | (go_at_call 51; (with_reducible refine (W1.out _).mono ?_); rintro e w2 ⟨rfl, ⟨n2, rfl⟩⟩) | (go_at_call 51; (with_reducible refine (W2.out _).mono ?_); rintro e w2 ⟨rfl, ⟨n2, rfl⟩⟩) | (go_at_call 52; (with_reducible refine (W3.out _).mono ?_); rintro e w2 ⟨rfl, ⟨n2, rfl⟩⟩) | (go_at_call 51; (with_reducible refine (W4.out _).mono ?_); rintro e w2 ⟨rfl, ⟨n2, rfl⟩⟩) | (go_at_call 50; refine (G2.out _ 2 _ ?s1 ?s2).mono ?_; (case s1 => exact below_alloc (by repeat (first | exact B1.out | apply pw_below_drewN)) _); (case s2 => exact heap_alloc_new _ _); rintro e w3 ⟨rfl, hb3⟩))
                    go_ret
                    exact ⟨by rw [HS.out, HK.out]; rfl, (by repeat (first | exact B1.out | apply pw_below_drewN))⟩
          | false =>
            cases z2 : (x2 != 0) with
            | true =>
              have hc : c = 1 := by rw [HC.out]; simp [z2]
              have HK := Aside0.mk hc
              clear hc
              go_wp2_with (first | (go_at_call 51; (with_reducible refine (W1.out _).mono ?_); rintro e w2 ⟨rfl, ⟨n2, rfl⟩⟩) | (go_at_call 51; (with_reducible refine (W2.out _).mono ?_); rintro e w2 ⟨rfl, ⟨n2, rfl⟩⟩) | (go_at_call 52; (with_reducible refine (W3.out _).mono ?_); rintro e w2 ⟨rfl, ⟨n2, rfl⟩⟩) | (go_at_call 51; (with_reducible refine (W4.out _).mono ?_); rintro e w2 ⟨rfl, ⟨n2, rfl⟩⟩) | (go_at_call 50; refine (G2.out _ 2 _ ?s1 ?s2).mono ?_; (case s1 => exact below_alloc (by repeat (first | exact B1.out | apply pw_below_drewN)) _); (case s2 => exact heap_alloc_new _ _); rintro e w3 ⟨rfl, hb3⟩))
              go_ret
              exact ⟨by rw [HS.out, HK.out]; rfl, (by repeat (first | exact B1.out | apply pw_below_drewN))⟩
            | false =>
              cases z02 : (x0 != 2) with
              | false =>
                cases z1 : (x0 == 1) with
                | false =>
                  cases bg with
                  | false =>
                    have hc : c = 10 := by rw [HC.out]; simp [z2, z02, z1]
                    have HK := Aside0.mk hc
                    clear hc
                    go_wp2_with (first | (go_at_call 51; (with_reducible refine (W1.out _).mono ?_); rintro e w2 ⟨rfl, ⟨n2, rfl⟩⟩) | (go_at_call 51; (with_reducible refine (W2.out _).mono ?_); rintro e w2 ⟨rfl, ⟨n2, rfl⟩⟩) | (go_at_call 52; (with_reducible refine (W3.out _).mono ?_); rintro e w2 ⟨rfl, ⟨n2, rfl⟩⟩) | (go_at_call 51; (with_reducible refine (W4.out _).mono ?_); rintro e w2 ⟨rfl, ⟨n2, rfl⟩⟩) | (go_at_call 50; refine (G2.out _ 2 _ ?s1 ?s2).mono ?_; (case s1 => exact below_alloc (by repeat (first | exact B1.out | apply pw_below_drewN)) _); (case s2 => exact heap_alloc_new _ _); rintro e w3 ⟨rfl, hb3⟩))
                    go_ret
                    exact ⟨by rw [HS.out, HK.out]; rfl, (by repeat (first | exact B1.out | apply pw_below_drewN))⟩
                  | true =>
                    cases zq : (decide (0 ≤ q2)) with
                    | true =>
                      have hc : c = 10 := by rw [HC.out]; simp [z2, z02, z1, zq]
                      have HK := Aside0.mk hc
                      clear hc
                      go_wp2_with (first | (go_at_call 51; (with_reducible refine (W1.out _).mono ?_); rintro e w2 ⟨rfl, ⟨n2, rfl⟩⟩) | (go_at_call 51; (with_reducible refine (W2.out _).mono ?_); rintro e w2 ⟨rfl, ⟨n2, rfl⟩⟩) | (go_at_call 52; (with_reducible refine (W3.out _).mono ?_); rintro e w2 ⟨rfl, ⟨n2, rfl⟩⟩) | (go_at_call 51; (with_reducible refine (W4.out _).mono ?_); rintro e w2 ⟨rfl, ⟨n2, rfl⟩⟩) | (go_at_call 50; refine (G2.out _ 2 _ ?s1 ?s2).mono ?_; (case s1 => exact below_alloc (by repeat (first | exact B1.out | apply pw_below_drewN)) _); (case s2 => exact heap_alloc_new _ _); rintro e w3 ⟨rfl, hb3⟩))
                      go_ret
                      exact ⟨by rw [HS.out, HK.out]; rfl, below_step (below_alloc (by repeat (first | exact B1.out | apply pw_below_drewN)) _) hb3⟩
                    | false =>
                      have hc : c = 0 := by rw [HC.out]; simp [z2, z02, z1, zq]
                      have HK := Aside0.mk hc
                      clear hc
                      go_wp2_with (first | (go_at_call 51; (with_reducible refine (W1.out _).mono ?_); rintro e w2 ⟨rfl, ⟨n2, rfl⟩⟩) | (go_at_call 51; (with_reducible refine (W2.out _).mono ?_); rintro e w2 ⟨rfl, ⟨n2, rfl⟩⟩) | (go_at_call 52; (with_reducible refine (W3.out _).mono ?_); rintro e w2 ⟨rfl, ⟨n2, rfl⟩⟩) | (go_at_call 51; (with_reducible refine (W4.out _).mono ?_); rintro e w2 ⟨rfl, ⟨n2, rfl⟩⟩) | (go_at_call 50; refine (G2.out _ 2 _ ?s1 ?s2).mono ?_; (case s1 => exact below_alloc (by repeat (first | exact B1.out | apply pw_below_drewN)) _); (case s2 => exact heap_alloc_new _ _); rintro e w3 ⟨rfl, hb3⟩))
                      go_roundg (l0.length - (kk + 1))
                      case measure => omega
                      case rel => exact ⟨kk + 1, by omega, by omega, rfl, by go_num, ⟨below_step (below_alloc (by repeat (first | exact B1.out | apply pw_below_drewN)) _) hb3⟩, ⟨by have h_ := HS.out; rw [HK.out, if_pos rfl] at h_; exact h_.symm⟩⟩
                | true =>
                  cases bg with
                  | false =>
                    cases zq : (decide (0 ≤ q2)) with
                    | true =>
                      have hc : c = 10 := by rw [HC.out]; simp [z2, z02, z1, zq]
                      have HK := Aside0.mk hc
                      clear hc
                      go_wp2_with (first | (go_at_call 51; (with_reducible refine (W1.out _).mono ?_); rintro e w2 ⟨rfl, ⟨n2, rfl⟩⟩) | (go_at_call 51; (with_reducible refine (W2.out _).mono ?_); rintro e w2 ⟨rfl, ⟨n2, rfl⟩⟩) | (go_at_call 52; (with_reducible refine (W3.out _).mono ?_); rintro e w2 ⟨rfl, ⟨n2, rfl⟩⟩) | (go_at_call 51; (with_reducible refine (W4.out _).mono ?_); rintro e w2 ⟨rfl, ⟨n2, rfl⟩⟩) | (go_at_call 50; refine (G2.out _ 2 _ ?s1 ?s2).mono ?_; (case s1 => exact below_alloc (by repeat (first | exact B1.out | apply pw_below_drewN)) _); (case s2 => exact heap_alloc_new _ _); rintro e w3 ⟨rfl, hb3⟩))
                      go_ret
                      exact ⟨by rw [HS.out, HK.out]; rfl, below_step (below_alloc (by repeat (first | exact B1.out | apply pw_below_drewN)) _) hb3⟩
                    | false =>
                      have hc : c = 0 := by rw [HC.out]; simp [z2, z02, z1, zq]
                      have HK := Aside0.mk hc
                      clear hc
                      go_wp2_with (first | (go_at_call 51; (with_reducible refine (W1.out _).mono ?_); rintro e w2 ⟨rfl, ⟨n2, rfl⟩⟩) | (go_at_call 51; (with_reducible refine (W2.out _).mono ?_); rintro e w2 ⟨rfl, ⟨n2, rfl⟩⟩) | (go_at_call 52; (with_reducible refine (W3.out _).mono ?_); rintro e w2 ⟨rfl, ⟨n2, rfl⟩⟩) | (go_at_call 51; (with_reducible refine (W4.out _).mono ?_); rintro e w2 ⟨rfl, ⟨n2, rfl⟩⟩) | (go_at_call 50; refine (G2.out _ 2 _ ?s1 ?s2).mono ?_; (case s1 => exact below_alloc (by repeat (first | exact B1.out | apply pw_below_drewN)) _); (case s2 => exact heap_alloc_new _ _); rintro e w3 ⟨rfl, hb3⟩))
                      go_roundg (l0.length - (kk + 1))
                      case measure => omega
                      case rel => exact ⟨kk + 1, by omega, by omega, rfl, by go_num, ⟨below_step (below_alloc (by repeat (first | exact B1.out | apply pw_below_drewN)) _) hb3⟩, ⟨by have h_ := HS.out; rw [HK.out, if_pos rfl] at h_; exact h_.symm⟩⟩
                  | true =>
                    have hc : c = 10 := by rw [HC.out]; simp [z2, z02, z1]
                    have HK := Aside0.mk hc
                    clear hc
                    go_wp2_with (first | (go_at_call 51; (with_reducible refine (W1.out _).mono ?_); rintro e w2 ⟨rfl, ⟨n2, rfl⟩⟩) | (go_at_call 51; (with_reducible refine (W2.out _).mono ?_); rintro e w2 ⟨rfl, ⟨n2, rfl⟩⟩) | (go_at_call 52; (with_reducible refine (W3.out _).mono ?_); rintro e w2 ⟨rfl, ⟨n2, rfl⟩⟩) | (go_at_call 51; (with_reducible refine (W4.out _).mono ?_); rintro e w2 ⟨rfl, ⟨n2, rfl⟩⟩) | (go_at_call 50; refine (G2.out _ 2 _ ?s1 ?s2).mono ?_; (case s1 => exact below_alloc (by repeat (first | exact B1.out | apply pw_below_drewN)) _); (case s2 => exact heap_alloc_new _ _); rintro e w3 ⟨rfl, hb3⟩))
                    go_ret
                    exact ⟨by rw [HS.out, HK.out]; rfl, (by repeat (first | exact B1.out | apply pw_below_drewN))⟩
              | true =>
                cases z3 : (x3 != 0) with
                | true =>
                  have hc : c = 1 := by rw [HC.out]; simp [z2, z02, z3]
                  have HK := Aside0.mk hc
                  clear hc
                  go_wp2_with (first | (go_at_call 51; (with_reducible refine (W1.out _).mono ?_); rintro e w2 ⟨rfl, ⟨n2, rfl⟩⟩) | (go_at_call 51; (with_reducible refine (W2.out _).mono ?_); rintro e w2 ⟨rfl, ⟨n2, rfl⟩⟩) | (go_at_call 52; (with_reducible refine (W3.out _).mono ?_); rintro e w2 ⟨rfl, ⟨n2, rfl⟩⟩) | (go_at_call 51; (with_reducible refine (W4.out _).mono ?_); rintro e w2 ⟨rfl, ⟨n2, rfl⟩⟩) | (go_at_call 50; refine (G2.out _ 2 _ ?s1 ?s2).mono ?_; (case s1 => exact below_alloc (by repeat (first | exact B1.out | apply pw_below_drewN)) _); (case s2 => exact heap_alloc_new _ _); rintro e w3 ⟨rfl, hb3⟩))
                  go_ret
                  exact ⟨by rw [HS.out, HK.out]; rfl, (by repeat (first | exact B1.out | apply pw_below_drewN))⟩
                | false =>
                  cases z1 : (x0 == 1) with
                  | false =>
                    cases bg with
                    | false =>
                      have hc : c = 10 := by rw [HC.out]; simp [z2, z02, z3, z1]
                      have HK := Aside0.mk hc
                      clear hc
                      go_wp2_with (first | (go_at_call 51; (with_reducible refine (W1.out _).mono ?_); rintro e w2 ⟨rfl, ⟨n2, rfl⟩⟩) | (go_at_call 51; (with_reducible refine (W2.out _).mono ?_); rintro e w2 ⟨rfl, ⟨n2, rfl⟩⟩) | (go_at_call 52; (with_reducible refine (W3.out _).mono ?_); rintro e w2 ⟨rfl, ⟨n2, rfl⟩⟩) | (go_at_call 51; (with_reducible refine (W4.out _).mono ?_); rintro e w2 ⟨rfl, ⟨n2, rfl⟩⟩) | (go_at_call 50; refine (G2.out _ 2 _ ?s1 ?s2).mono ?_; (case s1 => exact below_alloc (by repeat (first | exact B1.out | apply pw_below_drewN)) _); (case s2 => exact heap_alloc_new _ _); rintro e w3 ⟨rfl, hb3⟩))
                      go_ret
                      exact ⟨by rw [HS.out, HK.out]; rfl, (by repeat (first | exact B1.out | apply pw_below_drewN))⟩
                    | true =>
                      cases zq : (decide (0 ≤ q2)) with
                      | true =>
                        have hc : c = 10 := by rw [HC.out]; simp [z2, z02, z3, z1, zq]
                        have HK := Aside0.mk hc
                        clear hc
                        go_wp2_with (first | (go_at_call 51; (with_reducible refine (W1.out _).mono ?_); rintro e w2 ⟨rfl, ⟨n2, rfl⟩⟩) | (go_at_call 51; (with_reducible refine (W2.out _).mono ?_); rintro e w2 ⟨rfl, ⟨n2, rfl⟩⟩) | (go_at_call 52; (with_reducible refine (W3.out _).mono ?_); rintro e w2 ⟨rfl, ⟨n2, rfl⟩⟩) | (go_at_call 51; (with_reducible refine (W4.out _).mono ?_); rintro e w2 ⟨rfl, ⟨n2, rfl⟩⟩) | (go_at_call 50; refine (G2.out _ 2 _ ?s1 ?s2).mono ?_; (case s1 => exact below_alloc (by repeat (first | exact B1.out | apply pw_below_drewN)) _); (case s2 => exact heap_alloc_new _ _); rintro e w3 ⟨rfl, hb3⟩))
                        go_ret
                        exact ⟨by rw [HS.out, HK.out]; rfl, below_step (below_alloc (by repeat (first | exact B1.out | apply pw_below_drewN)) _) hb3⟩
                      | false =>
                        have hc : c = 0 := by rw [HC.out]; simp [z2, z02, z3, z1, zq]
                        have HK := Aside0.mk hc
                        clear hc
                        go_wp2_with (first | (go_at_call 51; (with_reducible refine (W1.out _).mono ?_); rintro e w2 ⟨rfl, ⟨n2, rfl⟩⟩) | (go_at_call 51; (with_reducible refine (W2.out _).mono ?_); rintro e w2 ⟨rfl, ⟨n2, rfl⟩⟩) | (go_at_call 52; (with_reducible refine (W3.out _).mono ?_); rintro e w2 ⟨rfl, ⟨n2, rfl⟩⟩) | (go_at_call 51; (with_reducible refine (W4.out _).mono ?_); rintro e w2 ⟨rfl, ⟨n2, rfl⟩⟩) | (go_at_call 50; refine (G2.out _ 2 _ ?s1 ?s2).mono ?_; (case s1 => exact below_alloc (by repeat (first | exact B1.out | apply pw_below_drewN)) _); (case s2 => exact heap_alloc_new _ _); rintro e w3 ⟨rfl, hb3⟩))
                        go_roundg (l0.length - (kk + 1))
                        case measure => omega
                        case rel => exact ⟨kk + 1, by omega, by omega, rfl, by go_num, ⟨below_step (below_alloc (by repeat (first | exact B1.out | apply pw_below_drewN)) _) hb3⟩, ⟨by have h_ := HS.out; rw [HK.out, if_pos rfl] at h_; exact h_.symm⟩⟩
                  | true =>
                    cases bg with
                    | false =>
                      cases zq : (decide (0 ≤ q2)) with
                      | true =>
                        have hc : c = 10 := by rw [HC.out]; simp [z2, z02, z3, z1, zq]
                        have HK := Aside0.mk hc
                        clear hc
                        go_wp2_with (first | (go_at_call 51; (with_reducible refine (W1.out _).mono ?_); rintro e w2 ⟨rfl, ⟨n2, rfl⟩⟩) | (go_at_call 51; (with_reducible refine (W2.out _).mono ?_); rintro e w2 ⟨rfl, ⟨n2, rfl⟩⟩) | (go_at_call 52; (with_reducible refine (W3.out _).mono ?_); rintro e w2 ⟨rfl, ⟨n2, rfl⟩⟩) | (go_at_call 51; (with_reducible refine (W4.out _).mono ?_); rintro e w2 ⟨rfl, ⟨n2, rfl⟩⟩) | (go_at_call 50; refine (G2.out _ 2 _ ?s1 ?s2).mono ?_; (case s1 => exact below_alloc (by repeat (first | exact B1.out | apply pw_below_drewN)) _); (case s2 => exact heap_alloc_new _ _); rintro e w3 ⟨rfl, hb3⟩))
                        go_ret
                        exact ⟨by rw [HS.out, HK.out]; rfl, below_step (below_alloc (by repeat (first | exact B1.out | apply pw_below_drewN)) _) hb3⟩
                      | false =>
                        have hc : c = 0 := by rw [HC.out]; simp [z2, z02, z3, z1, zq]
                        have HK := Aside0.mk hc
                        clear hc
                        go_wp2_with (first | (go_at_call 51; (with_reducible refine (W1.out _).mono ?_); rintro e w2 ⟨rfl, ⟨n2, rfl⟩⟩) | (go_at_call 51; (with_reducible refine (W2.out _).mono ?_); rintro e w2 ⟨rfl, ⟨n2, rfl⟩⟩) | (go_at_call 52; (with_reducible refine (W3.out _).mono ?_); rintro e w2 ⟨rfl, ⟨n2, rfl⟩⟩) | (go_at_call 51; (with_reducible refine (W4.out _).mono ?_); rintro e w2 ⟨rfl, ⟨n2, rfl⟩⟩) | (go_at_call 50; refine (G2.out _ 2 _ ?s1 ?s2).mono ?_; (case s1 => exact below_alloc (by repeat (first | exact B1.out | apply pw_below_drewN)) _); (case s2 => exact heap_alloc_new _ _); rintro e w3 ⟨rfl, hb3⟩))
                        go_roundg (l0.length - (kk + 1))
                        case measure => omega
                        case rel => exact ⟨kk + 1, by omega, by omega, rfl, by go_num, ⟨below_step (below_alloc (by repeat (first | exact B1.out | apply pw_below_drewN)) _) hb3⟩, ⟨by have h_ := HS.out; rw [HK.out, if_pos rfl] at h_; exact h_.symm⟩⟩
                    | true =>
                      have hc : c = 10 := by rw [HC.out]; simp [z2, z02, z3, z1]
                      have HK := Aside0.mk hc
                      clear hc
                      go_wp2_with (first | (go_at_call 51; (with_reducible refine (W1.out _).mono ?_); rintro e w2 ⟨rfl, ⟨n2, rfl⟩⟩) | (go_at_call 51; (with_reducible refine (W2.out _).mono ?_); rintro e w2 ⟨rfl, ⟨n2, rfl⟩⟩) | (go_at_call 52; (with_reducible refine (W3.out _).mono ?_); rintro e w2 ⟨rfl, ⟨n2, rfl⟩⟩) | (go_at_call 51; (with_reducible refine (W4.out _).mono ?_); rintro e w2 ⟨rfl, ⟨n2, rfl⟩⟩) | (go_at_call 50; refine (G2.out _ 2 _ ?s1 ?s2).mono ?_; (case s1 => exact below_alloc (by repeat (first | exact B1.out | apply pw_below_drewN)) _); (case s2 => exact heap_alloc_new _ _); rintro e w3 ⟨rfl, hb3⟩))
                      go_ret
                      exact ⟨by rw [HS.out, HK.out]; rfl, (by repeat (first | exact B1.out | apply pw_below_drewN))⟩
      · have hltz : ¬ (kk : Int) < (l0.length : Int) := by omega
        have : kk = l0.length := by omega
        subst this
        clear HH1 HH2 HRR
        go_wp2
        go_ret
        exact ⟨by rw [← HA.out]; simp [histGo], BW.out⟩


/-! ### laws_eqHop: function 53 -/
def laws_eqHop.f (a0_0 : Int) (a0_1 : Int) (a0_2 : Int) (a0_3 : Int) (a1_0 : Int) (a1_1 : Int) (a1_2 : Int) (a1_3 : Int) : Option (Bool) := if a0_0 = a1_0 then (if a0_1 = a1_1 then (if a0_2 = a1_2 then (if a0_3 = a1_3 then (some true) else (some false)) else (some false)) else (some false)) else (some false)
set_option maxHeartbeats 8000000 in
set_option maxRecDepth 100000 in
theorem laws_eqHop.calls (a0_0 : Int) (a0_1 : Int) (a0_2 : Int) (a0_3 : Int) (a1_0 : Int) (a1_1 : Int) (a1_2 : Int) (a1_3 : Int) (r : Bool) (w : World) (h : laws_eqHop.f a0_0 a0_1 a0_2 a0_3 a1_0 a1_1 a1_2 a1_3 = some r) :
    Calls Try.prog 53 #[.agg #[.int .i64 a0_0, .int .i64 a0_1, .int .i64 a0_2, .int .i64 a0_3], .agg #[.int .i64 a1_0, .int .i64 a1_1, .int .i64 a1_2, .int .i64 a1_3]] w fun e w' => e = .returned (.bool r) ∧ Below w.heap.size w w' := by
  have hu67 := Try.underlying67
  have HB := Aside0.mk (Below.refl w.heap.size w)
  have H : (if a0_0 = a1_0 then (if a0_1 = a1_1 then (if a0_2 = a1_2 then (if a0_3 = a1_3 then (some true) else (some false)) else (some false)) else (some false)) else (some false)) = some r := h
  clear h
  by_cases c3 : a0_0 = a1_0
  · rw [if_pos c3] at H
    have c3b0 : (a0_0 == a1_0) = true := beq_iff_eq.mpr c3
    have c3b1 : (a0_0 != a1_0) = false := bne_eq_false_iff_eq.mpr c3
    clear c3
    by_cases c4 : a0_1 = a1_1
    · rw [if_pos c4] at H
      have c4b0 : (a0_1 == a1_1) = true := beq_iff_eq.mpr c4
      have c4b1 : (a0_1 != a1_1) = false := bne_eq_false_iff_eq.mpr c4
      clear c4
      by_cases c5 : a0_2 = a1_2
      · rw [if_pos c5] at H
        have c5b0 : (a0_2 == a1_2) = true := beq_iff_eq.mpr c5
        have c5b1 : (a0_2 != a1_2) = false := bne_eq_false_iff_eq.mpr c5
        clear c5
        by_cases c6 : a0_3 = a1_3
        · rw [if_pos c6] at H
          have c6b0 : (a0_3 == a1_3) = true := beq_iff_eq.mpr c6
          have c6b1 : (a0_3 != a1_3) = false := bne_eq_false_iff_eq.mpr c6
          clear c6
          obtain rfl := Option.some.inj H
          go_enter Try.func53, Try.ntmps53
          go_wp2_with (first | ((with_reducible refine gate_dst (N := 2) rfl ?_); refine box_event ?hg (N := 2) ?hd (cs := #[.int .i64 a0_0, .int .i64 a0_1, .int .i64 a0_2, .int .i64 a0_3]) (t := 67) ?hr ?_; (case hd => rfl); (case hg => rfl); (case hr => first | (go_simp; done) | (go_simp; rfl)); intro gb131 hg w7 hbox hb; have n0_ := Aside0.mk (below_step (by repeat (first | (with_reducible first | exact HB.out | apply below_alloc | apply pw_below_drewN | apply below_drew1) | exact HB.out)) hb); have n1_ := Aside0.mk (hbox); have n2_ := Aside0.mk ((by rw [hg]; exact (below_size (by repeat (first | (with_reducible first | exact HB.out | apply below_alloc | apply pw_below_drewN | apply below_drew1) | exact HB.out))) : w.heap.size ≤ gb131)); have n3_ := Aside0.mk ((by rw [hg]; exact (below_size (by repeat (first | (with_reducible first | exact HB.out | apply below_alloc | apply pw_below_drewN | apply below_drew1) | exact HB.out))) : w.heap.size ≤ gb131)); clear HB; have HB := n0_; have BK131 := n1_; have GW131 := n2_; have GE131 := n3_; clear n0_ n1_ n2_ n3_; clear hb hbox hg) | ((with_reducible refine gate_dst (N := 3) rfl ?_); refine box_event ?hg (N := 3) ?hd (cs := #[.int .i64 a1_0, .int .i64 a1_1, .int .i64 a1_2, .int .i64 a1_3]) (t := 67) ?hr ?_; (case hd => rfl); (case hg => rfl); (case hr => first | (go_simp; done) | (go_simp; rfl)); intro gb132 hg w8 hbox hb; have n0_ := Aside0.mk (blk_below (g := gb131) (o := .cells #[.int .i64 a0_0, .int .i64 a0_1, .int .i64 a0_2, .int .i64 a0_3] 67 (0, 0)) (by (with_reducible repeat (first | refine blk_drewN ?_ _ | refine blk_drew ?_ | refine blk_alloc ?_ _)); exact BK131.out) hb); have n1_ := Aside0.mk (below_step (by repeat (first | (with_reducible first | exact HB.out | apply below_alloc | apply pw_below_drewN | apply below_drew1 | refine below_set ?_ GE131.out) | exact HB.out)) hb); have n2_ := Aside0.mk (hbox); have n3_ := Aside0.mk ((by rw [hg]; exact (below_size (by repeat (first | (with_reducible first | exact HB.out | apply below_alloc | apply pw_below_drewN | apply below_drew1 | refine below_set ?_ GE131.out) | exact HB.out))) : w.heap.size ≤ gb132)); have n4_ := Aside0.mk ((by rw [hg]; exact (below_size (by repeat (first | (with_reducible first | exact HB.out | apply below_alloc | apply pw_below_drewN | apply below_drew1 | refine below_set ?_ GE131.out) | exact HB.out))) : w.heap.size ≤ gb132)); have n5_ := Aside0.mk ((by rw [hg]; exact Nat.ne_of_lt (blk_lt (g := gb131) (o := .cells #[.int .i64 a0_0, .int .i64 a0_1, .int .i64 a0_2, .int .i64 a0_3] 67 (0, 0)) (by (with_reducible repeat (first | refine blk_drewN ?_ _ | refine blk_drew ?_ | refine blk_alloc ?_ _)); exact BK131.out)) : gb131 ≠ gb132)); have n6_ := Aside0.mk ((by rw [hg]; exact Nat.ne_of_gt (blk_lt (g := gb131) (o := .cells #[.int .i64 a0_0, .int .i64 a0_1, .int .i64 a0_2, .int .i64 a0_3] 67 (0, 0)) (by (with_reducible repeat (first | refine blk_drewN ?_ _ | refine blk_drew ?_ | refine blk_alloc ?_ _)); exact BK131.out)) : gb132 ≠ gb131)); clear BK131; clear HB; have BK131 := n0_; have HB := n1_; have BK132 := n2_; have GW132 := n3_; have GE132 := n4_; have NB131_132 := n5_; have NB132_131 := n6_; clear n0_ n1_ n2_ n3_ n4_ n5_ n6_; clear hb hbox hg; have hnb9 := NB131_132.out; have hnc9 := NB132_131.out; have hcz10_0 : w8.cell? ⟨gb131, 0, none⟩ = some (.int .i64 a0_0) := (blk_cell BK131.out 0).trans rfl; have hcz10_1 : w8.cell? ⟨gb131, 1, none⟩ = some (.int .i64 a0_1) := (blk_cell BK131.out 1).trans rfl; have hcz10_2 : w8.cell? ⟨gb131, 2, none⟩ = some (.int .i64 a0_2) := (blk_cell BK131.out 2).trans rfl; have hcz10_3 : w8.cell? ⟨gb131, 3, none⟩ = some (.int .i64 a0_3) := (blk_cell BK131.out 3).trans rfl; have hfz10_0 := blk_frozen BK131.out 0; have hfz10_1 := blk_frozen BK131.out 1; have hfz10_2 := blk_frozen BK131.out 2; have hfz10_3 := blk_frozen BK131.out 3; have hcz11_0 : w8.cell? ⟨gb132, 0, none⟩ = some (.int .i64 a1_0) := (blk_cell BK132.out 0).trans rfl; have hcz11_1 : w8.cell? ⟨gb132, 1, none⟩ = some (.int .i64 a1_1) := (blk_cell BK132.out 1).trans rfl; have hcz11_2 : w8.cell? ⟨gb132, 2, none⟩ = some (.int .i64 a1_2) := (blk_cell BK132.out 2).trans rfl; have hcz11_3 : w8.cell? ⟨gb132, 3, none⟩ = some (.int .i64 a1_3) := (blk_cell BK132.out 3).trans rfl; have hfz11_0 := blk_frozen BK132.out 0; have hfz11_1 := blk_frozen BK132.out 1; have hfz11_2 := blk_frozen BK132.out 2; have hfz11_3 := blk_frozen BK132.out 3))
          go_ret
          exact ⟨by first | rfl | (simp [errW_none, errW_some] <;> rfl) | (simp [*, errW_none, errW_some] <;> rfl), by repeat (first | (with_reducible first | exact HB.out | apply below_alloc | apply pw_below_drewN | apply below_drew1 | refine below_set ?_ GE131.out | refine below_set ?_ GE132.out) | exact HB.out)⟩
        · rw [if_neg c6] at H
          have c6b0 : (a0_3 == a1_3) = false := beq_eq_false_iff_ne.mpr c6
          have c6b1 : (a0_3 != a1_3) = true := bne_iff_ne.mpr c6
          obtain rfl := Option.some.inj H
          go_enter Try.func53, Try.ntmps53
          go_wp2_with (first | ((with_reducible refine gate_dst (N := 2) rfl ?_); refine box_event ?hg (N := 2) ?hd (cs := #[.int .i64 a0_0, .int .i64 a0_1, .int .i64 a0_2, .int .i64 a0_3]) (t := 67) ?hr ?_; (case hd => rfl); (case hg => rfl); (case hr => first | (go_simp; done) | (go_simp; rfl)); intro gb131 hg w12 hbox hb; have n0_ := Aside0.mk (below_step (by repeat (first | (with_reducible first | exact HB.out | apply below_alloc | apply pw_below_drewN | apply below_drew1) | exact HB.out)) hb); have n1_ := Aside0.mk (hbox); have n2_ := Aside0.mk ((by rw [hg]; exact (below_size (by repeat (first | (with_reducible first | exact HB.out | apply below_alloc | apply pw_below_drewN | apply below_drew1) | exact HB.out))) : w.heap.size ≤ gb131)); have n3_ := Aside0.mk ((by rw [hg]; exact (below_size (by repeat (first | (with_reducible first | exact HB.out | apply below_alloc | apply pw_below_drewN | apply below_drew1) | exact HB.out))) : w.heap.size ≤ gb131)); clear HB; have HB := n0_; have BK131 := n1_; have GW131 := n2_; have GE131 := n3_; clear n0_ n1_ n2_ n3_; clear hb hbox hg) | ((with_reducible refine gate_dst (N := 3) rfl ?_); refine box_event ?hg (N := 3) ?hd (cs := #[.int .i64 a1_0, .int .i64 a1_1, .int .i64 a1_2, .int .i64 a1_3]) (t := 67) ?hr ?_; (case hd => rfl); (case hg => rfl); (case hr => first | (go_simp; done) | (go_simp; rfl)); intro gb132 hg w13 hbox hb; have n0_ := Aside0.mk (blk_below (g := gb131) (o := .cells #[.int .i64 a0_0, .int .i64 a0_1, .int .i64 a0_2, .int .i64 a0_3] 67 (0, 0)) (by (with_reducible repeat (first | refine blk_drewN ?_ _ | refine blk_drew ?_ | refine blk_alloc ?_ _)); exact BK131.out) hb); have n1_ := Aside0.mk (below_step (by repeat (first | (with_reducible first | exact HB.out | apply below_alloc | apply pw_below_drewN | apply below_drew1 | refine below_set ?_ GE131.out) | exact HB.out)) hb); have n2_ := Aside0.mk (hbox); have n3_ := Aside0.mk ((by rw [hg]; exact (below_size (by repeat (first | (with_reducible first | exact HB.out | apply below_alloc | apply pw_below_drewN | apply below_drew1 | refine below_set ?_ GE131.out) | exact HB.out))) : w.heap.size ≤ gb132)); have n4_ := Aside0.mk ((by rw [hg]; exact (below_size (by repeat (first | (with_reducible first | exact HB.out | apply below_alloc | apply pw_below_drewN | apply below_drew1 | refine below_set ?_ GE131.out) | exact HB.out))) : w.heap.size ≤ gb132)); have n5_ := Aside0.mk ((by rw [hg]; exact Nat.ne_of_lt (blk_lt (g := gb131) (o := .cells #[.int .i64 a0_0, .int .i64 a0_1, .int .i64 a0_2, .int .i64 a0_3] 67 (0, 0)) (by (with_reducible repeat (first | refine blk_drewN ?_ _ | refine blk_drew ?_ | refine blk_alloc ?_ _)); exact BK131.out)) : gb131 ≠ gb132)); have n6_ := Aside0.mk ((by rw [hg]; exact Nat.ne_of_gt (blk_lt (g := gb131) (o := .cells #[.int .i64 a0_0, .int .i64 a0_1, .int .i64 a0_2, .int .i64 a0_3] 67 (0, 0)) (by (with_reducible repeat (first | refine blk_drewN ?_ _ | refine blk_drew ?_ | refine blk_alloc ?_ _)); exact BK131.out)) : gb132 ≠ gb131)); clear BK131; clear HB; have BK131 := n0_; have HB := n1_; have BK132 := n2_; have GW132 := n3_; have GE132 := n4_; have NB131_132 := n5_; have NB132_131 := n6_; clear n0_ n1_ n2_ n3_ n4_ n5_ n6_; clear hb hbox hg; have hnb14 := NB131_132.out; have hnc14 := NB132_131.out; have hcz15_0 : w13.cell? ⟨gb131, 0, none⟩ = some (.int .i64 a0_0) := (blk_cell BK131.out 0).trans rfl; have hcz15_1 : w13.cell? ⟨gb131, 1, none⟩ = some (.int .i64 a0_1) := (blk_cell BK131.out 1).trans rfl; have hcz15_2 : w13.cell? ⟨gb131, 2, none⟩ = some (.int .i64 a0_2) := (blk_cell BK131.out 2).trans rfl; have hcz15_3 : w13.cell? ⟨gb131, 3, none⟩ = some (.int .i64 a0_3) := (blk_cell BK131.out 3).trans rfl; have hfz15_0 := blk_frozen BK131.out 0; have hfz15_1 := blk_frozen BK131.out 1; have hfz15_2 := blk_frozen BK131.out 2; have hfz15_3 := blk_frozen BK131.out 3; have hcz16_0 : w13.cell? ⟨gb132, 0, none⟩ = some (.int .i64 a1_0) := (blk_cell BK132.out 0).trans rfl; have hcz16_1 : w13.cell? ⟨gb132, 1, none⟩ = some (.int .i64 a1_1) := (blk_cell BK132.out 1).trans rfl; have hcz16_2 : w13.cell? ⟨gb132, 2, none⟩ = some (.int .i64 a1_2) := (blk_cell BK132.out 2).trans rfl; have hcz16_3 : w13.cell? ⟨gb132, 3, none⟩ = some (.int .i64 a1_3) := (blk_cell BK132.out 3).trans rfl; have hfz16_0 := blk_frozen BK132.out 0; have hfz16_1 := blk_frozen BK132.out 1; have hfz16_2 := blk_frozen BK132.out 2; have hfz16_3 := blk_frozen BK132.out 3))
          go_ret
          exact ⟨by first | rfl | (simp [errW_none, errW_some] <;> rfl) | (simp [*, errW_none, errW_some] <;> rfl), by repeat (first | (with_reducible first | exact HB.out | apply below_alloc | apply pw_below_drewN | apply below_drew1 | refine below_set ?_ GE131.out | refine below_set ?_ GE132.out) | exact HB.out)⟩
      · rw [if_neg c5] at H
        have c5b0 : (a0_2 == a1_2) = false := beq_eq_false_iff_ne.mpr c5
        have c5b1 : (a0_2 != a1_2) = true := bne_iff_ne.mpr c5
        obtain rfl := Option.some.inj H
        go_enter Try.func53, Try.ntmps53
        go_wp2_with (first | ((with_reducible refine gate_dst (N := 2) rfl ?_); refine box_event ?hg (N := 2) ?hd (cs := #[.int .i64 a0_0, .int .i64 a0_1, .int .i64 a0_2, .int .i64 a0_3]) (t := 67) ?hr ?_; (case hd => rfl); (case hg => rfl); (case hr => first | (go_simp; done) | (go_simp; rfl)); intro gb131 hg w17 hbox hb; have n0_ := Aside0.mk (below_step (by repeat (first | (with_reducible first | exact HB.out | apply below_alloc | apply pw_below_drewN | apply below_drew1) | exact HB.out)) hb); have n1_ := Aside0.mk (hbox); have n2_ := Aside0.mk ((by rw [hg]; exact (below_size (by repeat (first | (with_reducible first | exact HB.out | apply below_alloc | apply pw_below_drewN | apply below_drew1) | exact HB.out))) : w.heap.size ≤ gb131)); have n3_ := Aside0.mk ((by rw [hg]; exact (below_size (by repeat (first | (with_reducible first | exact HB.out | apply below_alloc | apply pw_below_drewN | apply below_drew1) | exact HB.out))) : w.heap.size ≤ gb131)); clear HB; have HB := n0_; have BK131 := n1_; have GW131 := n2_; have GE131 := n3_; clear n0_ n1_ n2_ n3_; clear hb hbox hg) | ((with_reducible refine gate_dst (N := 3) rfl ?_); refine box_event ?hg (N := 3) ?hd (cs := #[.int .i64 a1_0, .int .i64 a1_1, .int .i64 a1_2, .int .i64 a1_3]) (t := 67) ?hr ?_; (case hd => rfl); (case hg => rfl); (case hr => first | (go_simp; done) | (go_simp; rfl)); intro gb132 hg w18 hbox hb; have n0_ := Aside0.mk (blk_below (g := gb131) (o := .cells #[.int .i64 a0_0, .int .i64 a0_1, .int .i64 a0_2, .int .i64 a0_3] 67 (0, 0)) (by (with_reducible repeat (first | refine blk_drewN ?_ _ | refine blk_drew ?_ | refine blk_alloc ?_ _)); exact BK131.out) hb); have n1_ := Aside0.mk (below_step (by repeat (first | (with_reducible first | exact HB.out | apply below_alloc | apply pw_below_drewN | apply below_drew1 | refine below_set ?_ GE131.out) | exact HB.out)) hb); have n2_ := Aside0.mk (hbox); have n3_ := Aside0.mk ((by rw [hg]; exact (below_size (by repeat (first | (with_reducible first | exact HB.out | apply below_alloc | apply pw_below_drewN | apply below_drew1 | refine below_set ?_ GE131.out) | exact HB.out))) : w.heap.size ≤ gb132)); have n4_ := Aside0.mk ((by rw [hg]; exact (below_size (by repeat (first | (with_reducible first | exact HB.out | apply below_alloc | apply pw_below_drewN | apply below_drew1 | refine below_set ?_ GE131.out) | exact HB.out))) : w.heap.size ≤ gb132)); have n5_ := Aside0.mk ((by rw [hg]; exact Nat.ne_of_lt (blk_lt (g := gb131) (o := .cells #[.int .i64 a0_0, .int .i64 a0_1, .int .i64 a0_2, .int .i64 a0_3] 67 (0, 0)) (by (with_reducible repeat (first | refine blk_drewN ?_ _ | refine blk_drew ?_ | refine blk_alloc ?_ _)); exact BK131.out)) : gb131 ≠ gb132)); have n6_ := Aside0.mk ((by rw [hg]; exact Nat.ne_of_gt (blk_lt (g := gb131) (o := .cells #[.int .i64 a0_0, .int .i64 a0_1, .int .i64 a0_2, .int .i64 a0_3] 67 (0, 0)) (by (with_reducible repeat (first | refine blk_drewN ?_ _ | refine blk_drew ?_ | refine blk_alloc ?_ _)); exact BK131.out)) : gb132 ≠ gb131)); clear BK131; clear HB; have BK131 := n0_; have HB := n1_; have BK132 := n2_; have GW132 := n3_; have GE132 := n4_; have NB131_132 := n5_; have NB132_131 := n6_; clear n0_ n1_ n2_ n3_ n4_ n5_ n6_; clear hb hbox hg; have hnb19 := NB131_132.out; have hnc19 := NB132_131.out; have hcz20_0 : w18.cell? ⟨gb131, 0, none⟩ = some (.int .i64 a0_0) := (blk_cell BK131.out 0).trans rfl; have hcz20_1 : w18.cell? ⟨gb131, 1, none⟩ = some (.int .i64 a0_1) := (blk_cell BK131.out 1).trans rfl; have hcz20_2 : w18.cell? ⟨gb131, 2, none⟩ = some (.int .i64 a0_2) := (blk_cell BK131.out 2).trans rfl; have hcz20_3 : w18.cell? ⟨gb131, 3, none⟩ = some (.int .i64 a0_3) := (blk_cell BK131.out 3).trans rfl; have hfz20_0 := blk_frozen BK131.out 0; have hfz20_1 := blk_frozen BK131.out 1; have hfz20_2 := blk_frozen BK131.out 2; have hfz20_3 := blk_frozen BK131.out 3; have hcz21_0 : w18.cell? ⟨gb132, 0, none⟩ = some (.int .i64 a1_0) := (blk_cell BK132.out 0).trans rfl; have hcz21_1 : w18.cell? ⟨gb132, 1, none⟩ = some (.int .i64 a1_1) := (blk_cell BK132.out 1).trans rfl; have hcz21_2 : w18.cell? ⟨gb132, 2, none⟩ = some (.int .i64 a1_2) := (blk_cell BK132.out 2).trans rfl; have hcz21_3 : w18.cell? ⟨gb132, 3, none⟩ = some (.int .i64 a1_3) := (blk_cell BK132.out 3).trans rfl; have hfz21_0 := blk_frozen BK132.out 0; have hfz21_1 := blk_frozen BK132.out 1; have hfz21_2 := blk_frozen BK132.out 2; have hfz21_3 := blk_frozen BK132.out 3))
        go_ret
        exact ⟨by first | rfl | (simp [errW_none, errW_some] <;> rfl) | (simp [*, errW_none, errW_some] <;> rfl), by repeat (first | (with_reducible first | exact HB.out | apply below_alloc | apply pw_below_drewN | apply below_drew1 | refine below_set ?_ GE131.out | refine below_set ?_ GE132.out) | exact HB.out)⟩
    · rw [if_neg c4] at H
      have c4b0 : (a0_1 == a1_1) = false := beq_eq_false_iff_ne.mpr c4
      have c4b1 : (a0_1 != a1_1) = true := bne_iff_ne.mpr c4
      obtain rfl := Option.some.inj H
      go_enter Try.func53, Try.ntmps53
      go_wp2_with (first | ((with_reducible refine gate_dst (N := 2) rfl ?_); refine box_event ?hg (N := 2) ?hd (cs := #[.int .i64 a0_0, .int .i64 a0_1, .int .i64 a0_2, .int .i64 a0_3]) (t := 67) ?hr ?_; (case hd => rfl); (case hg => rfl); (case hr => first | (go_simp; done) | (go_simp; rfl)); intro gb131 hg w22 hbox hb; have n0_ := Aside0.mk (below_step (by repeat (first | (with_reducible first | exact HB.out | apply below_alloc | apply pw_below_drewN | apply below_drew1) | exact HB.out)) hb); have n1_ := Aside0.mk (hbox); have n2_ := Aside0.mk ((by rw [hg]; exact (below_size (by repeat (first | (with_reducible first | exact HB.out | apply below_alloc | apply pw_below_drewN | apply below_drew1) | exact HB.out))) : w.heap.size ≤ gb131)); have n3_ := Aside0.mk ((by rw [hg]; exact (below_size (by repeat (first | (with_reducible first | exact HB.out | apply below_alloc | apply pw_below_drewN | apply below_drew1) | exact HB.out))) : w.heap.size ≤ gb131)); clear HB; have HB := n0_; have BK131 := n1_; have GW131 := n2_; have GE131 := n3_; clear n0_ n1_ n2_ n3_; clear hb hbox hg) | ((with_reducible refine gate_dst (N := 3) rfl ?_); refine box_event ?hg (N := 3) ?hd (cs := #[.int .i64 a1_0, .int .i64 a1_1, .int .i64 a1_2, .int .i64 a1_3]) (t := 67) ?hr ?_; (case hd => rfl); (case hg => rfl); (case hr => first | (go_simp; done) | (go_simp; rfl)); intro gb132 hg w23 hbox hb; have n0_ := Aside0.mk (blk_below (g := gb131) (o := .cells #[.int .i64 a0_0, .int .i64 a0_1, .int .i64 a0_2, .int .i64 a0_3] 67 (0, 0)) (by (with_reducible repeat (first | refine blk_drewN ?_ _ | refine blk_drew ?_ | refine blk_alloc ?_ _)); exact BK131.out) hb); have n1_ := Aside0.mk (below_step (by repeat (first | (with_reducible first | exact HB.out | apply below_alloc | apply pw_below_drewN | apply below_drew1 | refine below_set ?_ GE131.out) | exact HB.out)) hb); have n2_ := Aside0.mk (hbox); have n3_ := Aside0.mk ((by rw [hg]; exact (below_size (by repeat (first | (with_reducible first | exact HB.out | apply below_alloc | apply pw_below_drewN | apply below_drew1 | refine below_set ?_ GE131.out) | exact HB.out))) : w.heap.size ≤ gb132)); have n4_ := Aside0.mk ((by rw [hg]; exact (below_size (by repeat (first | (with_reducible first | exact HB.out | apply below_alloc | apply pw_below_drewN | apply below_drew1 | refine below_set ?_ GE131.out) | exact HB.out))) : w.heap.size ≤ gb132)); have n5_ := Aside0.mk ((by rw [hg]; exact Nat.ne_of_lt (blk_lt (g := gb131) (o := .cells #[.int .i64 a0_0, .int .i64 a0_1, .int .i64 a0_2, .int .i64 a0_3] 67 (0, 0)) (by (with_reducible repeat (first | refine blk_drewN ?_ _ | refine blk_drew ?_ | refine blk_alloc ?_ _)); exact BK131.out)) : gb131 ≠ gb132)); have n6_ := Aside0.mk ((by rw [hg]; exact Nat.ne_of_gt (blk_lt (g := gb131) (o := .cells #[.int .i64 a0_0, .int .i64 a0_1, .int .i64 a0_2, .int .i64 a0_3] 67 (0, 0)) (by (with_reducible repeat (first | refine blk_drewN ?_ _ | refine blk_drew ?_ | refine blk_alloc ?_ _)); exact BK131.out)) : gb132 ≠ gb131)); clear BK131; clear HB; have BK131 := n0_; have HB := n1_; have BK132 := n2_; have GW132 := n3_; have GE132 := n4_; have NB131_132 := n5_; have NB132_131 := n6_; clear n0_ n1_ n2_ n3_ n4_ n5_ n6_; clear hb hbox hg; have hnb24 := NB131_132.out; have hnc24 := NB132_131.out; have hcz25_0 : w23.cell? ⟨gb131, 0, none⟩ = some (.int .i64 a0_0) := (blk_cell BK131.out 0).trans rfl; have hcz25_1 : w23.cell? ⟨gb131, 1, none⟩ = some (.int .i64 a0_1) := (blk_cell BK131.out 1).trans rfl; have hcz25_2 : w23.cell? ⟨gb131, 2, none⟩ = some (.int .i64 a0_2) := (blk_cell BK131.out 2).trans rfl; have hcz25_3 : w23.cell? ⟨gb131, 3, none⟩ = some (.int .i64 a0_3) := (blk_cell BK131.out 3).trans rfl; have hfz25_0 := blk_frozen BK131.out 0; have hfz25_1 := blk_frozen BK131.out 1; have hfz25_2 := blk_frozen BK131.out 2; have hfz25_3 := blk_frozen BK131.out 3; have hcz26_0 : w23.cell? ⟨gb132, 0, none⟩ = some (.int .i64 a1_0) := (blk_cell BK132.out 0).trans rfl; have hcz26_1 : w23.cell? ⟨gb132, 1, none⟩ = some (.int .i64 a1_1) := (blk_cell BK132.out 1).trans rfl; have hcz26_2 : w23.cell? ⟨gb132, 2, none⟩ = some (.int .i64 a1_2) := (blk_cell BK132.out 2).trans rfl; have hcz26_3 : w23.cell? ⟨gb132, 3, none⟩ = some (.int .i64 a1_3) := (blk_cell BK132.out 3).trans rfl; have hfz26_0 := blk_frozen BK132.out 0; have hfz26_1 := blk_frozen BK132.out 1; have hfz26_2 := blk_frozen BK132.out 2; have hfz26_3 := blk_frozen BK132.out 3))
      go_ret
      exact ⟨by first | rfl | (simp [errW_none, errW_some] <;> rfl) | (simp [*, errW_none, errW_some] <;> rfl), by repeat (first | (with_reducible first | exact HB.out | apply below_alloc | apply pw_below_drewN | apply below_drew1 | refine below_set ?_ GE131.out | refine below_set ?_ GE132.out) | exact HB.out)⟩
  · rw [if_neg c3] at H
    have c3b0 : (a0_0 == a1_0) = false := beq_eq_false_iff_ne.mpr c3
    have c3b1 : (a0_0 != a1_0) = true := bne_iff_ne.mpr c3
    obtain rfl := Option.some.inj H
    go_enter Try.func53, Try.ntmps53
    go_wp2_with (first | ((with_reducible refine gate_dst (N := 2) rfl ?_); refine box_event ?hg (N := 2) ?hd (cs := #[.int .i64 a0_0, .int .i64 a0_1, .int .i64 a0_2, .int .i64 a0_3]) (t := 67) ?hr ?_; (case hd => rfl); (case hg => rfl); (case hr => first | (go_simp; done) | (go_simp; rfl)); intro gb131 hg w27 hbox hb; have n0_ := Aside0.mk (below_step (by repeat (first | (with_reducible first | exact HB.out | apply below_alloc | apply pw_below_drewN | apply below_drew1) | exact HB.out)) hb); have n1_ := Aside0.mk (hbox); have n2_ := Aside0.mk ((by rw [hg]; exact (below_size (by repeat (first | (with_reducible first | exact HB.out | apply below_alloc | apply pw_below_drewN | apply below_drew1) | exact HB.out))) : w.heap.size ≤ gb131)); have n3_ := Aside0.mk ((by rw [hg]; exact (below_size (by repeat (first | (with_reducible first | exact HB.out | apply below_alloc | apply pw_below_drewN | apply below_drew1) | exact HB.out))) : w.heap.size ≤ gb131)); clear HB; have HB := n0_; have BK131 := n1_; have GW131 := n2_; have GE131 := n3_; clear n0_ n1_ n2_ n3_; clear hb hbox hg) | ((with_reducible refine gate_dst (N := 3) rfl ?_); refine box_event ?hg (N := 3) ?hd (cs := #[.int .i64 a1_0, .int .i64 a1_1, .int .i64 a1_2, .int .i64 a1_3]) (t := 67) ?hr ?_; (case hd => rfl); (case hg => rfl); (case hr => first | (go_simp; done) | (go_simp; rfl)); intro gb132 hg w28 hbox hb; have n0_ := Aside0.mk (blk_below (g := gb131) (o := .cells #[.int .i64 a0_0, .int .i64 a0_1, .int .i64 a0_2, .int .i64 a0_3] 67 (0, 0)) (by (with_reducible repeat (first | refine blk_drewN ?_ _ | refine blk_drew ?_ | refine blk_alloc ?_ _)); exact BK131.out) hb); have n1_ := Aside0.mk (below_step (by repeat (first | (with_reducible first | exact HB.out | apply below_alloc | apply pw_below_drewN | apply below_drew1 | refine below_set ?_ GE131.out) | exact HB.out)) hb); have n2_ := Aside0.mk (hbox); have n3_ := Aside0.mk ((by rw [hg]; exact (below_size (by repeat (first | (with_reducible first | exact HB.out | apply below_alloc | apply pw_below_drewN | apply below_drew1 | refine below_set ?_ GE131.out) | exact HB.out))) : w.heap.size ≤ gb132)); have n4_ := Aside0.mk ((by rw [hg]; exact (below_size (by repeat (first | (with_reducible first | exact HB.out | apply below_alloc | apply pw_below_drewN | apply below_drew1 | refine below_set ?_ GE131.out) | exact HB.out))) : w.heap.size ≤ gb132)); have n5_ := Aside0.mk ((by rw [hg]; exact Nat.ne_of_lt (blk_lt (g := gb131) (o := .cells #[.int .i64 a0_0, .int .i64 a0_1, .int .i64 a0_2, .int .i64 a0_3] 67 (0, 0)) (by (with_reducible repeat (first | refine blk_drewN ?_ _ | refine blk_drew ?_ | refine blk_alloc ?_ _)); exact BK131.out)) : gb131 ≠ gb132)); have n6_ := Aside0.mk ((by rw [hg]; exact Nat.ne_of_gt (blk_lt (g := gb131) (o := .cells #[.int .i64 a0_0, .int .i64 a0_1, .int .i64 a0_2, .int .i64 a0_3] 67 (0, 0)) (by (with_reducible repeat (first | refine blk_drewN ?_ _ | refine blk_drew ?_ | refine blk_alloc ?_ _)); exact BK131.out)) : gb132 ≠ gb131)); clear BK131; clear HB; have BK131 := n0_; have HB := n1_; have BK132 := n2_; have GW132 := n3_; have GE132 := n4_; have NB131_132 := n5_; have NB132_131 := n6_; clear n0_ n1_ n2_ n3_ n4_ n5_ n6_; clear hb hbox hg; have hnb29 := NB131_132.out; have hnc29 := NB132_131.out; have hcz30_0 : w28.cell? ⟨gb131, 0, none⟩ = some (.int .i64 a0_0) := (blk_cell BK131.out 0).trans rfl; have hcz30_1 : w28.cell? ⟨gb131, 1, none⟩ = some (.int .i64 a0_1) := (blk_cell BK131.out 1).trans rfl; have hcz30_2 : w28.cell? ⟨gb131, 2, none⟩ = some (.int .i64 a0_2) := (blk_cell BK131.out 2).trans rfl; have hcz30_3 : w28.cell? ⟨gb131, 3, none⟩ = some (.int .i64 a0_3) := (blk_cell BK131.out 3).trans rfl; have hfz30_0 := blk_frozen BK131.out 0; have hfz30_1 := blk_frozen BK131.out 1; have hfz30_2 := blk_frozen BK131.out 2; have hfz30_3 := blk_frozen BK131.out 3; have hcz31_0 : w28.cell? ⟨gb132, 0, none⟩ = some (.int .i64 a1_0) := (blk_cell BK132.out 0).trans rfl; have hcz31_1 : w28.cell? ⟨gb132, 1, none⟩ = some (.int .i64 a1_1) := (blk_cell BK132.out 1).trans rfl; have hcz31_2 : w28.cell? ⟨gb132, 2, none⟩ = some (.int .i64 a1_2) := (blk_cell BK132.out 2).trans rfl; have hcz31_3 : w28.cell? ⟨gb132, 3, none⟩ = some (.int .i64 a1_3) := (blk_cell BK132.out 3).trans rfl; have hfz31_0 := blk_frozen BK132.out 0; have hfz31_1 := blk_frozen BK132.out 1; have hfz31_2 := blk_frozen BK132.out 2; have hfz31_3 := blk_frozen BK132.out 3))
    go_ret
    exact ⟨by first | rfl | (simp [errW_none, errW_some] <;> rfl) | (simp [*, errW_none, errW_some] <;> rfl), by repeat (first | (with_reducible first | exact HB.out | apply below_alloc | apply pw_below_drewN | apply below_drew1 | refine below_set ?_ GE131.out | refine below_set ?_ GE132.out) | exact HB.out)⟩

end Go.Proofs.Ytifpmjnbkodgfaa.XFnExactHistoryFault
