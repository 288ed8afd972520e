/- The machine's side of one law: functions as plain Lean functions, and that the calls do what these say. Written by a program of this session; no condition beyond those that each theorem names. -/
import Derived.Test.YtbppgngfiijclaaXFnExactNewCopiesx0
import Derived.Test.YtbppgngfiijclaaXFnExactNewCopiesx7
namespace Go.Proofs.Ytbppgngfiijclaa.XFnExactNewCopies
open Go.RowKit Go.Proofs.YtbppgngfiijclaaW.PrintWords Go.Proofs.YtbppgngfiijclaaW.PrintLast Go.Proofs.YtbppgngfiijclaaW.PrintMore
attribute [local go_sem] max2_int min2_int max_two min_two max_three min_three max_four min_four   -- for this text's walks alone
set_option linter.unusedVariables false
set_option linter.unusedSimpArgs false

/-! ### laws_eqCopiedS: function 78 -/
def laws_eqCopiedS.l0 : Nat → List (S135) → List (S135) → Int → Option (Bool)
  | 0, _, _, _ => none
  | k + 1, x0, x1, x5 => if x5 < (x0.length : Int) then (if 0 ≤ x5 then (if x5 < (x1.length : Int) then ((laws_eqCopied.f k ((rd_T135 x0 x5).f0) ((rd_T135 x0 x5).f1) ((rd_T135 x0 x5).f2) ((rd_T135 x0 x5).f3) ((rd_T135 x0 x5).f4) ((rd_T135 x0 x5).f5) ((rd_T135 x1 x5).f0) ((rd_T135 x1 x5).f1) ((rd_T135 x1 x5).f2) ((rd_T135 x1 x5).f3) ((rd_T135 x1 x5).f4) ((rd_T135 x1 x5).f5)).bind fun t239 => (if t239 = true then (laws_eqCopiedS.l0 k x0 x1 (wrap64 (x5 + 1))) else (some false))) else (none)) else (none)) else (some true)
def laws_eqCopiedS.f (k : Nat) (l0 : List (S135)) (l1 : List (S135)) : Option (Bool) := if (l0.length : Int) = (l1.length : Int) then (laws_eqCopiedS.l0 k l0 l1 0) else (some false)
theorem laws_eqCopiedS.mono_l : ∀ k, (∀ y0 y1 y2, LeO (laws_eqCopiedS.l0 k y0 y1 y2) (laws_eqCopiedS.l0 (k + 1) y0 y1 y2))
  | 0 => fun _ _ _ r h => by simp [laws_eqCopiedS.l0] at h
  | k + 1 => by
    have ih0 := laws_eqCopiedS.mono_l k
    · intro y0 y1 y2
      unfold laws_eqCopiedS.l0
      repeat' first
      | (with_reducible exact ih0 _ _ _)
      | (with_reducible exact laws_eqCopied.mono _ _ _ _ _ _ _ _ _ _ _ _ _)
      | (with_reducible exact LeO.refl _)
      | (with_reducible exact LeO.none _)
      | (with_reducible refine LeO.ite ?_ ?_)
      | (with_reducible refine LeO.bind ?_ (fun _ => ?_))
      | exact ih0 _ _ _
      | exact laws_eqCopied.mono _ _ _ _ _ _ _ _ _ _ _ _ _
      | exact LeO.none _
      | refine LeO.ite ?_ ?_
      | refine LeO.bind ?_ (fun _ => ?_)
theorem laws_eqCopiedS.mono : ∀ a0 a1 k, LeO (laws_eqCopiedS.f k a0 a1) (laws_eqCopiedS.f (k + 1) a0 a1) := by
  intro a0 a1 k
  have ih0 := laws_eqCopiedS.mono_l k
  unfold laws_eqCopiedS.f
  repeat' first
      | (with_reducible exact ih0 _ _ _)
      | (with_reducible exact laws_eqCopied.mono _ _ _ _ _ _ _ _ _ _ _ _ _)
      | (with_reducible exact LeO.refl _)
      | (with_reducible exact LeO.none _)
      | (with_reducible refine LeO.ite ?_ ?_)
      | (with_reducible refine LeO.bind ?_ (fun _ => ?_))
      | exact ih0 _ _ _
      | exact laws_eqCopied.mono _ _ _ _ _ _ _ _ _ _ _ _ _
      | exact LeO.none _
      | refine LeO.ite ?_ ?_
      | refine LeO.bind ?_ (fun _ => ?_)
def laws_eqCopiedS.T6 : Bool × List (List Nat × List Nat) := (true, [([], []), ([], []), ([0, 1], [0, 1]), ([2], [2]), ([], []), ([], []), ([4, 5], [4, 5]), ([6], [6]), ([3, 7], [3, 7]), ([8], [8])])
def laws_eqCopiedS.B6 : List Nat := [0, 0, 3, 7, 0, 0, 48, 112, 255, 511]
theorem laws_eqCopiedS.tab6 : rtab .any (opsOf Try.f78 6) = laws_eqCopiedS.T6 := by kernel_rfl
theorem laws_eqCopiedS.bits6 : waitsOk laws_eqCopiedS.T6.2 laws_eqCopiedS.B6 = true := by kernel_rfl
set_option maxHeartbeats 8000000 in
set_option maxRecDepth 100000 in
theorem laws_eqCopiedS.calls (k : Nat) (A0 : Option Addr) (c0 : Nat) (l0 : List (S135)) (A1 : Option Addr) (c1 : Nat) (l1 : List (S135)) (r : Bool) (w : World) (hr0 : Kd.C k135 w A0 l0.length l0) (hc0 : l0.length ≤ c0) (hr1 : Kd.C k135 w A1 l1.length l1) (hc1 : l1.length ≤ c1) (h : laws_eqCopiedS.f k l0 l1 = some r) :
    Calls Try.prog 78 #[.slice A0 l0.length c0, .slice A1 l1.length c1] w fun e w' => e = .returned (.bool r) ∧ Below w.heap.size w w' := by
  have hu135 := Try.underlying135
  have HR0 := Aside0.mk hr0
  have HC0 := Aside0.mk hc0
  clear hr0 hc0
  have HR1 := Aside0.mk hr1
  have HC1 := Aside0.mk hc1
  clear hr1 hc1
  have HB := Aside0.mk (Below.refl w.heap.size w)
  have H : (if (l0.length : Int) = (l1.length : Int) then (laws_eqCopiedS.l0 k l0 l1 0) else (some false)) = some r := h
  clear h
  by_cases c3 : (l0.length : Int) = (l1.length : Int)
  · rw [if_pos c3] at H
    have c3b0 : ((l0.length : Int) == (l1.length : Int)) = true := beq_iff_eq.mpr c3
    have c3b1 : ((l0.length : Int) != (l1.length : Int)) = false := bne_eq_false_iff_eq.mpr c3
    have c3b2 : (l0.length == l1.length) = true := by first | simpa using c3 | (simp at c3 ⊢; omega)
    clear c3
    have H' := Aside0.mk H
    clear H
    go_enter Try.func78, Try.ntmps78
    go_wp2
    go_loopg [5] k (fun kq v5 w' => ∃ (x5_1 : Int), v5 = .int .i64 x5_1 ∧ Aside0 (laws_eqCopiedS.l0 kq l0 l1 x5_1 = some r) ∧ Aside0 (kq ≤ k) ∧ Aside0 (Below w.heap.size w w'))
    case atStart => exact ⟨(0), (by first | rfl | (simp; done) | (simp [*]; done)), H', ⟨Nat.le_refl _⟩, ⟨by repeat (first | (with_reducible first | exact HB.out | apply below_alloc | apply pw_below_drewN | apply below_drew1) | exact HB.out)⟩⟩
    case round =>
      clear H'
      try clear c1
      try clear p2
      try clear c3
      try clear c3b0
      try clear c3b1
      try clear c3b2
      obtain ⟨x5_1, rfl, HA, HK1, HB⟩ := hrel
      cases gk with
      | zero => exact absurd HA.out (by simp [laws_eqCopiedS.l0])
      | succ k1 =>
        have H := HA.out
        clear HA
        simp only [laws_eqCopiedS.l0] at H
        by_cases c4 : x5_1 < (l0.length : Int)
        · rw [if_pos c4] at H
          have c4b0 : decide (x5_1 < (l0.length : Int)) = true := decide_eq_true c4
          clear c4
          by_cases c5 : 0 ≤ x5_1
          · rw [if_pos c5] at H
            have c5b0 : decide (0 ≤ x5_1) = true := decide_eq_true c5
            clear c5
            by_cases c6 : x5_1 < (l1.length : Int)
            · rw [if_pos c6] at H
              have c6b0 : decide (x5_1 < (l1.length : Int)) = true := decide_eq_true c6
              clear c6
              replace H := Option.bind_eq_some_iff.mp H
              obtain ⟨t239, A70, H⟩ := H
              replace H : (if t239 = true then (laws_eqCopiedS.l0 k1 l0 l1 (wrap64 (x5_1 + 1))) else (some false)) = some r := H
              have A7 := Aside0.mk A70
              clear A70
              by_cases c8 : t239 = true
              · subst c8
                have H1 : (laws_eqCopiedS.l0 k1 l0 l1 (wrap64 (x5_1 + 1))) = some r := by rw [if_pos rfl] at H; exact H
                clear H
                have H := H1
                clear H1
                have H' := Aside0.mk H
                clear H
                try go_wp2
                have n0_ := Aside0.mk (below_drew1 HB.out)
                clear HB
                have HB := n0_
                clear n0_
                have p237 : 0 ≤ (x5_1 : Int) := od
                have q237 : x5_1 < (l0.length : Int) := od
                obtain ⟨ad237, A237_3, c237_3, A237_4, c237_4, A237_5, c237_5, e237, Jf, Jg, Jh, Ji, Jj, Jk, hl237_3, hi237_3, hl237_4, hi237_4, hl237_5, hi237_5⟩ := at_T135 HR0.out x5_1 p237 q237
                have hw237_5 := Jk
                have hw237_4 := Jj
                have hw237_3 := Ji
                have hw237_2 := Jh
                have hw237_1 := Jg
                have hw237_0 := Jf
                cases e237
                replace Jf := (HB.out.cell (World.block_lt_of_cell? w _ Jf)).trans Jf
                replace Jg := (HB.out.cell (World.block_lt_of_cell? w _ Jg)).trans Jg
                replace Jh := (HB.out.cell (World.block_lt_of_cell? w _ Jh)).trans Jh
                replace Ji := (HB.out.cell (World.block_lt_of_cell? w _ Ji)).trans Ji
                replace Jj := (HB.out.cell (World.block_lt_of_cell? w _ Jj)).trans Jj
                replace Jk := (HB.out.cell (World.block_lt_of_cell? w _ Jk)).trans Jk
                have HR237_3 := Aside0.mk hi237_3
                have HC237_3 := Aside0.mk hl237_3
                clear hi237_3 hl237_3
                have HR237_4 := Aside0.mk hi237_4
                have HC237_4 := Aside0.mk hl237_4
                clear hi237_4 hl237_4
                have HR237_5 := Aside0.mk hi237_5
                have HC237_5 := Aside0.mk hl237_5
                clear hi237_5 hl237_5
                replace p237 := eq_true p237
                replace q237 := eq_true q237
                have p238 : 0 ≤ (x5_1 : Int) := od
                have q238 : x5_1 < (l1.length : Int) := od
                obtain ⟨ad238, A238_3, c238_3, A238_4, c238_4, A238_5, c238_5, e238, Jl, Jm, Jn, Jo, Jp, Jq, hl238_3, hi238_3, hl238_4, hi238_4, hl238_5, hi238_5⟩ := at_T135 HR1.out x5_1 p238 q238
                have hw238_5 := Jq
                have hw238_4 := Jp
                have hw238_3 := Jo
                have hw238_2 := Jn
                have hw238_1 := Jm
                have hw238_0 := Jl
                cases e238
                replace Jl := (HB.out.cell (World.block_lt_of_cell? w _ Jl)).trans Jl
                replace Jm := (HB.out.cell (World.block_lt_of_cell? w _ Jm)).trans Jm
                replace Jn := (HB.out.cell (World.block_lt_of_cell? w _ Jn)).trans Jn
                replace Jo := (HB.out.cell (World.block_lt_of_cell? w _ Jo)).trans Jo
                replace Jp := (HB.out.cell (World.block_lt_of_cell? w _ Jp)).trans Jp
                replace Jq := (HB.out.cell (World.block_lt_of_cell? w _ Jq)).trans Jq
                have HR238_3 := Aside0.mk hi238_3
                have HC238_3 := Aside0.mk hl238_3
                clear hi238_3 hl238_3
                have HR238_4 := Aside0.mk hi238_4
                have HC238_4 := Aside0.mk hl238_4
                clear hi238_4 hl238_4
                have HR238_5 := Aside0.mk hi238_5
                have HC238_5 := Aside0.mk hl238_5
                clear hi238_5 hl238_5
                replace p238 := eq_true p238
                replace q238 := eq_true q238
                refine start_ (n := 10) (S := fun w' => w'.cell? (ad237.add ((x5_1).toNat * 6)) = some (.int .i64 ((rd_T135 l0 x5_1).f0)) ∧ w'.cell? ⟨(ad237.add ((x5_1).toNat * 6)).block, (ad237.add ((x5_1).toNat * 6)).off + 1, none⟩ = some (.int .i64 ((rd_T135 l0 x5_1).f1)) ∧ w'.cell? ⟨(ad237.add ((x5_1).toNat * 6)).block, (ad237.add ((x5_1).toNat * 6)).off + 2, none⟩ = some (.int .i64 ((rd_T135 l0 x5_1).f2)) ∧ w'.cell? ⟨(ad237.add ((x5_1).toNat * 6)).block, (ad237.add ((x5_1).toNat * 6)).off + 3, none⟩ = some (.slice A237_3 ((rd_T135 l0 x5_1).f3).length c237_3) ∧ w'.cell? ⟨(ad237.add ((x5_1).toNat * 6)).block, (ad237.add ((x5_1).toNat * 6)).off + 4, none⟩ = some (.slice A237_4 ((rd_T135 l0 x5_1).f4).length c237_4) ∧ w'.cell? ⟨(ad237.add ((x5_1).toNat * 6)).block, (ad237.add ((x5_1).toNat * 6)).off + 5, none⟩ = some (.slice A237_5 ((rd_T135 l0 x5_1).f5).length c237_5) ∧ w'.cell? (ad238.add ((x5_1).toNat * 6)) = some (.int .i64 ((rd_T135 l1 x5_1).f0)) ∧ w'.cell? ⟨(ad238.add ((x5_1).toNat * 6)).block, (ad238.add ((x5_1).toNat * 6)).off + 1, none⟩ = some (.int .i64 ((rd_T135 l1 x5_1).f1)) ∧ w'.cell? ⟨(ad238.add ((x5_1).toNat * 6)).block, (ad238.add ((x5_1).toNat * 6)).off + 2, none⟩ = some (.int .i64 ((rd_T135 l1 x5_1).f2)) ∧ w'.cell? ⟨(ad238.add ((x5_1).toNat * 6)).block, (ad238.add ((x5_1).toNat * 6)).off + 3, none⟩ = some (.slice A238_3 ((rd_T135 l1 x5_1).f3).length c238_3) ∧ w'.cell? ⟨(ad238.add ((x5_1).toNat * 6)).block, (ad238.add ((x5_1).toNat * 6)).off + 4, none⟩ = some (.slice A238_4 ((rd_T135 l1 x5_1).f4).length c238_4) ∧ w'.cell? ⟨(ad238.add ((x5_1).toNat * 6)).block, (ad238.add ((x5_1).toNat * 6)).off + 5, none⟩ = some (.slice A238_5 ((rd_T135 l1 x5_1).f5).length c238_5)) (ds := []) #[false, false, false, false, false, false, false, false, false, false] (by kernel_rfl) rfl rfl ⟨((HB.out.cell (World.block_lt_of_cell? w _ hw237_0)).trans hw237_0), ((HB.out.cell (World.block_lt_of_cell? w _ hw237_1)).trans hw237_1), ((HB.out.cell (World.block_lt_of_cell? w _ hw237_2)).trans hw237_2), ((HB.out.cell (World.block_lt_of_cell? w _ hw237_3)).trans hw237_3), ((HB.out.cell (World.block_lt_of_cell? w _ hw237_4)).trans hw237_4), ((HB.out.cell (World.block_lt_of_cell? w _ hw237_5)).trans hw237_5), ((HB.out.cell (World.block_lt_of_cell? w _ hw238_0)).trans hw238_0), ((HB.out.cell (World.block_lt_of_cell? w _ hw238_1)).trans hw238_1), ((HB.out.cell (World.block_lt_of_cell? w _ hw238_2)).trans hw238_2), ((HB.out.cell (World.block_lt_of_cell? w _ hw238_3)).trans hw238_3), ((HB.out.cell (World.block_lt_of_cell? w _ hw238_4)).trans hw238_4), ((HB.out.cell (World.block_lt_of_cell? w _ hw238_5)).trans hw238_5)⟩ (fun hHeld => ?_); refine with_tabW laws_eqCopiedS.tab6 laws_eqCopiedS.bits6 (fun HT_ HW_ => ?_)
                generalize wr.drew = w9 at HB HR237_3 HR237_4 HR237_5 HR238_3 HR238_4 HR238_5 Jf Jg Jh Ji Jj Jk Jl Jm Jn Jo Jp Jq hHeld ⊢
                refine pure_ (i := 0) (N := some 17) (v := ?_) (a' := ?_) #[true, false, false, false, false, false, false, false, false, false] rfl rfl (any_of HT_.out (by kernel_rfl)) (fun _ _ _ h => h) (Or.inl ⟨by rfl, ?_⟩) ?_ ?_
                rotate_left
                · intro w'
                  go_simp
                  with_reducible rfl
                rotate_left
                · simp only [Act.put, List.setIfInBounds_toArray, List.set_cons_zero, List.set_cons_succ, i64_w, i32_w]
                  rfl
                refine pure_ (i := 1) (N := some 18) (v := ?_) (a' := ?_) #[true, true, false, false, false, false, false, false, false, false] rfl rfl (any_of HT_.out (by kernel_rfl)) (fun _ _ _ h => h) (Or.inl ⟨by rfl, ?_⟩) ?_ ?_
                rotate_left
                · intro w'
                  go_simp
                  with_reducible rfl
                rotate_left
                · simp only [Act.put, List.setIfInBounds_toArray, List.set_cons_zero, List.set_cons_succ, i64_w, i32_w]
                  rfl
                refine pure_ (i := 2) (N := some 19) (v := ?_) (a' := ?_) #[true, true, true, false, false, false, false, false, false, false] rfl rfl (any_of HT_.out (by kernel_rfl)) (fun _ _ _ h => h) (Or.inl ⟨by rfl, ?_⟩) ?_ ?_
                rotate_left
                · intro w'
                  go_simp
                  with_reducible rfl
                rotate_left
                · simp only [Act.put, List.setIfInBounds_toArray, List.set_cons_zero, List.set_cons_succ, i64_w, i32_w]
                  rfl
                refine pure_ (i := 4) (N := some 21) (v := ?_) (a' := ?_) #[true, true, true, false, true, false, false, false, false, false] rfl rfl (any_of HT_.out (by kernel_rfl)) (fun _ _ _ h => h) (Or.inl ⟨by rfl, ?_⟩) ?_ ?_
                rotate_left
                · intro w'
                  go_simp
                  with_reducible rfl
                rotate_left
                · simp only [Act.put, List.setIfInBounds_toArray, List.set_cons_zero, List.set_cons_succ, i64_w, i32_w]
                  rfl
                refine pure_ (i := 5) (N := some 22) (v := ?_) (a' := ?_) #[true, true, true, false, true, true, false, false, false, false] rfl rfl (any_of HT_.out (by kernel_rfl)) (fun _ _ _ h => h) (Or.inl ⟨by rfl, ?_⟩) ?_ ?_
                rotate_left
                · intro w'
                  go_simp
                  with_reducible rfl
                rotate_left
                · simp only [Act.put, List.setIfInBounds_toArray, List.set_cons_zero, List.set_cons_succ, i64_w, i32_w]
                  rfl
                refine pure_ (i := 6) (N := some 23) (v := ?_) (a' := ?_) #[true, true, true, false, true, true, true, false, false, false] rfl rfl (any_of HT_.out (by kernel_rfl)) (fun _ _ _ h => h) (Or.inl ⟨by rfl, ?_⟩) ?_ ?_
                rotate_left
                · intro w'
                  go_simp
                  with_reducible rfl
                rotate_left
                · simp only [Act.put, List.setIfInBounds_toArray, List.set_cons_zero, List.set_cons_succ, i64_w, i32_w]
                  rfl
                refine take_ (i := 3) (N := some 20) (v := ?_) (a' := ?_) #[true, true, true, true, true, true, true, false, false, false] rfl rfl (take_ofW HT_.out HW_.out (by kernel_rfl)) (fun _ _ _ h => h) (Or.inl ⟨by rfl, ?_⟩) hHeld ?_ ?_
                rotate_left
                · rintro w' ⟨s0, s1, s2, s3, s4, s5, s6, s7, s8, s9, s10, s11⟩
                  go_simp
                  with_reducible rfl
                rotate_left
                · simp only [Act.put, List.setIfInBounds_toArray, List.set_cons_zero, List.set_cons_succ, i64_w, i32_w]
                  rfl
                refine take_ (i := 7) (N := some 24) (v := ?_) (a' := ?_) #[true, true, true, true, true, true, true, true, false, false] rfl rfl (take_ofW HT_.out HW_.out (by kernel_rfl)) (fun _ _ _ h => h) (Or.inl ⟨by rfl, ?_⟩) hHeld ?_ ?_
                rotate_left
                · rintro w' ⟨s0, s1, s2, s3, s4, s5, s6, s7, s8, s9, s10, s11⟩
                  go_simp
                  with_reducible rfl
                rotate_left
                · simp only [Act.put, List.setIfInBounds_toArray, List.set_cons_zero, List.set_cons_succ, i64_w, i32_w]
                  rfl
                refine one_ (i := 8) (N := some 25) #[true, true, true, true, true, true, true, true, true, false] rfl rfl (one_of HT_.out (by kernel_rfl)) (by decide) (fun K hK => ?_)
                refine goes_ Try.func134 (by kernel_rfl) rfl #[.agg #[.int .i64 ((rd_T135 l0 x5_1).f0), .int .i64 ((rd_T135 l0 x5_1).f1), .int .i64 ((rd_T135 l0 x5_1).f2), .slice A237_3 ((rd_T135 l0 x5_1).f3).length c237_3, .slice A237_4 ((rd_T135 l0 x5_1).f4).length c237_4, .slice A237_5 ((rd_T135 l0 x5_1).f5).length c237_5], .agg #[.int .i64 ((rd_T135 l1 x5_1).f0), .int .i64 ((rd_T135 l1 x5_1).f1), .int .i64 ((rd_T135 l1 x5_1).f2), .slice A238_3 ((rd_T135 l1 x5_1).f3).length c238_3, .slice A238_4 ((rd_T135 l1 x5_1).f4).length c238_4, .slice A238_5 ((rd_T135 l1 x5_1).f5).length c238_5]] (by rfl) rfl rfl (by (try simp only [List.map_toArray, List.map_cons, List.map_nil]); first | done | rfl | (simp only [List.length_drop, List.length_take]; rfl)) ?_
                with_reducible refine (laws_eqCopied.calls k1 ((rd_T135 l0 x5_1).f0) ((rd_T135 l0 x5_1).f1) ((rd_T135 l0 x5_1).f2) _ _ ((rd_T135 l0 x5_1).f3) _ _ ((rd_T135 l0 x5_1).f4) _ _ ((rd_T135 l0 x5_1).f5) ((rd_T135 l1 x5_1).f0) ((rd_T135 l1 x5_1).f1) ((rd_T135 l1 x5_1).f2) _ _ ((rd_T135 l1 x5_1).f3) _ _ ((rd_T135 l1 x5_1).f4) _ _ ((rd_T135 l1 x5_1).f5) true _ ?side1 ?side2 ?side3 ?side4 ?side5 ?side6 ?side7 ?side8 ?side9 ?side10 ?side11 ?side12 A7.out).mono ?_
                (case side1 => repeat (first | exact (Kd.C_below HR237_3.out HB.out) | (with_reducible refine Kd.C_alloc ?_ _) | (with_reducible refine Kd.C_drewN ?_ _) | (with_reducible refine Kd.C_drew ?_)))
                (case side2 => exact HC237_3.out)
                (case side3 => repeat (first | exact (Kd.C_below HR237_4.out HB.out) | (with_reducible refine Kd.C_alloc ?_ _) | (with_reducible refine Kd.C_drewN ?_ _) | (with_reducible refine Kd.C_drew ?_)))
                (case side4 => exact HC237_4.out)
                (case side5 => repeat (first | exact (Kd.C_below HR237_5.out HB.out) | (with_reducible refine Kd.C_alloc ?_ _) | (with_reducible refine Kd.C_drewN ?_ _) | (with_reducible refine Kd.C_drew ?_)))
                (case side6 => exact HC237_5.out)
                (case side7 => repeat (first | exact (Kd.C_below HR238_3.out HB.out) | (with_reducible refine Kd.C_alloc ?_ _) | (with_reducible refine Kd.C_drewN ?_ _) | (with_reducible refine Kd.C_drew ?_)))
                (case side8 => exact HC238_3.out)
                (case side9 => repeat (first | exact (Kd.C_below HR238_4.out HB.out) | (with_reducible refine Kd.C_alloc ?_ _) | (with_reducible refine Kd.C_drewN ?_ _) | (with_reducible refine Kd.C_drew ?_)))
                (case side10 => exact HC238_4.out)
                (case side11 => repeat (first | exact (Kd.C_below HR238_5.out HB.out) | (with_reducible refine Kd.C_alloc ?_ _) | (with_reducible refine Kd.C_drewN ?_ _) | (with_reducible refine Kd.C_drew ?_)))
                (case side12 => exact HC238_5.out)
                rintro e w10 ⟨rfl, hb⟩
                refine ⟨_, rfl, ?_⟩
                have n0_ := Aside0.mk (below_step bo hb)
                clear HB
                have HB := n0_
                clear n0_
                (try clear hb)
                (try clear hb2)
                (try clear hk)
                (try clear hi)
                refine hK.out _ _ ⟨((HB.out.cell (World.block_lt_of_cell? w _ hw237_0)).trans hw237_0), ((HB.out.cell (World.block_lt_of_cell? w _ hw237_1)).trans hw237_1), ((HB.out.cell (World.block_lt_of_cell? w _ hw237_2)).trans hw237_2), ((HB.out.cell (World.block_lt_of_cell? w _ hw237_3)).trans hw237_3), ((HB.out.cell (World.block_lt_of_cell? w _ hw237_4)).trans hw237_4), ((HB.out.cell (World.block_lt_of_cell? w _ hw237_5)).trans hw237_5), ((HB.out.cell (World.block_lt_of_cell? w _ hw238_0)).trans hw238_0), ((HB.out.cell (World.block_lt_of_cell? w _ hw238_1)).trans hw238_1), ((HB.out.cell (World.block_lt_of_cell? w _ hw238_2)).trans hw238_2), ((HB.out.cell (World.block_lt_of_cell? w _ hw238_3)).trans hw238_3), ((HB.out.cell (World.block_lt_of_cell? w _ hw238_4)).trans hw238_4), ((HB.out.cell (World.block_lt_of_cell? w _ hw238_5)).trans hw238_5)⟩ (fun hHeld => ?_)
                clear hK K
                refine norm_ (a' := ?_) ?_ ?_
                rotate_left
                · show Act.put _ (some 25) _ = _
                  simp only [Act.put, List.setIfInBounds_toArray, List.set_cons_zero, List.set_cons_succ, i64_w, i32_w]
                  rfl
                refine pure_ (i := 9) (N := some 26) (v := ?_) (a' := ?_) #[true, true, true, true, true, true, true, true, true, true] rfl rfl (any_of HT_.out (by kernel_rfl)) (fun _ _ _ h => h) (Or.inl ⟨by rfl, ?_⟩) ?_ ?_
                rotate_left
                · intro w'
                  go_simp
                  with_reducible rfl
                rotate_left
                · simp only [Act.put, List.setIfInBounds_toArray, List.set_cons_zero, List.set_cons_succ, i64_w, i32_w]
                  rfl
                refine done_ (done_of HT_.out (by kernel_rfl)) ?_
                try go_wp2
                go_roundg k1
                case measure => have := HK1.out; omega
                case rel => exact ⟨(wrap64 (x5_1 + 1)), (by first | rfl | (simp; done) | (simp [*]; done)), H', ⟨by have := HK1.out; omega⟩, ⟨by repeat (first | (with_reducible first | exact HB.out | apply below_alloc | apply pw_below_drewN | apply below_drew1) | exact HB.out)⟩⟩
              · replace c8 := Bool.eq_false_iff.mpr c8
                subst c8
                have H1 : (some false) = some r := by rw [if_neg (show ¬ (false = true) by decide)] at H; exact H
                clear H
                have H := H1
                clear H1
                obtain rfl := Option.some.inj H
                try go_wp2
                have n0_ := Aside0.mk (below_drew1 HB.out)
                clear HB
                have HB := n0_
                clear n0_
                have p237 : 0 ≤ (x5_1 : Int) := od
                have q237 : x5_1 < (l0.length : Int) := od
                obtain ⟨ad237, A237_3, c237_3, A237_4, c237_4, A237_5, c237_5, e237, Jf, Jg, Jh, Ji, Jj, Jk, hl237_3, hi237_3, hl237_4, hi237_4, hl237_5, hi237_5⟩ := at_T135 HR0.out x5_1 p237 q237
                have hw237_5 := Jk
                have hw237_4 := Jj
                have hw237_3 := Ji
                have hw237_2 := Jh
                have hw237_1 := Jg
                have hw237_0 := Jf
                cases e237
                replace Jf := (HB.out.cell (World.block_lt_of_cell? w _ Jf)).trans Jf
                replace Jg := (HB.out.cell (World.block_lt_of_cell? w _ Jg)).trans Jg
                replace Jh := (HB.out.cell (World.block_lt_of_cell? w _ Jh)).trans Jh
                replace Ji := (HB.out.cell (World.block_lt_of_cell? w _ Ji)).trans Ji
                replace Jj := (HB.out.cell (World.block_lt_of_cell? w _ Jj)).trans Jj
                replace Jk := (HB.out.cell (World.block_lt_of_cell? w _ Jk)).trans Jk
                have HR237_3 := Aside0.mk hi237_3
                have HC237_3 := Aside0.mk hl237_3
                clear hi237_3 hl237_3
                have HR237_4 := Aside0.mk hi237_4
                have HC237_4 := Aside0.mk hl237_4
                clear hi237_4 hl237_4
                have HR237_5 := Aside0.mk hi237_5
                have HC237_5 := Aside0.mk hl237_5
                clear hi237_5 hl237_5
                replace p237 := eq_true p237
                replace q237 := eq_true q237
                have p238 : 0 ≤ (x5_1 : Int) := od
                have q238 : x5_1 < (l1.length : Int) := od
                obtain ⟨ad238, A238_3, c238_3, A238_4, c238_4, A238_5, c238_5, e238, Jl, Jm, Jn, Jo, Jp, Jq, hl238_3, hi238_3, hl238_4, hi238_4, hl238_5, hi238_5⟩ := at_T135 HR1.out x5_1 p238 q238
                have hw238_5 := Jq
                have hw238_4 := Jp
                have hw238_3 := Jo
                have hw238_2 := Jn
                have hw238_1 := Jm
                have hw238_0 := Jl
                cases e238
                replace Jl := (HB.out.cell (World.block_lt_of_cell? w _ Jl)).trans Jl
                replace Jm := (HB.out.cell (World.block_lt_of_cell? w _ Jm)).trans Jm
                replace Jn := (HB.out.cell (World.block_lt_of_cell? w _ Jn)).trans Jn
                replace Jo := (HB.out.cell (World.block_lt_of_cell? w _ Jo)).trans Jo
                replace Jp := (HB.out.cell (World.block_lt_of_cell? w _ Jp)).trans Jp
                replace Jq := (HB.out.cell (World.block_lt_of_cell? w _ Jq)).trans Jq
                have HR238_3 := Aside0.mk hi238_3
                have HC238_3 := Aside0.mk hl238_3
                clear hi238_3 hl238_3
                have HR238_4 := Aside0.mk hi238_4
                have HC238_4 := Aside0.mk hl238_4
                clear hi238_4 hl238_4
                have HR238_5 := Aside0.mk hi238_5
                have HC238_5 := Aside0.mk hl238_5
                clear hi238_5 hl238_5
                replace p238 := eq_true p238
                replace q238 := eq_true q238
                refine start_ (n := 10) (S := fun w' => w'.cell? (ad237.add ((x5_1).toNat * 6)) = some (.int .i64 ((rd_T135 l0 x5_1).f0)) ∧ w'.cell? ⟨(ad237.add ((x5_1).toNat * 6)).block, (ad237.add ((x5_1).toNat * 6)).off + 1, none⟩ = some (.int .i64 ((rd_T135 l0 x5_1).f1)) ∧ w'.cell? ⟨(ad237.add ((x5_1).toNat * 6)).block, (ad237.add ((x5_1).toNat * 6)).off + 2, none⟩ = some (.int .i64 ((rd_T135 l0 x5_1).f2)) ∧ w'.cell? ⟨(ad237.add ((x5_1).toNat * 6)).block, (ad237.add ((x5_1).toNat * 6)).off + 3, none⟩ = some (.slice A237_3 ((rd_T135 l0 x5_1).f3).length c237_3) ∧ w'.cell? ⟨(ad237.add ((x5_1).toNat * 6)).block, (ad237.add ((x5_1).toNat * 6)).off + 4, none⟩ = some (.slice A237_4 ((rd_T135 l0 x5_1).f4).length c237_4) ∧ w'.cell? ⟨(ad237.add ((x5_1).toNat * 6)).block, (ad237.add ((x5_1).toNat * 6)).off + 5, none⟩ = some (.slice A237_5 ((rd_T135 l0 x5_1).f5).length c237_5) ∧ w'.cell? (ad238.add ((x5_1).toNat * 6)) = some (.int .i64 ((rd_T135 l1 x5_1).f0)) ∧ w'.cell? ⟨(ad238.add ((x5_1).toNat * 6)).block, (ad238.add ((x5_1).toNat * 6)).off + 1, none⟩ = some (.int .i64 ((rd_T135 l1 x5_1).f1)) ∧ w'.cell? ⟨(ad238.add ((x5_1).toNat * 6)).block, (ad238.add ((x5_1).toNat * 6)).off + 2, none⟩ = some (.int .i64 ((rd_T135 l1 x5_1).f2)) ∧ w'.cell? ⟨(ad238.add ((x5_1).toNat * 6)).block, (ad238.add ((x5_1).toNat * 6)).off + 3, none⟩ = some (.slice A238_3 ((rd_T135 l1 x5_1).f3).length c238_3) ∧ w'.cell? ⟨(ad238.add ((x5_1).toNat * 6)).block, (ad238.add ((x5_1).toNat * 6)).off + 4, none⟩ = some (.slice A238_4 ((rd_T135 l1 x5_1).f4).length c238_4) ∧ w'.cell? ⟨(ad238.add ((x5_1).toNat * 6)).block, (ad238.add ((x5_1).toNat * 6)).off + 5, none⟩ = some (.slice A238_5 ((rd_T135 l1 x5_1).f5).length c238_5)) (ds := []) #[false, false, false, false, false, false, false, false, false, false] (by kernel_rfl) rfl rfl ⟨((HB.out.cell (World.block_lt_of_cell? w _ hw237_0)).trans hw237_0), ((HB.out.cell (World.block_lt_of_cell? w _ hw237_1)).trans hw237_1), ((HB.out.cell (World.block_lt_of_cell? w _ hw237_2)).trans hw237_2), ((HB.out.cell (World.block_lt_of_cell? w _ hw237_3)).trans hw237_3), ((HB.out.cell (World.block_lt_of_cell? w _ hw237_4)).trans hw237_4), ((HB.out.cell (World.block_lt_of_cell? w _ hw237_5)).trans hw237_5), ((HB.out.cell (World.block_lt_of_cell? w _ hw238_0)).trans hw238_0), ((HB.out.cell (World.block_lt_of_cell? w _ hw238_1)).trans hw238_1), ((HB.out.cell (World.block_lt_of_cell? w _ hw238_2)).trans hw238_2), ((HB.out.cell (World.block_lt_of_cell? w _ hw238_3)).trans hw238_3), ((HB.out.cell (World.block_lt_of_cell? w _ hw238_4)).trans hw238_4), ((HB.out.cell (World.block_lt_of_cell? w _ hw238_5)).trans hw238_5)⟩ (fun hHeld => ?_); refine with_tabW laws_eqCopiedS.tab6 laws_eqCopiedS.bits6 (fun HT_ HW_ => ?_)
                generalize wr.drew = w11 at HB HR237_3 HR237_4 HR237_5 HR238_3 HR238_4 HR238_5 Jf Jg Jh Ji Jj Jk Jl Jm Jn Jo Jp Jq hHeld ⊢
                refine pure_ (i := 0) (N := some 17) (v := ?_) (a' := ?_) #[true, false, false, false, false, false, false, false, false, false] rfl rfl (any_of HT_.out (by kernel_rfl)) (fun _ _ _ h => h) (Or.inl ⟨by rfl, ?_⟩) ?_ ?_
                rotate_left
                · intro w'
                  go_simp
                  with_reducible rfl
                rotate_left
                · simp only [Act.put, List.setIfInBounds_toArray, List.set_cons_zero, List.set_cons_succ, i64_w, i32_w]
                  rfl
                refine pure_ (i := 1) (N := some 18) (v := ?_) (a' := ?_) #[true, true, false, false, false, false, false, false, false, false] rfl rfl (any_of HT_.out (by kernel_rfl)) (fun _ _ _ h => h) (Or.inl ⟨by rfl, ?_⟩) ?_ ?_
                rotate_left
                · intro w'
                  go_simp
                  with_reducible rfl
                rotate_left
                · simp only [Act.put, List.setIfInBounds_toArray, List.set_cons_zero, List.set_cons_succ, i64_w, i32_w]
                  rfl
                refine pure_ (i := 2) (N := some 19) (v := ?_) (a' := ?_) #[true, true, true, false, false, false, false, false, false, false] rfl rfl (any_of HT_.out (by kernel_rfl)) (fun _ _ _ h => h) (Or.inl ⟨by rfl, ?_⟩) ?_ ?_
                rotate_left
                · intro w'
                  go_simp
                  with_reducible rfl
                rotate_left
                · simp only [Act.put, List.setIfInBounds_toArray, List.set_cons_zero, List.set_cons_succ, i64_w, i32_w]
                  rfl
                refine pure_ (i := 4) (N := some 21) (v := ?_) (a' := ?_) #[true, true, true, false, true, false, false, false, false, false] rfl rfl (any_of HT_.out (by kernel_rfl)) (fun _ _ _ h => h) (Or.inl ⟨by rfl, ?_⟩) ?_ ?_
                rotate_left
                · intro w'
                  go_simp
                  with_reducible rfl
                rotate_left
                · simp only [Act.put, List.setIfInBounds_toArray, List.set_cons_zero, List.set_cons_succ, i64_w, i32_w]
                  rfl
                refine pure_ (i := 5) (N := some 22) (v := ?_) (a' := ?_) #[true, true, true, false, true, true, false, false, false, false] rfl rfl (any_of HT_.out (by kernel_rfl)) (fun _ _ _ h => h) (Or.inl ⟨by rfl, ?_⟩) ?_ ?_
                rotate_left
                · intro w'
                  go_simp
                  with_reducible rfl
                rotate_left
                · simp only [Act.put, List.setIfInBounds_toArray, List.set_cons_zero, List.set_cons_succ, i64_w, i32_w]
                  rfl
                refine pure_ (i := 6) (N := some 23) (v := ?_) (a' := ?_) #[true, true, true, false, true, true, true, false, false, false] rfl rfl (any_of HT_.out (by kernel_rfl)) (fun _ _ _ h => h) (Or.inl ⟨by rfl, ?_⟩) ?_ ?_
                rotate_left
                · intro w'
                  go_simp
                  with_reducible rfl
                rotate_left
                · simp only [Act.put, List.setIfInBounds_toArray, List.set_cons_zero, List.set_cons_succ, i64_w, i32_w]
                  rfl
                refine take_ (i := 3) (N := some 20) (v := ?_) (a' := ?_) #[true, true, true, true, true, true, true, false, false, false] rfl rfl (take_ofW HT_.out HW_.out (by kernel_rfl)) (fun _ _ _ h => h) (Or.inl ⟨by rfl, ?_⟩) hHeld ?_ ?_
                rotate_left
                · rintro w' ⟨s0, s1, s2, s3, s4, s5, s6, s7, s8, s9, s10, s11⟩
                  go_simp
                  with_reducible rfl
                rotate_left
                · simp only [Act.put, List.setIfInBounds_toArray, List.set_cons_zero, List.set_cons_succ, i64_w, i32_w]
                  rfl
                refine take_ (i := 7) (N := some 24) (v := ?_) (a' := ?_) #[true, true, true, true, true, true, true, true, false, false] rfl rfl (take_ofW HT_.out HW_.out (by kernel_rfl)) (fun _ _ _ h => h) (Or.inl ⟨by rfl, ?_⟩) hHeld ?_ ?_
                rotate_left
                · rintro w' ⟨s0, s1, s2, s3, s4, s5, s6, s7, s8, s9, s10, s11⟩
                  go_simp
                  with_reducible rfl
                rotate_left
                · simp only [Act.put, List.setIfInBounds_toArray, List.set_cons_zero, List.set_cons_succ, i64_w, i32_w]
                  rfl
                refine one_ (i := 8) (N := some 25) #[true, true, true, true, true, true, true, true, true, false] rfl rfl (one_of HT_.out (by kernel_rfl)) (by decide) (fun K hK => ?_)
                refine goes_ Try.func134 (by kernel_rfl) rfl #[.agg #[.int .i64 ((rd_T135 l0 x5_1).f0), .int .i64 ((rd_T135 l0 x5_1).f1), .int .i64 ((rd_T135 l0 x5_1).f2), .slice A237_3 ((rd_T135 l0 x5_1).f3).length c237_3, .slice A237_4 ((rd_T135 l0 x5_1).f4).length c237_4, .slice A237_5 ((rd_T135 l0 x5_1).f5).length c237_5], .agg #[.int .i64 ((rd_T135 l1 x5_1).f0), .int .i64 ((rd_T135 l1 x5_1).f1), .int .i64 ((rd_T135 l1 x5_1).f2), .slice A238_3 ((rd_T135 l1 x5_1).f3).length c238_3, .slice A238_4 ((rd_T135 l1 x5_1).f4).length c238_4, .slice A238_5 ((rd_T135 l1 x5_1).f5).length c238_5]] (by rfl) rfl rfl (by (try simp only [List.map_toArray, List.map_cons, List.map_nil]); first | done | rfl | (simp only [List.length_drop, List.length_take]; rfl)) ?_
                with_reducible refine (laws_eqCopied.calls k1 ((rd_T135 l0 x5_1).f0) ((rd_T135 l0 x5_1).f1) ((rd_T135 l0 x5_1).f2) _ _ ((rd_T135 l0 x5_1).f3) _ _ ((rd_T135 l0 x5_1).f4) _ _ ((rd_T135 l0 x5_1).f5) ((rd_T135 l1 x5_1).f0) ((rd_T135 l1 x5_1).f1) ((rd_T135 l1 x5_1).f2) _ _ ((rd_T135 l1 x5_1).f3) _ _ ((rd_T135 l1 x5_1).f4) _ _ ((rd_T135 l1 x5_1).f5) false _ ?side1 ?side2 ?side3 ?side4 ?side5 ?side6 ?side7 ?side8 ?side9 ?side10 ?side11 ?side12 A7.out).mono ?_
                (case side1 => repeat (first | exact (Kd.C_below HR237_3.out HB.out) | (with_reducible refine Kd.C_alloc ?_ _) | (with_reducible refine Kd.C_drewN ?_ _) | (with_reducible refine Kd.C_drew ?_)))
                (case side2 => exact HC237_3.out)
                (case side3 => repeat (first | exact (Kd.C_below HR237_4.out HB.out) | (with_reducible refine Kd.C_alloc ?_ _) | (with_reducible refine Kd.C_drewN ?_ _) | (with_reducible refine Kd.C_drew ?_)))
                (case side4 => exact HC237_4.out)
                (case side5 => repeat (first | exact (Kd.C_below HR237_5.out HB.out) | (with_reducible refine Kd.C_alloc ?_ _) | (with_reducible refine Kd.C_drewN ?_ _) | (with_reducible refine Kd.C_drew ?_)))
                (case side6 => exact HC237_5.out)
                (case side7 => repeat (first | exact (Kd.C_below HR238_3.out HB.out) | (with_reducible refine Kd.C_alloc ?_ _) | (with_reducible refine Kd.C_drewN ?_ _) | (with_reducible refine Kd.C_drew ?_)))
                (case side8 => exact HC238_3.out)
                (case side9 => repeat (first | exact (Kd.C_below HR238_4.out HB.out) | (with_reducible refine Kd.C_alloc ?_ _) | (with_reducible refine Kd.C_drewN ?_ _) | (with_reducible refine Kd.C_drew ?_)))
                (case side10 => exact HC238_4.out)
                (case side11 => repeat (first | exact (Kd.C_below HR238_5.out HB.out) | (with_reducible refine Kd.C_alloc ?_ _) | (with_reducible refine Kd.C_drewN ?_ _) | (with_reducible refine Kd.C_drew ?_)))
                (case side12 => exact HC238_5.out)
                rintro e w12 ⟨rfl, hb⟩
                refine ⟨_, rfl, ?_⟩
                have n0_ := Aside0.mk (below_step bo hb)
                clear HB
                have HB := n0_
                clear n0_
                (try clear hb)
                (try clear hb2)
                (try clear hk)
                (try clear hi)
                refine hK.out _ _ ⟨((HB.out.cell (World.block_lt_of_cell? w _ hw237_0)).trans hw237_0), ((HB.out.cell (World.block_lt_of_cell? w _ hw237_1)).trans hw237_1), ((HB.out.cell (World.block_lt_of_cell? w _ hw237_2)).trans hw237_2), ((HB.out.cell (World.block_lt_of_cell? w _ hw237_3)).trans hw237_3), ((HB.out.cell (World.block_lt_of_cell? w _ hw237_4)).trans hw237_4), ((HB.out.cell (World.block_lt_of_cell? w _ hw237_5)).trans hw237_5), ((HB.out.cell (World.block_lt_of_cell? w _ hw238_0)).trans hw238_0), ((HB.out.cell (World.block_lt_of_cell? w _ hw238_1)).trans hw238_1), ((HB.out.cell (World.block_lt_of_cell? w _ hw238_2)).trans hw238_2), ((HB.out.cell (World.block_lt_of_cell? w _ hw238_3)).trans hw238_3), ((HB.out.cell (World.block_lt_of_cell? w _ hw238_4)).trans hw238_4), ((HB.out.cell (World.block_lt_of_cell? w _ hw238_5)).trans hw238_5)⟩ (fun hHeld => ?_)
                clear hK K
                refine norm_ (a' := ?_) ?_ ?_
                rotate_left
                · show Act.put _ (some 25) _ = _
                  simp only [Act.put, List.setIfInBounds_toArray, List.set_cons_zero, List.set_cons_succ, i64_w, i32_w]
                  rfl
                refine pure_ (i := 9) (N := some 26) (v := ?_) (a' := ?_) #[true, true, true, true, true, true, true, true, true, true] rfl rfl (any_of HT_.out (by kernel_rfl)) (fun _ _ _ h => h) (Or.inl ⟨by rfl, ?_⟩) ?_ ?_
                rotate_left
                · intro w'
                  go_simp
                  with_reducible rfl
                rotate_left
                · simp only [Act.put, List.setIfInBounds_toArray, List.set_cons_zero, List.set_cons_succ, i64_w, i32_w]
                  rfl
                refine done_ (done_of HT_.out (by kernel_rfl)) ?_
                try go_wp2
                go_ret
                exact ⟨by first | rfl | (simp [errW_none, errW_some] <;> rfl) | (simp [*, errW_none, errW_some] <;> rfl), by repeat (first | (with_reducible first | exact HB.out | apply below_alloc | apply pw_below_drewN | apply below_drew1) | exact HB.out)⟩
            · rw [if_neg c6] at H
              exact absurd H (by simp)
          · rw [if_neg c5] at H
            exact absurd H (by simp)
        · rw [if_neg c4] at H
          have c4b0 : decide (x5_1 < (l0.length : Int)) = false := decide_eq_false c4
          clear c4
          obtain rfl := Option.some.inj H
          go_wp2
          go_ret
          exact ⟨by first | rfl | (simp [errW_none, errW_some] <;> rfl) | (simp [*, errW_none, errW_some] <;> rfl), by repeat (first | (with_reducible first | exact HB.out | apply below_alloc | apply pw_below_drewN | apply below_drew1) | exact HB.out)⟩
  · rw [if_neg c3] at H
    have c3b0 : ((l0.length : Int) == (l1.length : Int)) = false := beq_eq_false_iff_ne.mpr c3
    have c3b1 : ((l0.length : Int) != (l1.length : Int)) = true := bne_iff_ne.mpr c3
    have c3b2 : (l0.length == l1.length) = false := by first | simpa using c3 | (simp at c3 ⊢; omega)
    obtain rfl := Option.some.inj H
    go_enter Try.func78, Try.ntmps78
    go_wp2
    go_ret
    exact ⟨by first | rfl | (simp [errW_none, errW_some] <;> rfl) | (simp [*, errW_none, errW_some] <;> rfl), by repeat (first | (with_reducible first | exact HB.out | apply below_alloc | apply pw_below_drewN | apply below_drew1) | exact HB.out)⟩

/-! ### laws_eqCopies: function 22 -/
def laws_eqCopies.f (k : Nat) (a0_0 : Int) (a0_1 : Int) (l0_2 : List (S118)) (l0_3 : List Int) (l0_4 : List (S135)) (a1_0 : Int) (a1_1 : Int) (l1_2 : List (S118)) (l1_3 : List Int) (l1_4 : List (S135)) : Option (Bool) := if a0_0 = a1_0 then (if a0_1 = a1_1 then ((laws_eqCellS.f k l0_2 l1_2).bind fun t242 => (if t242 = true then ((laws_eqInt64S.f k l0_3 l1_3).bind fun t243 => (if t243 = true then ((laws_eqCopiedS.f k l0_4 l1_4).bind fun t244 => (if t244 = true then (some true) else (some false))) else (some false))) else (some false))) else (some false)) else (some false)
theorem laws_eqCopies.mono : ∀ a0 a1 a2 a3 a4 a5 a6 a7 a8 a9 k, LeO (laws_eqCopies.f k a0 a1 a2 a3 a4 a5 a6 a7 a8 a9) (laws_eqCopies.f (k + 1) a0 a1 a2 a3 a4 a5 a6 a7 a8 a9) := by
  intro a0 a1 a2 a3 a4 a5 a6 a7 a8 a9 k
  unfold laws_eqCopies.f
  repeat' first
      | (with_reducible exact laws_eqCellS.mono _ _ _)
      | (with_reducible exact laws_eqCopiedS.mono _ _ _)
      | (with_reducible exact laws_eqInt64S.mono _ _ _)
      | (with_reducible exact LeO.refl _)
      | (with_reducible exact LeO.none _)
      | (with_reducible refine LeO.ite ?_ ?_)
      | (with_reducible refine LeO.bind ?_ (fun _ => ?_))
      | exact laws_eqCellS.mono _ _ _
      | exact laws_eqCopiedS.mono _ _ _
      | exact laws_eqInt64S.mono _ _ _
      | exact LeO.none _
      | refine LeO.ite ?_ ?_
      | refine LeO.bind ?_ (fun _ => ?_)
set_option maxHeartbeats 8000000 in
set_option maxRecDepth 100000 in
theorem laws_eqCopies.calls (k : Nat) (a0_0 : Int) (a0_1 : Int) (A0_2 : Option Addr) (c0_2 : Nat) (l0_2 : List (S118)) (A0_3 : Option Addr) (c0_3 : Nat) (l0_3 : List Int) (A0_4 : Option Addr) (c0_4 : Nat) (l0_4 : List (S135)) (a1_0 : Int) (a1_1 : Int) (A1_2 : Option Addr) (c1_2 : Nat) (l1_2 : List (S118)) (A1_3 : Option Addr) (c1_3 : Nat) (l1_3 : List Int) (A1_4 : Option Addr) (c1_4 : Nat) (l1_4 : List (S135)) (r : Bool) (w : World) (hr0_2 : Kd.C k118 w A0_2 l0_2.length l0_2) (hc0_2 : l0_2.length ≤ c0_2) (hr0_3 : Kd.C (Kd.int .i64) w A0_3 l0_3.length l0_3) (hc0_3 : l0_3.length ≤ c0_3) (hr0_4 : Kd.C k135 w A0_4 l0_4.length l0_4) (hc0_4 : l0_4.length ≤ c0_4) (hr1_2 : Kd.C k118 w A1_2 l1_2.length l1_2) (hc1_2 : l1_2.length ≤ c1_2) (hr1_3 : Kd.C (Kd.int .i64) w A1_3 l1_3.length l1_3) (hc1_3 : l1_3.length ≤ c1_3) (hr1_4 : Kd.C k135 w A1_4 l1_4.length l1_4) (hc1_4 : l1_4.length ≤ c1_4) (h : laws_eqCopies.f k a0_0 a0_1 l0_2 l0_3 l0_4 a1_0 a1_1 l1_2 l1_3 l1_4 = some r) :
    Calls Try.prog 22 #[.agg #[.int .i64 a0_0, .int .i64 a0_1, .slice A0_2 l0_2.length c0_2, .slice A0_3 l0_3.length c0_3, .slice A0_4 l0_4.length c0_4], .agg #[.int .i64 a1_0, .int .i64 a1_1, .slice A1_2 l1_2.length c1_2, .slice A1_3 l1_3.length c1_3, .slice A1_4 l1_4.length c1_4]] w fun e w' => e = .returned (.bool r) ∧ Below w.heap.size w w' := by
  have hu28 := Try.underlying28
  have HR0_2 := Aside0.mk hr0_2
  have HC0_2 := Aside0.mk hc0_2
  clear hr0_2 hc0_2
  have HR0_3 := Aside0.mk hr0_3
  have HC0_3 := Aside0.mk hc0_3
  clear hr0_3 hc0_3
  have HR0_4 := Aside0.mk hr0_4
  have HC0_4 := Aside0.mk hc0_4
  clear hr0_4 hc0_4
  have HR1_2 := Aside0.mk hr1_2
  have HC1_2 := Aside0.mk hc1_2
  clear hr1_2 hc1_2
  have HR1_3 := Aside0.mk hr1_3
  have HC1_3 := Aside0.mk hc1_3
  clear hr1_3 hc1_3
  have HR1_4 := Aside0.mk hr1_4
  have HC1_4 := Aside0.mk hc1_4
  clear hr1_4 hc1_4
  have HB := Aside0.mk (Below.refl w.heap.size w)
  have H : (if a0_0 = a1_0 then (if a0_1 = a1_1 then ((laws_eqCellS.f k l0_2 l1_2).bind fun t242 => (if t242 = true then ((laws_eqInt64S.f k l0_3 l1_3).bind fun t243 => (if t243 = true then ((laws_eqCopiedS.f k l0_4 l1_4).bind fun t244 => (if t244 = true then (some true) else (some false))) else (some false))) else (some false))) else (some false)) else (some false)) = some r := h
  clear h
  by_cases c3 : a0_0 = a1_0
  · rw [if_pos c3] at H
    have c3b0 : (a0_0 == a1_0) = true := beq_iff_eq.mpr c3
    have c3b1 : (a0_0 != a1_0) = false := bne_eq_false_iff_eq.mpr c3
    clear c3
    by_cases c4 : a0_1 = a1_1
    · rw [if_pos c4] at H
      have c4b0 : (a0_1 == a1_1) = true := beq_iff_eq.mpr c4
      have c4b1 : (a0_1 != a1_1) = false := bne_eq_false_iff_eq.mpr c4
      clear c4
      replace H := Option.bind_eq_some_iff.mp H
      obtain ⟨t242, A50, H⟩ := H
      replace H : (if t242 = true then ((laws_eqInt64S.f k l0_3 l1_3).bind fun t243 => (if t243 = true then ((laws_eqCopiedS.f k l0_4 l1_4).bind fun t244 => (if t244 = true then (some true) else (some false))) else (some false))) else (some false)) = some r := H
      have A5 := Aside0.mk A50
      clear A50
      by_cases c6 : t242 = true
      · subst c6
        have H1 : ((laws_eqInt64S.f k l0_3 l1_3).bind fun t243 => (if t243 = true then ((laws_eqCopiedS.f k l0_4 l1_4).bind fun t244 => (if t244 = true then (some true) else (some false))) else (some false))) = some r := by rw [if_pos rfl] at H; exact H
        clear H
        have H := H1
        clear H1
        replace H := Option.bind_eq_some_iff.mp H
        obtain ⟨t243, A70, H⟩ := H
        replace H : (if t243 = true then ((laws_eqCopiedS.f k l0_4 l1_4).bind fun t244 => (if t244 = true then (some true) else (some false))) else (some false)) = some r := H
        have A7 := Aside0.mk A70
        clear A70
        by_cases c8 : t243 = true
        · subst c8
          have H1 : ((laws_eqCopiedS.f k l0_4 l1_4).bind fun t244 => (if t244 = true then (some true) else (some false))) = some r := by rw [if_pos rfl] at H; exact H
          clear H
          have H := H1
          clear H1
          replace H := Option.bind_eq_some_iff.mp H
          obtain ⟨t244, A90, H⟩ := H
          replace H : (if t244 = true then (some true) else (some false)) = some r := H
          have A9 := Aside0.mk A90
          clear A90
          by_cases c10 : t244 = true
          · subst c10
            have H1 : (some true) = some r := by rw [if_pos rfl] at H; exact H
            clear H
            have H := H1
            clear H1
            obtain rfl := Option.some.inj H
            go_enter Try.func22, Try.ntmps22
            go_wp2_with (first | ((with_reducible refine gate_dst (N := 2) rfl ?_); refine box_event ?hg (N := 2) ?hd (cs := #[.int .i64 a0_0, .int .i64 a0_1, .slice A0_2 l0_2.length c0_2, .slice A0_3 l0_3.length c0_3, .slice A0_4 l0_4.length c0_4]) (t := 28) ?hr ?_; (case hd => rfl); (case hg => rfl); (case hr => first | (go_simp; done) | (go_simp; rfl)); intro J5 hg w11 hbox hb; have n0_ := Aside0.mk (below_step bo hb); have n1_ := Aside0.mk (hbox); have n2_ := Aside0.mk ((by rw [hg]; exact (below_size bo) : w.heap.size ≤ J5)); have n3_ := Aside0.mk ((by rw [hg]; exact (below_size bo) : w.heap.size ≤ J5)); clear HB; have HB := n0_; have J1 := n1_; have Jt := n2_; have J8 := n3_; clear n0_ n1_ n2_ n3_; clear hb hbox hg) | ((with_reducible refine gate_dst (N := 3) rfl ?_); refine box_event ?hg (N := 3) ?hd (cs := #[.int .i64 a1_0, .int .i64 a1_1, .slice A1_2 l1_2.length c1_2, .slice A1_3 l1_3.length c1_3, .slice A1_4 l1_4.length c1_4]) (t := 28) ?hr ?_; (case hd => rfl); (case hg => rfl); (case hr => first | (go_simp; done) | (go_simp; rfl)); intro J7 hg w12 hbox hb; have n0_ := Aside0.mk (blk_below (g := J5) (o := .cells #[.int .i64 a0_0, .int .i64 a0_1, .slice A0_2 l0_2.length c0_2, .slice A0_3 l0_3.length c0_3, .slice A0_4 l0_4.length c0_4] 28 (0, 0)) (by (with_reducible repeat (first | refine blk_drewN ?_ _ | refine blk_drew ?_ | refine blk_alloc ?_ _)); exact J1.out) hb); have n1_ := Aside0.mk (below_step (by repeat (first | (with_reducible first | exact HB.out | apply below_alloc | apply pw_below_drewN | apply below_drew1 | refine below_set ?_ J8.out) | exact HB.out)) hb); have n2_ := Aside0.mk (hbox); have n3_ := Aside0.mk ((by rw [hg]; exact (below_size (by repeat (first | (with_reducible first | exact HB.out | apply below_alloc | apply pw_below_drewN | apply below_drew1 | refine below_set ?_ J8.out) | exact HB.out))) : w.heap.size ≤ J7)); have n4_ := Aside0.mk ((by rw [hg]; exact (below_size (by repeat (first | (with_reducible first | exact HB.out | apply below_alloc | apply pw_below_drewN | apply below_drew1 | refine below_set ?_ J8.out) | exact HB.out))) : w.heap.size ≤ J7)); have n5_ := Aside0.mk ((by rw [hg]; exact Nat.ne_of_lt (blk_lt (g := J5) (o := .cells #[.int .i64 a0_0, .int .i64 a0_1, .slice A0_2 l0_2.length c0_2, .slice A0_3 l0_3.length c0_3, .slice A0_4 l0_4.length c0_4] 28 (0, 0)) (by (with_reducible repeat (first | refine blk_drewN ?_ _ | refine blk_drew ?_ | refine blk_alloc ?_ _)); exact J1.out)) : J5 ≠ J7)); have n6_ := Aside0.mk ((by rw [hg]; exact Nat.ne_of_gt (blk_lt (g := J5) (o := .cells #[.int .i64 a0_0, .int .i64 a0_1, .slice A0_2 l0_2.length c0_2, .slice A0_3 l0_3.length c0_3, .slice A0_4 l0_4.length c0_4] 28 (0, 0)) (by (with_reducible repeat (first | refine blk_drewN ?_ _ | refine blk_drew ?_ | refine blk_alloc ?_ _)); exact J1.out)) : J7 ≠ J5)); clear J1; clear HB; have J1 := n0_; have HB := n1_; have J3 := n2_; have Ju := n3_; have Ja := n4_; have Jb := n5_; have Jc := n6_; clear n0_ n1_ n2_ n3_ n4_ n5_ n6_; clear hb hbox hg; have hnb13 := Jb.out; have hnc13 := Jc.out; have Kf : w12.cell? ⟨J5, 0, none⟩ = some (.int .i64 a0_0) := (blk_cell J1.out 0).trans rfl; have Kg : w12.cell? ⟨J5, 1, none⟩ = some (.int .i64 a0_1) := (blk_cell J1.out 1).trans rfl; have Kh : w12.cell? ⟨J5, 2, none⟩ = some (.slice A0_2 l0_2.length c0_2) := (blk_cell J1.out 2).trans rfl; have Ki : w12.cell? ⟨J5, 3, none⟩ = some (.slice A0_3 l0_3.length c0_3) := (blk_cell J1.out 3).trans rfl; have Kj : w12.cell? ⟨J5, 4, none⟩ = some (.slice A0_4 l0_4.length c0_4) := (blk_cell J1.out 4).trans rfl; have Kk := blk_frozen J1.out 0; have Kl := blk_frozen J1.out 1; have Km := blk_frozen J1.out 2; have Kn := blk_frozen J1.out 3; have Ko := blk_frozen J1.out 4; have Jx : w12.cell? ⟨J7, 0, none⟩ = some (.int .i64 a1_0) := (blk_cell J3.out 0).trans rfl; have Jy : w12.cell? ⟨J7, 1, none⟩ = some (.int .i64 a1_1) := (blk_cell J3.out 1).trans rfl; have Jz : w12.cell? ⟨J7, 2, none⟩ = some (.slice A1_2 l1_2.length c1_2) := (blk_cell J3.out 2).trans rfl; have JA : w12.cell? ⟨J7, 3, none⟩ = some (.slice A1_3 l1_3.length c1_3) := (blk_cell J3.out 3).trans rfl; have JB : w12.cell? ⟨J7, 4, none⟩ = some (.slice A1_4 l1_4.length c1_4) := (blk_cell J3.out 4).trans rfl; have JC := blk_frozen J3.out 0; have JD := blk_frozen J3.out 1; have JE := blk_frozen J3.out 2; have JF := blk_frozen J3.out 3; have JG := blk_frozen J3.out 4) | ((with_reducible refine gate_callee (f := 14) rfl ?_); refine goesL_ (some 19) rfl rfl Try.func14 (by kernel_rfl) rfl #[.slice A0_2 l0_2.length c0_2, .slice A1_2 l1_2.length c1_2] rfl (by (try simp only [List.map_toArray, List.map_cons, List.map_nil]); first | done | rfl | (simp only [List.length_drop, List.length_take]; rfl)) ?_; (with_reducible refine (laws_eqCellS.calls k _ _ l0_2 _ _ l1_2 true _ ?side1 ?side2 ?side3 ?side4 A5.out).mono ?_); (case side1 => repeat (first | exact (Kd.C_below HR0_2.out HB.out) | (with_reducible refine Kd.C_alloc ?_ _) | (with_reducible refine Kd.C_drewN ?_ _) | (with_reducible refine Kd.C_drew ?_))); (case side2 => exact HC0_2.out); (case side3 => repeat (first | exact (Kd.C_below HR1_2.out HB.out) | (with_reducible refine Kd.C_alloc ?_ _) | (with_reducible refine Kd.C_drewN ?_ _) | (with_reducible refine Kd.C_drew ?_))); (case side4 => exact HC1_2.out); rintro e w16 ⟨rfl, hb⟩; refine ⟨_, rfl, ?_⟩; have n0_ := Aside0.mk (blk_below (g := J5) (o := .cells #[.int .i64 a0_0, .int .i64 a0_1, .slice A0_2 l0_2.length c0_2, .slice A0_3 l0_3.length c0_3, .slice A0_4 l0_4.length c0_4] 28 (0, 0)) (by (with_reducible repeat (first | refine blk_drewN ?_ _ | refine blk_drew ?_ | refine blk_alloc ?_ _)); exact J1.out) hb); have n1_ := Aside0.mk (blk_below (g := J7) (o := .cells #[.int .i64 a1_0, .int .i64 a1_1, .slice A1_2 l1_2.length c1_2, .slice A1_3 l1_3.length c1_3, .slice A1_4 l1_4.length c1_4] 28 (0, 0)) (by (with_reducible repeat (first | refine blk_drewN ?_ _ | refine blk_drew ?_ | refine blk_alloc ?_ _)); exact J3.out) hb); have n2_ := Aside0.mk (below_step (by repeat (first | (with_reducible first | exact HB.out | apply below_alloc | apply pw_below_drewN | apply below_drew1 | refine below_set ?_ J8.out | refine below_set ?_ Ja.out) | exact HB.out)) hb); clear J1; clear J3; clear HB; have J1 := n0_; have J3 := n1_; have HB := n2_; clear n0_ n1_ n2_; (try clear hb); (try clear hb2); (try clear hk); (try clear hi); have Kp : w16.cell? ⟨J5, 0, none⟩ = some (.int .i64 a0_0) := (blk_cell J1.out 0).trans rfl; have Kq : w16.cell? ⟨J5, 1, none⟩ = some (.int .i64 a0_1) := (blk_cell J1.out 1).trans rfl; have Kr : w16.cell? ⟨J5, 2, none⟩ = some (.slice A0_2 l0_2.length c0_2) := (blk_cell J1.out 2).trans rfl; have Ks : w16.cell? ⟨J5, 3, none⟩ = some (.slice A0_3 l0_3.length c0_3) := (blk_cell J1.out 3).trans rfl; have Kt : w16.cell? ⟨J5, 4, none⟩ = some (.slice A0_4 l0_4.length c0_4) := (blk_cell J1.out 4).trans rfl; have Ku := blk_frozen J1.out 0; have Kv := blk_frozen J1.out 1; have Kw := blk_frozen J1.out 2; have Kx := blk_frozen J1.out 3; have Ky := blk_frozen J1.out 4; have Kz : w16.cell? ⟨J7, 0, none⟩ = some (.int .i64 a1_0) := (blk_cell J3.out 0).trans rfl; have KA : w16.cell? ⟨J7, 1, none⟩ = some (.int .i64 a1_1) := (blk_cell J3.out 1).trans rfl; have KB : w16.cell? ⟨J7, 2, none⟩ = some (.slice A1_2 l1_2.length c1_2) := (blk_cell J3.out 2).trans rfl; have KC : w16.cell? ⟨J7, 3, none⟩ = some (.slice A1_3 l1_3.length c1_3) := (blk_cell J3.out 3).trans rfl; have KD : w16.cell? ⟨J7, 4, none⟩ = some (.slice A1_4 l1_4.length c1_4) := (blk_cell J3.out 4).trans rfl; have KE := blk_frozen J3.out 0; have KF := blk_frozen J3.out 1; have KG := blk_frozen J3.out 2; have KH := blk_frozen J3.out 3; have KI := blk_frozen J3.out 4) | ((with_reducible refine gate_callee (f := 77) rfl ?_); refine goesL_ (some 25) rfl rfl Try.func77 (by kernel_rfl) rfl #[.slice A0_3 l0_3.length c0_3, .slice A1_3 l1_3.length c1_3] rfl (by (try simp only [List.map_toArray, List.map_cons, List.map_nil]); first | done | rfl | (simp only [List.length_drop, List.length_take]; rfl)) ?_; (with_reducible refine (laws_eqInt64S.calls k _ _ l0_3 _ _ l1_3 true _ ?side1 ?side2 ?side3 ?side4 A7.out).mono ?_); (case side1 => repeat (first | exact (Kd.C_below HR0_3.out HB.out) | (with_reducible refine Kd.C_alloc ?_ _) | (with_reducible refine Kd.C_drewN ?_ _) | (with_reducible refine Kd.C_drew ?_))); (case side2 => exact HC0_3.out); (case side3 => repeat (first | exact (Kd.C_below HR1_3.out HB.out) | (with_reducible refine Kd.C_alloc ?_ _) | (with_reducible refine Kd.C_drewN ?_ _) | (with_reducible refine Kd.C_drew ?_))); (case side4 => exact HC1_3.out); rintro e w' ⟨rfl, ⟨nd, rfl⟩⟩; refine ⟨_, rfl, ?_⟩) | ((with_reducible refine gate_callee (f := 78) rfl ?_); refine goesL_ (some 31) rfl rfl Try.func78 (by kernel_rfl) rfl #[.slice A0_4 l0_4.length c0_4, .slice A1_4 l1_4.length c1_4] rfl (by (try simp only [List.map_toArray, List.map_cons, List.map_nil]); first | done | rfl | (simp only [List.length_drop, List.length_take]; rfl)) ?_; (with_reducible refine (laws_eqCopiedS.calls k _ _ l0_4 _ _ l1_4 true _ ?side1 ?side2 ?side3 ?side4 A9.out).mono ?_); (case side1 => repeat (first | exact (Kd.C_below HR0_4.out (by repeat (first | (with_reducible first | exact HB.out | apply below_alloc | apply pw_below_drewN | apply below_drew1 | refine below_set ?_ J8.out | refine below_set ?_ Ja.out) | exact HB.out))) | (with_reducible refine Kd.C_alloc ?_ _) | (with_reducible refine Kd.C_drewN ?_ _) | (with_reducible refine Kd.C_drew ?_))); (case side2 => exact HC0_4.out); (case side3 => repeat (first | exact (Kd.C_below HR1_4.out (by repeat (first | (with_reducible first | exact HB.out | apply below_alloc | apply pw_below_drewN | apply below_drew1 | refine below_set ?_ J8.out | refine below_set ?_ Ja.out) | exact HB.out))) | (with_reducible refine Kd.C_alloc ?_ _) | (with_reducible refine Kd.C_drewN ?_ _) | (with_reducible refine Kd.C_drew ?_))); (case side4 => exact HC1_4.out); rintro e w19 ⟨rfl, hb⟩; refine ⟨_, rfl, ?_⟩; have n0_ := Aside0.mk (blk_below (g := J5) (o := .cells #[.int .i64 a0_0, .int .i64 a0_1, .slice A0_2 l0_2.length c0_2, .slice A0_3 l0_3.length c0_3, .slice A0_4 l0_4.length c0_4] 28 (0, 0)) (by (with_reducible repeat (first | refine blk_drewN ?_ _ | refine blk_drew ?_ | refine blk_alloc ?_ _)); exact J1.out) hb); have n1_ := Aside0.mk (blk_below (g := J7) (o := .cells #[.int .i64 a1_0, .int .i64 a1_1, .slice A1_2 l1_2.length c1_2, .slice A1_3 l1_3.length c1_3, .slice A1_4 l1_4.length c1_4] 28 (0, 0)) (by (with_reducible repeat (first | refine blk_drewN ?_ _ | refine blk_drew ?_ | refine blk_alloc ?_ _)); exact J3.out) hb); have n2_ := Aside0.mk (below_step (by repeat (first | (with_reducible first | exact HB.out | apply below_alloc | apply pw_below_drewN | apply below_drew1 | refine below_set ?_ J8.out | refine below_set ?_ Ja.out) | exact HB.out)) hb); clear J1; clear J3; clear HB; have J1 := n0_; have J3 := n1_; have HB := n2_; clear n0_ n1_ n2_; (try clear hb); (try clear hb2); (try clear hk); (try clear hi)))
            go_ret
            exact ⟨by first | rfl | (simp [errW_none, errW_some] <;> rfl) | (simp [*, errW_none, errW_some] <;> rfl), by repeat (first | (with_reducible first | exact HB.out | apply below_alloc | apply pw_below_drewN | apply below_drew1 | refine below_set ?_ J8.out | refine below_set ?_ Ja.out) | exact HB.out)⟩
          · replace c10 := Bool.eq_false_iff.mpr c10
            subst c10
            have H1 : (some false) = some r := by rw [if_neg (show ¬ (false = true) by decide)] at H; exact H
            clear H
            have H := H1
            clear H1
            obtain rfl := Option.some.inj H
            go_enter Try.func22, Try.ntmps22
            go_wp2_with (first | ((with_reducible refine gate_dst (N := 2) rfl ?_); refine box_event ?hg (N := 2) ?hd (cs := #[.int .i64 a0_0, .int .i64 a0_1, .slice A0_2 l0_2.length c0_2, .slice A0_3 l0_3.length c0_3, .slice A0_4 l0_4.length c0_4]) (t := 28) ?hr ?_; (case hd => rfl); (case hg => rfl); (case hr => first | (go_simp; done) | (go_simp; rfl)); intro J5 hg w20 hbox hb; have n0_ := Aside0.mk (below_step bo hb); have n1_ := Aside0.mk (hbox); have n2_ := Aside0.mk ((by rw [hg]; exact (below_size bo) : w.heap.size ≤ J5)); have n3_ := Aside0.mk ((by rw [hg]; exact (below_size bo) : w.heap.size ≤ J5)); clear HB; have HB := n0_; have J1 := n1_; have Jt := n2_; have J8 := n3_; clear n0_ n1_ n2_ n3_; clear hb hbox hg) | ((with_reducible refine gate_dst (N := 3) rfl ?_); refine box_event ?hg (N := 3) ?hd (cs := #[.int .i64 a1_0, .int .i64 a1_1, .slice A1_2 l1_2.length c1_2, .slice A1_3 l1_3.length c1_3, .slice A1_4 l1_4.length c1_4]) (t := 28) ?hr ?_; (case hd => rfl); (case hg => rfl); (case hr => first | (go_simp; done) | (go_simp; rfl)); intro J7 hg w21 hbox hb; have n0_ := Aside0.mk (blk_below (g := J5) (o := .cells #[.int .i64 a0_0, .int .i64 a0_1, .slice A0_2 l0_2.length c0_2, .slice A0_3 l0_3.length c0_3, .slice A0_4 l0_4.length c0_4] 28 (0, 0)) (by (with_reducible repeat (first | refine blk_drewN ?_ _ | refine blk_drew ?_ | refine blk_alloc ?_ _)); exact J1.out) hb); have n1_ := Aside0.mk (below_step (by repeat (first | (with_reducible first | exact HB.out | apply below_alloc | apply pw_below_drewN | apply below_drew1 | refine below_set ?_ J8.out) | exact HB.out)) hb); have n2_ := Aside0.mk (hbox); have n3_ := Aside0.mk ((by rw [hg]; exact (below_size (by repeat (first | (with_reducible first | exact HB.out | apply below_alloc | apply pw_below_drewN | apply below_drew1 | refine below_set ?_ J8.out) | exact HB.out))) : w.heap.size ≤ J7)); have n4_ := Aside0.mk ((by rw [hg]; exact (below_size (by repeat (first | (with_reducible first | exact HB.out | apply below_alloc | apply pw_below_drewN | apply below_drew1 | refine below_set ?_ J8.out) | exact HB.out))) : w.heap.size ≤ J7)); have n5_ := Aside0.mk ((by rw [hg]; exact Nat.ne_of_lt (blk_lt (g := J5) (o := .cells #[.int .i64 a0_0, .int .i64 a0_1, .slice A0_2 l0_2.length c0_2, .slice A0_3 l0_3.length c0_3, .slice A0_4 l0_4.length c0_4] 28 (0, 0)) (by (with_reducible repeat (first | refine blk_drewN ?_ _ | refine blk_drew ?_ | refine blk_alloc ?_ _)); exact J1.out)) : J5 ≠ J7)); have n6_ := Aside0.mk ((by rw [hg]; exact Nat.ne_of_gt (blk_lt (g := J5) (o := .cells #[.int .i64 a0_0, .int .i64 a0_1, .slice A0_2 l0_2.length c0_2, .slice A0_3 l0_3.length c0_3, .slice A0_4 l0_4.length c0_4] 28 (0, 0)) (by (with_reducible repeat (first | refine blk_drewN ?_ _ | refine blk_drew ?_ | refine blk_alloc ?_ _)); exact J1.out)) : J7 ≠ J5)); clear J1; clear HB; have J1 := n0_; have HB := n1_; have J3 := n2_; have Ju := n3_; have Ja := n4_; have Jb := n5_; have Jc := n6_; clear n0_ n1_ n2_ n3_ n4_ n5_ n6_; clear hb hbox hg; have hnb22 := Jb.out; have hnc22 := Jc.out; have KJ : w21.cell? ⟨J5, 0, none⟩ = some (.int .i64 a0_0) := (blk_cell J1.out 0).trans rfl; have KK : w21.cell? ⟨J5, 1, none⟩ = some (.int .i64 a0_1) := (blk_cell J1.out 1).trans rfl; have KL : w21.cell? ⟨J5, 2, none⟩ = some (.slice A0_2 l0_2.length c0_2) := (blk_cell J1.out 2).trans rfl; have KM : w21.cell? ⟨J5, 3, none⟩ = some (.slice A0_3 l0_3.length c0_3) := (blk_cell J1.out 3).trans rfl; have KN : w21.cell? ⟨J5, 4, none⟩ = some (.slice A0_4 l0_4.length c0_4) := (blk_cell J1.out 4).trans rfl; have KO := blk_frozen J1.out 0; have KP := blk_frozen J1.out 1; have KQ := blk_frozen J1.out 2; have KR := blk_frozen J1.out 3; have KS := blk_frozen J1.out 4; have JH : w21.cell? ⟨J7, 0, none⟩ = some (.int .i64 a1_0) := (blk_cell J3.out 0).trans rfl; have JI : w21.cell? ⟨J7, 1, none⟩ = some (.int .i64 a1_1) := (blk_cell J3.out 1).trans rfl; have JJ : w21.cell? ⟨J7, 2, none⟩ = some (.slice A1_2 l1_2.length c1_2) := (blk_cell J3.out 2).trans rfl; have JK : w21.cell? ⟨J7, 3, none⟩ = some (.slice A1_3 l1_3.length c1_3) := (blk_cell J3.out 3).trans rfl; have JL : w21.cell? ⟨J7, 4, none⟩ = some (.slice A1_4 l1_4.length c1_4) := (blk_cell J3.out 4).trans rfl; have JM := blk_frozen J3.out 0; have JN := blk_frozen J3.out 1; have JO := blk_frozen J3.out 2; have JP := blk_frozen J3.out 3; have JQ := blk_frozen J3.out 4) | ((with_reducible refine gate_callee (f := 14) rfl ?_); refine goesL_ (some 19) rfl rfl Try.func14 (by kernel_rfl) rfl #[.slice A0_2 l0_2.length c0_2, .slice A1_2 l1_2.length c1_2] rfl (by (try simp only [List.map_toArray, List.map_cons, List.map_nil]); first | done | rfl | (simp only [List.length_drop, List.length_take]; rfl)) ?_; (with_reducible refine (laws_eqCellS.calls k _ _ l0_2 _ _ l1_2 true _ ?side1 ?side2 ?side3 ?side4 A5.out).mono ?_); (case side1 => repeat (first | exact (Kd.C_below HR0_2.out HB.out) | (with_reducible refine Kd.C_alloc ?_ _) | (with_reducible refine Kd.C_drewN ?_ _) | (with_reducible refine Kd.C_drew ?_))); (case side2 => exact HC0_2.out); (case side3 => repeat (first | exact (Kd.C_below HR1_2.out HB.out) | (with_reducible refine Kd.C_alloc ?_ _) | (with_reducible refine Kd.C_drewN ?_ _) | (with_reducible refine Kd.C_drew ?_))); (case side4 => exact HC1_2.out); rintro e w25 ⟨rfl, hb⟩; refine ⟨_, rfl, ?_⟩; have n0_ := Aside0.mk (blk_below (g := J5) (o := .cells #[.int .i64 a0_0, .int .i64 a0_1, .slice A0_2 l0_2.length c0_2, .slice A0_3 l0_3.length c0_3, .slice A0_4 l0_4.length c0_4] 28 (0, 0)) (by (with_reducible repeat (first | refine blk_drewN ?_ _ | refine blk_drew ?_ | refine blk_alloc ?_ _)); exact J1.out) hb); have n1_ := Aside0.mk (blk_below (g := J7) (o := .cells #[.int .i64 a1_0, .int .i64 a1_1, .slice A1_2 l1_2.length c1_2, .slice A1_3 l1_3.length c1_3, .slice A1_4 l1_4.length c1_4] 28 (0, 0)) (by (with_reducible repeat (first | refine blk_drewN ?_ _ | refine blk_drew ?_ | refine blk_alloc ?_ _)); exact J3.out) hb); have n2_ := Aside0.mk (below_step (by repeat (first | (with_reducible first | exact HB.out | apply below_alloc | apply pw_below_drewN | apply below_drew1 | refine below_set ?_ J8.out | refine below_set ?_ Ja.out) | exact HB.out)) hb); clear J1; clear J3; clear HB; have J1 := n0_; have J3 := n1_; have HB := n2_; clear n0_ n1_ n2_; (try clear hb); (try clear hb2); (try clear hk); (try clear hi); have KT : w25.cell? ⟨J5, 0, none⟩ = some (.int .i64 a0_0) := (blk_cell J1.out 0).trans rfl; have KU : w25.cell? ⟨J5, 1, none⟩ = some (.int .i64 a0_1) := (blk_cell J1.out 1).trans rfl; have KV : w25.cell? ⟨J5, 2, none⟩ = some (.slice A0_2 l0_2.length c0_2) := (blk_cell J1.out 2).trans rfl; have KW : w25.cell? ⟨J5, 3, none⟩ = some (.slice A0_3 l0_3.length c0_3) := (blk_cell J1.out 3).trans rfl; have KX : w25.cell? ⟨J5, 4, none⟩ = some (.slice A0_4 l0_4.length c0_4) := (blk_cell J1.out 4).trans rfl; have KY := blk_frozen J1.out 0; have KZ := blk_frozen J1.out 1; have L0 := blk_frozen J1.out 2; have L1 := blk_frozen J1.out 3; have L2 := blk_frozen J1.out 4; have L3 : w25.cell? ⟨J7, 0, none⟩ = some (.int .i64 a1_0) := (blk_cell J3.out 0).trans rfl; have L4 : w25.cell? ⟨J7, 1, none⟩ = some (.int .i64 a1_1) := (blk_cell J3.out 1).trans rfl; have L5 : w25.cell? ⟨J7, 2, none⟩ = some (.slice A1_2 l1_2.length c1_2) := (blk_cell J3.out 2).trans rfl; have L6 : w25.cell? ⟨J7, 3, none⟩ = some (.slice A1_3 l1_3.length c1_3) := (blk_cell J3.out 3).trans rfl; have L7 : w25.cell? ⟨J7, 4, none⟩ = some (.slice A1_4 l1_4.length c1_4) := (blk_cell J3.out 4).trans rfl; have L8 := blk_frozen J3.out 0; have L9 := blk_frozen J3.out 1; have La := blk_frozen J3.out 2; have Lb := blk_frozen J3.out 3; have Lc := blk_frozen J3.out 4) | ((with_reducible refine gate_callee (f := 77) rfl ?_); refine goesL_ (some 25) rfl rfl Try.func77 (by kernel_rfl) rfl #[.slice A0_3 l0_3.length c0_3, .slice A1_3 l1_3.length c1_3] rfl (by (try simp only [List.map_toArray, List.map_cons, List.map_nil]); first | done | rfl | (simp only [List.length_drop, List.length_take]; rfl)) ?_; (with_reducible refine (laws_eqInt64S.calls k _ _ l0_3 _ _ l1_3 true _ ?side1 ?side2 ?side3 ?side4 A7.out).mono ?_); (case side1 => repeat (first | exact (Kd.C_below HR0_3.out HB.out) | (with_reducible refine Kd.C_alloc ?_ _) | (with_reducible refine Kd.C_drewN ?_ _) | (with_reducible refine Kd.C_drew ?_))); (case side2 => exact HC0_3.out); (case side3 => repeat (first | exact (Kd.C_below HR1_3.out HB.out) | (with_reducible refine Kd.C_alloc ?_ _) | (with_reducible refine Kd.C_drewN ?_ _) | (with_reducible refine Kd.C_drew ?_))); (case side4 => exact HC1_3.out); rintro e w' ⟨rfl, ⟨nd, rfl⟩⟩; refine ⟨_, rfl, ?_⟩) | ((with_reducible refine gate_callee (f := 78) rfl ?_); refine goesL_ (some 31) rfl rfl Try.func78 (by kernel_rfl) rfl #[.slice A0_4 l0_4.length c0_4, .slice A1_4 l1_4.length c1_4] rfl (by (try simp only [List.map_toArray, List.map_cons, List.map_nil]); first | done | rfl | (simp only [List.length_drop, List.length_take]; rfl)) ?_; (with_reducible refine (laws_eqCopiedS.calls k _ _ l0_4 _ _ l1_4 false _ ?side1 ?side2 ?side3 ?side4 A9.out).mono ?_); (case side1 => repeat (first | exact (Kd.C_below HR0_4.out (by repeat (first | (with_reducible first | exact HB.out | apply below_alloc | apply pw_below_drewN | apply below_drew1 | refine below_set ?_ J8.out | refine below_set ?_ Ja.out) | exact HB.out))) | (with_reducible refine Kd.C_alloc ?_ _) | (with_reducible refine Kd.C_drewN ?_ _) | (with_reducible refine Kd.C_drew ?_))); (case side2 => exact HC0_4.out); (case side3 => repeat (first | exact (Kd.C_below HR1_4.out (by repeat (first | (with_reducible first | exact HB.out | apply below_alloc | apply pw_below_drewN | apply below_drew1 | refine below_set ?_ J8.out | refine below_set ?_ Ja.out) | exact HB.out))) | (with_reducible refine Kd.C_alloc ?_ _) | (with_reducible refine Kd.C_drewN ?_ _) | (with_reducible refine Kd.C_drew ?_))); (case side4 => exact HC1_4.out); rintro e w28 ⟨rfl, hb⟩; refine ⟨_, rfl, ?_⟩; have n0_ := Aside0.mk (blk_below (g := J5) (o := .cells #[.int .i64 a0_0, .int .i64 a0_1, .slice A0_2 l0_2.length c0_2, .slice A0_3 l0_3.length c0_3, .slice A0_4 l0_4.length c0_4] 28 (0, 0)) (by (with_reducible repeat (first | refine blk_drewN ?_ _ | refine blk_drew ?_ | refine blk_alloc ?_ _)); exact J1.out) hb); have n1_ := Aside0.mk (blk_below (g := J7) (o := .cells #[.int .i64 a1_0, .int .i64 a1_1, .slice A1_2 l1_2.length c1_2, .slice A1_3 l1_3.length c1_3, .slice A1_4 l1_4.length c1_4] 28 (0, 0)) (by (with_reducible repeat (first | refine blk_drewN ?_ _ | refine blk_drew ?_ | refine blk_alloc ?_ _)); exact J3.out) hb); have n2_ := Aside0.mk (below_step (by repeat (first | (with_reducible first | exact HB.out | apply below_alloc | apply pw_below_drewN | apply below_drew1 | refine below_set ?_ J8.out | refine below_set ?_ Ja.out) | exact HB.out)) hb); clear J1; clear J3; clear HB; have J1 := n0_; have J3 := n1_; have HB := n2_; clear n0_ n1_ n2_; (try clear hb); (try clear hb2); (try clear hk); (try clear hi)))
            go_ret
            exact ⟨by first | rfl | (simp [errW_none, errW_some] <;> rfl) | (simp [*, errW_none, errW_some] <;> rfl), by repeat (first | (with_reducible first | exact HB.out | apply below_alloc | apply pw_below_drewN | apply below_drew1 | refine below_set ?_ J8.out | refine below_set ?_ Ja.out) | exact HB.out)⟩
        · replace c8 := Bool.eq_false_iff.mpr c8
          subst c8
          have H1 : (some false) = some r := by rw [if_neg (show ¬ (false = true) by decide)] at H; exact H
          clear H
          have H := H1
          clear H1
          obtain rfl := Option.some.inj H
          go_enter Try.func22, Try.ntmps22
          go_wp2_with (first | ((with_reducible refine gate_dst (N := 2) rfl ?_); refine box_event ?hg (N := 2) ?hd (cs := #[.int .i64 a0_0, .int .i64 a0_1, .slice A0_2 l0_2.length c0_2, .slice A0_3 l0_3.length c0_3, .slice A0_4 l0_4.length c0_4]) (t := 28) ?hr ?_; (case hd => rfl); (case hg => rfl); (case hr => first | (go_simp; done) | (go_simp; rfl)); intro J5 hg w29 hbox hb; have n0_ := Aside0.mk (below_step bo hb); have n1_ := Aside0.mk (hbox); have n2_ := Aside0.mk ((by rw [hg]; exact (below_size bo) : w.heap.size ≤ J5)); have n3_ := Aside0.mk ((by rw [hg]; exact (below_size bo) : w.heap.size ≤ J5)); clear HB; have HB := n0_; have J1 := n1_; have Jt := n2_; have J8 := n3_; clear n0_ n1_ n2_ n3_; clear hb hbox hg) | ((with_reducible refine gate_dst (N := 3) rfl ?_); refine box_event ?hg (N := 3) ?hd (cs := #[.int .i64 a1_0, .int .i64 a1_1, .slice A1_2 l1_2.length c1_2, .slice A1_3 l1_3.length c1_3, .slice A1_4 l1_4.length c1_4]) (t := 28) ?hr ?_; (case hd => rfl); (case hg => rfl); (case hr => first | (go_simp; done) | (go_simp; rfl)); intro J7 hg w30 hbox hb; have n0_ := Aside0.mk (blk_below (g := J5) (o := .cells #[.int .i64 a0_0, .int .i64 a0_1, .slice A0_2 l0_2.length c0_2, .slice A0_3 l0_3.length c0_3, .slice A0_4 l0_4.length c0_4] 28 (0, 0)) (by (with_reducible repeat (first | refine blk_drewN ?_ _ | refine blk_drew ?_ | refine blk_alloc ?_ _)); exact J1.out) hb); have n1_ := Aside0.mk (below_step (by repeat (first | (with_reducible first | exact HB.out | apply below_alloc | apply pw_below_drewN | apply below_drew1 | refine below_set ?_ J8.out) | exact HB.out)) hb); have n2_ := Aside0.mk (hbox); have n3_ := Aside0.mk ((by rw [hg]; exact (below_size (by repeat (first | (with_reducible first | exact HB.out | apply below_alloc | apply pw_below_drewN | apply below_drew1 | refine below_set ?_ J8.out) | exact HB.out))) : w.heap.size ≤ J7)); have n4_ := Aside0.mk ((by rw [hg]; exact (below_size (by repeat (first | (with_reducible first | exact HB.out | apply below_alloc | apply pw_below_drewN | apply below_drew1 | refine below_set ?_ J8.out) | exact HB.out))) : w.heap.size ≤ J7)); have n5_ := Aside0.mk ((by rw [hg]; exact Nat.ne_of_lt (blk_lt (g := J5) (o := .cells #[.int .i64 a0_0, .int .i64 a0_1, .slice A0_2 l0_2.length c0_2, .slice A0_3 l0_3.length c0_3, .slice A0_4 l0_4.length c0_4] 28 (0, 0)) (by (with_reducible repeat (first | refine blk_drewN ?_ _ | refine blk_drew ?_ | refine blk_alloc ?_ _)); exact J1.out)) : J5 ≠ J7)); have n6_ := Aside0.mk ((by rw [hg]; exact Nat.ne_of_gt (blk_lt (g := J5) (o := .cells #[.int .i64 a0_0, .int .i64 a0_1, .slice A0_2 l0_2.length c0_2, .slice A0_3 l0_3.length c0_3, .slice A0_4 l0_4.length c0_4] 28 (0, 0)) (by (with_reducible repeat (first | refine blk_drewN ?_ _ | refine blk_drew ?_ | refine blk_alloc ?_ _)); exact J1.out)) : J7 ≠ J5)); clear J1; clear HB; have J1 := n0_; have HB := n1_; have J3 := n2_; have Ju := n3_; have Ja := n4_; have Jb := n5_; have Jc := n6_; clear n0_ n1_ n2_ n3_ n4_ n5_ n6_; clear hb hbox hg; have hnb31 := Jb.out; have hnc31 := Jc.out; have Ld : w30.cell? ⟨J5, 0, none⟩ = some (.int .i64 a0_0) := (blk_cell J1.out 0).trans rfl; have Le : w30.cell? ⟨J5, 1, none⟩ = some (.int .i64 a0_1) := (blk_cell J1.out 1).trans rfl; have Lf : w30.cell? ⟨J5, 2, none⟩ = some (.slice A0_2 l0_2.length c0_2) := (blk_cell J1.out 2).trans rfl; have Lg : w30.cell? ⟨J5, 3, none⟩ = some (.slice A0_3 l0_3.length c0_3) := (blk_cell J1.out 3).trans rfl; have Lh : w30.cell? ⟨J5, 4, none⟩ = some (.slice A0_4 l0_4.length c0_4) := (blk_cell J1.out 4).trans rfl; have Li := blk_frozen J1.out 0; have Lj := blk_frozen J1.out 1; have Lk := blk_frozen J1.out 2; have Ll := blk_frozen J1.out 3; have Lm := blk_frozen J1.out 4; have Ln : w30.cell? ⟨J7, 0, none⟩ = some (.int .i64 a1_0) := (blk_cell J3.out 0).trans rfl; have Lo : w30.cell? ⟨J7, 1, none⟩ = some (.int .i64 a1_1) := (blk_cell J3.out 1).trans rfl; have Lp : w30.cell? ⟨J7, 2, none⟩ = some (.slice A1_2 l1_2.length c1_2) := (blk_cell J3.out 2).trans rfl; have Lq : w30.cell? ⟨J7, 3, none⟩ = some (.slice A1_3 l1_3.length c1_3) := (blk_cell J3.out 3).trans rfl; have Lr : w30.cell? ⟨J7, 4, none⟩ = some (.slice A1_4 l1_4.length c1_4) := (blk_cell J3.out 4).trans rfl; have Ls := blk_frozen J3.out 0; have Lt := blk_frozen J3.out 1; have Lu := blk_frozen J3.out 2; have Lv := blk_frozen J3.out 3; have Lw := blk_frozen J3.out 4) | ((with_reducible refine gate_callee (f := 14) rfl ?_); refine goesL_ (some 19) rfl rfl Try.func14 (by kernel_rfl) rfl #[.slice A0_2 l0_2.length c0_2, .slice A1_2 l1_2.length c1_2] rfl (by (try simp only [List.map_toArray, List.map_cons, List.map_nil]); first | done | rfl | (simp only [List.length_drop, List.length_take]; rfl)) ?_; (with_reducible refine (laws_eqCellS.calls k _ _ l0_2 _ _ l1_2 true _ ?side1 ?side2 ?side3 ?side4 A5.out).mono ?_); (case side1 => repeat (first | exact (Kd.C_below HR0_2.out HB.out) | (with_reducible refine Kd.C_alloc ?_ _) | (with_reducible refine Kd.C_drewN ?_ _) | (with_reducible refine Kd.C_drew ?_))); (case side2 => exact HC0_2.out); (case side3 => repeat (first | exact (Kd.C_below HR1_2.out HB.out) | (with_reducible refine Kd.C_alloc ?_ _) | (with_reducible refine Kd.C_drewN ?_ _) | (with_reducible refine Kd.C_drew ?_))); (case side4 => exact HC1_2.out); rintro e w34 ⟨rfl, hb⟩; refine ⟨_, rfl, ?_⟩; have n0_ := Aside0.mk (blk_below (g := J5) (o := .cells #[.int .i64 a0_0, .int .i64 a0_1, .slice A0_2 l0_2.length c0_2, .slice A0_3 l0_3.length c0_3, .slice A0_4 l0_4.length c0_4] 28 (0, 0)) (by (with_reducible repeat (first | refine blk_drewN ?_ _ | refine blk_drew ?_ | refine blk_alloc ?_ _)); exact J1.out) hb); have n1_ := Aside0.mk (blk_below (g := J7) (o := .cells #[.int .i64 a1_0, .int .i64 a1_1, .slice A1_2 l1_2.length c1_2, .slice A1_3 l1_3.length c1_3, .slice A1_4 l1_4.length c1_4] 28 (0, 0)) (by (with_reducible repeat (first | refine blk_drewN ?_ _ | refine blk_drew ?_ | refine blk_alloc ?_ _)); exact J3.out) hb); have n2_ := Aside0.mk (below_step (by repeat (first | (with_reducible first | exact HB.out | apply below_alloc | apply pw_below_drewN | apply below_drew1 | refine below_set ?_ J8.out | refine below_set ?_ Ja.out) | exact HB.out)) hb); clear J1; clear J3; clear HB; have J1 := n0_; have J3 := n1_; have HB := n2_; clear n0_ n1_ n2_; (try clear hb); (try clear hb2); (try clear hk); (try clear hi); have Lx : w34.cell? ⟨J5, 0, none⟩ = some (.int .i64 a0_0) := (blk_cell J1.out 0).trans rfl; have Ly : w34.cell? ⟨J5, 1, none⟩ = some (.int .i64 a0_1) := (blk_cell J1.out 1).trans rfl; have Lz : w34.cell? ⟨J5, 2, none⟩ = some (.slice A0_2 l0_2.length c0_2) := (blk_cell J1.out 2).trans rfl; have LA : w34.cell? ⟨J5, 3, none⟩ = some (.slice A0_3 l0_3.length c0_3) := (blk_cell J1.out 3).trans rfl; have LB : w34.cell? ⟨J5, 4, none⟩ = some (.slice A0_4 l0_4.length c0_4) := (blk_cell J1.out 4).trans rfl; have LC := blk_frozen J1.out 0; have LD := blk_frozen J1.out 1; have LE := blk_frozen J1.out 2; have LF := blk_frozen J1.out 3; have LG := blk_frozen J1.out 4; have JR : w34.cell? ⟨J7, 0, none⟩ = some (.int .i64 a1_0) := (blk_cell J3.out 0).trans rfl; have JS : w34.cell? ⟨J7, 1, none⟩ = some (.int .i64 a1_1) := (blk_cell J3.out 1).trans rfl; have JT : w34.cell? ⟨J7, 2, none⟩ = some (.slice A1_2 l1_2.length c1_2) := (blk_cell J3.out 2).trans rfl; have JU : w34.cell? ⟨J7, 3, none⟩ = some (.slice A1_3 l1_3.length c1_3) := (blk_cell J3.out 3).trans rfl; have JV : w34.cell? ⟨J7, 4, none⟩ = some (.slice A1_4 l1_4.length c1_4) := (blk_cell J3.out 4).trans rfl; have JW := blk_frozen J3.out 0; have JX := blk_frozen J3.out 1; have JY := blk_frozen J3.out 2; have JZ := blk_frozen J3.out 3; have K0 := blk_frozen J3.out 4) | ((with_reducible refine gate_callee (f := 77) rfl ?_); refine goesL_ (some 25) rfl rfl Try.func77 (by kernel_rfl) rfl #[.slice A0_3 l0_3.length c0_3, .slice A1_3 l1_3.length c1_3] rfl (by (try simp only [List.map_toArray, List.map_cons, List.map_nil]); first | done | rfl | (simp only [List.length_drop, List.length_take]; rfl)) ?_; (with_reducible refine (laws_eqInt64S.calls k _ _ l0_3 _ _ l1_3 false _ ?side1 ?side2 ?side3 ?side4 A7.out).mono ?_); (case side1 => repeat (first | exact (Kd.C_below HR0_3.out HB.out) | (with_reducible refine Kd.C_alloc ?_ _) | (with_reducible refine Kd.C_drewN ?_ _) | (with_reducible refine Kd.C_drew ?_))); (case side2 => exact HC0_3.out); (case side3 => repeat (first | exact (Kd.C_below HR1_3.out HB.out) | (with_reducible refine Kd.C_alloc ?_ _) | (with_reducible refine Kd.C_drewN ?_ _) | (with_reducible refine Kd.C_drew ?_))); (case side4 => exact HC1_3.out); rintro e w' ⟨rfl, ⟨nd, rfl⟩⟩; refine ⟨_, rfl, ?_⟩))
          go_ret
          exact ⟨by first | rfl | (simp [errW_none, errW_some] <;> rfl) | (simp [*, errW_none, errW_some] <;> rfl), by repeat (first | (with_reducible first | exact HB.out | apply below_alloc | apply pw_below_drewN | apply below_drew1 | refine below_set ?_ J8.out | refine below_set ?_ Ja.out) | exact HB.out)⟩
      · replace c6 := Bool.eq_false_iff.mpr c6
        subst c6
        have H1 : (some false) = some r := by rw [if_neg (show ¬ (false = true) by decide)] at H; exact H
        clear H
        have H := H1
        clear H1
        obtain rfl := Option.some.inj H
        go_enter Try.func22, Try.ntmps22
        go_wp2_with (first | ((with_reducible refine gate_dst (N := 2) rfl ?_); refine box_event ?hg (N := 2) ?hd (cs := #[.int .i64 a0_0, .int .i64 a0_1, .slice A0_2 l0_2.length c0_2, .slice A0_3 l0_3.length c0_3, .slice A0_4 l0_4.length c0_4]) (t := 28) ?hr ?_; (case hd => rfl); (case hg => rfl); (case hr => first | (go_simp; done) | (go_simp; rfl)); intro J5 hg w37 hbox hb; have n0_ := Aside0.mk (below_step bo hb); have n1_ := Aside0.mk (hbox); have n2_ := Aside0.mk ((by rw [hg]; exact (below_size bo) : w.heap.size ≤ J5)); have n3_ := Aside0.mk ((by rw [hg]; exact (below_size bo) : w.heap.size ≤ J5)); clear HB; have HB := n0_; have J1 := n1_; have Jt := n2_; have J8 := n3_; clear n0_ n1_ n2_ n3_; clear hb hbox hg) | ((with_reducible refine gate_dst (N := 3) rfl ?_); refine box_event ?hg (N := 3) ?hd (cs := #[.int .i64 a1_0, .int .i64 a1_1, .slice A1_2 l1_2.length c1_2, .slice A1_3 l1_3.length c1_3, .slice A1_4 l1_4.length c1_4]) (t := 28) ?hr ?_; (case hd => rfl); (case hg => rfl); (case hr => first | (go_simp; done) | (go_simp; rfl)); intro J7 hg w38 hbox hb; have n0_ := Aside0.mk (blk_below (g := J5) (o := .cells #[.int .i64 a0_0, .int .i64 a0_1, .slice A0_2 l0_2.length c0_2, .slice A0_3 l0_3.length c0_3, .slice A0_4 l0_4.length c0_4] 28 (0, 0)) (by (with_reducible repeat (first | refine blk_drewN ?_ _ | refine blk_drew ?_ | refine blk_alloc ?_ _)); exact J1.out) hb); have n1_ := Aside0.mk (below_step (by repeat (first | (with_reducible first | exact HB.out | apply below_alloc | apply pw_below_drewN | apply below_drew1 | refine below_set ?_ J8.out) | exact HB.out)) hb); have n2_ := Aside0.mk (hbox); have n3_ := Aside0.mk ((by rw [hg]; exact (below_size (by repeat (first | (with_reducible first | exact HB.out | apply below_alloc | apply pw_below_drewN | apply below_drew1 | refine below_set ?_ J8.out) | exact HB.out))) : w.heap.size ≤ J7)); have n4_ := Aside0.mk ((by rw [hg]; exact (below_size (by repeat (first | (with_reducible first | exact HB.out | apply below_alloc | apply pw_below_drewN | apply below_drew1 | refine below_set ?_ J8.out) | exact HB.out))) : w.heap.size ≤ J7)); have n5_ := Aside0.mk ((by rw [hg]; exact Nat.ne_of_lt (blk_lt (g := J5) (o := .cells #[.int .i64 a0_0, .int .i64 a0_1, .slice A0_2 l0_2.length c0_2, .slice A0_3 l0_3.length c0_3, .slice A0_4 l0_4.length c0_4] 28 (0, 0)) (by (with_reducible repeat (first | refine blk_drewN ?_ _ | refine blk_drew ?_ | refine blk_alloc ?_ _)); exact J1.out)) : J5 ≠ J7)); have n6_ := Aside0.mk ((by rw [hg]; exact Nat.ne_of_gt (blk_lt (g := J5) (o := .cells #[.int .i64 a0_0, .int .i64 a0_1, .slice A0_2 l0_2.length c0_2, .slice A0_3 l0_3.length c0_3, .slice A0_4 l0_4.length c0_4] 28 (0, 0)) (by (with_reducible repeat (first | refine blk_drewN ?_ _ | refine blk_drew ?_ | refine blk_alloc ?_ _)); exact J1.out)) : J7 ≠ J5)); clear J1; clear HB; have J1 := n0_; have HB := n1_; have J3 := n2_; have Ju := n3_; have Ja := n4_; have Jb := n5_; have Jc := n6_; clear n0_ n1_ n2_ n3_ n4_ n5_ n6_; clear hb hbox hg; have hnb39 := Jb.out; have hnc39 := Jc.out; have LH : w38.cell? ⟨J5, 0, none⟩ = some (.int .i64 a0_0) := (blk_cell J1.out 0).trans rfl; have LI : w38.cell? ⟨J5, 1, none⟩ = some (.int .i64 a0_1) := (blk_cell J1.out 1).trans rfl; have LJ : w38.cell? ⟨J5, 2, none⟩ = some (.slice A0_2 l0_2.length c0_2) := (blk_cell J1.out 2).trans rfl; have LK : w38.cell? ⟨J5, 3, none⟩ = some (.slice A0_3 l0_3.length c0_3) := (blk_cell J1.out 3).trans rfl; have LL : w38.cell? ⟨J5, 4, none⟩ = some (.slice A0_4 l0_4.length c0_4) := (blk_cell J1.out 4).trans rfl; have LM := blk_frozen J1.out 0; have LN := blk_frozen J1.out 1; have LO := blk_frozen J1.out 2; have LP := blk_frozen J1.out 3; have LQ := blk_frozen J1.out 4; have K1 : w38.cell? ⟨J7, 0, none⟩ = some (.int .i64 a1_0) := (blk_cell J3.out 0).trans rfl; have K2 : w38.cell? ⟨J7, 1, none⟩ = some (.int .i64 a1_1) := (blk_cell J3.out 1).trans rfl; have K3 : w38.cell? ⟨J7, 2, none⟩ = some (.slice A1_2 l1_2.length c1_2) := (blk_cell J3.out 2).trans rfl; have K4 : w38.cell? ⟨J7, 3, none⟩ = some (.slice A1_3 l1_3.length c1_3) := (blk_cell J3.out 3).trans rfl; have K5 : w38.cell? ⟨J7, 4, none⟩ = some (.slice A1_4 l1_4.length c1_4) := (blk_cell J3.out 4).trans rfl; have K6 := blk_frozen J3.out 0; have K7 := blk_frozen J3.out 1; have K8 := blk_frozen J3.out 2; have K9 := blk_frozen J3.out 3; have Ka := blk_frozen J3.out 4) | ((with_reducible refine gate_callee (f := 14) rfl ?_); refine goesL_ (some 19) rfl rfl Try.func14 (by kernel_rfl) rfl #[.slice A0_2 l0_2.length c0_2, .slice A1_2 l1_2.length c1_2] rfl (by (try simp only [List.map_toArray, List.map_cons, List.map_nil]); first | done | rfl | (simp only [List.length_drop, List.length_take]; rfl)) ?_; (with_reducible refine (laws_eqCellS.calls k _ _ l0_2 _ _ l1_2 false _ ?side1 ?side2 ?side3 ?side4 A5.out).mono ?_); (case side1 => repeat (first | exact (Kd.C_below HR0_2.out HB.out) | (with_reducible refine Kd.C_alloc ?_ _) | (with_reducible refine Kd.C_drewN ?_ _) | (with_reducible refine Kd.C_drew ?_))); (case side2 => exact HC0_2.out); (case side3 => repeat (first | exact (Kd.C_below HR1_2.out HB.out) | (with_reducible refine Kd.C_alloc ?_ _) | (with_reducible refine Kd.C_drewN ?_ _) | (with_reducible refine Kd.C_drew ?_))); (case side4 => exact HC1_2.out); rintro e w42 ⟨rfl, hb⟩; refine ⟨_, rfl, ?_⟩; have n0_ := Aside0.mk (blk_below (g := J5) (o := .cells #[.int .i64 a0_0, .int .i64 a0_1, .slice A0_2 l0_2.length c0_2, .slice A0_3 l0_3.length c0_3, .slice A0_4 l0_4.length c0_4] 28 (0, 0)) (by (with_reducible repeat (first | refine blk_drewN ?_ _ | refine blk_drew ?_ | refine blk_alloc ?_ _)); exact J1.out) hb); have n1_ := Aside0.mk (blk_below (g := J7) (o := .cells #[.int .i64 a1_0, .int .i64 a1_1, .slice A1_2 l1_2.length c1_2, .slice A1_3 l1_3.length c1_3, .slice A1_4 l1_4.length c1_4] 28 (0, 0)) (by (with_reducible repeat (first | refine blk_drewN ?_ _ | refine blk_drew ?_ | refine blk_alloc ?_ _)); exact J3.out) hb); have n2_ := Aside0.mk (below_step (by repeat (first | (with_reducible first | exact HB.out | apply below_alloc | apply pw_below_drewN | apply below_drew1 | refine below_set ?_ J8.out | refine below_set ?_ Ja.out) | exact HB.out)) hb); clear J1; clear J3; clear HB; have J1 := n0_; have J3 := n1_; have HB := n2_; clear n0_ n1_ n2_; (try clear hb); (try clear hb2); (try clear hk); (try clear hi)))
        go_ret
        exact ⟨by first | rfl | (simp [errW_none, errW_some] <;> rfl) | (simp [*, errW_none, errW_some] <;> rfl), by repeat (first | (with_reducible first | exact HB.out | apply below_alloc | apply pw_below_drewN | apply below_drew1 | refine below_set ?_ J8.out | refine below_set ?_ Ja.out) | exact HB.out)⟩
    · rw [if_neg c4] at H
      have c4b0 : (a0_1 == a1_1) = false := beq_eq_false_iff_ne.mpr c4
      have c4b1 : (a0_1 != a1_1) = true := bne_iff_ne.mpr c4
      obtain rfl := Option.some.inj H
      go_enter Try.func22, Try.ntmps22
      go_wp2_with (first | ((with_reducible refine gate_dst (N := 2) rfl ?_); refine box_event ?hg (N := 2) ?hd (cs := #[.int .i64 a0_0, .int .i64 a0_1, .slice A0_2 l0_2.length c0_2, .slice A0_3 l0_3.length c0_3, .slice A0_4 l0_4.length c0_4]) (t := 28) ?hr ?_; (case hd => rfl); (case hg => rfl); (case hr => first | (go_simp; done) | (go_simp; rfl)); intro J5 hg w43 hbox hb; have n0_ := Aside0.mk (below_step bo hb); have n1_ := Aside0.mk (hbox); have n2_ := Aside0.mk ((by rw [hg]; exact (below_size bo) : w.heap.size ≤ J5)); have n3_ := Aside0.mk ((by rw [hg]; exact (below_size bo) : w.heap.size ≤ J5)); clear HB; have HB := n0_; have J1 := n1_; have Jt := n2_; have J8 := n3_; clear n0_ n1_ n2_ n3_; clear hb hbox hg) | ((with_reducible refine gate_dst (N := 3) rfl ?_); refine box_event ?hg (N := 3) ?hd (cs := #[.int .i64 a1_0, .int .i64 a1_1, .slice A1_2 l1_2.length c1_2, .slice A1_3 l1_3.length c1_3, .slice A1_4 l1_4.length c1_4]) (t := 28) ?hr ?_; (case hd => rfl); (case hg => rfl); (case hr => first | (go_simp; done) | (go_simp; rfl)); intro J7 hg w44 hbox hb; have n0_ := Aside0.mk (blk_below (g := J5) (o := .cells #[.int .i64 a0_0, .int .i64 a0_1, .slice A0_2 l0_2.length c0_2, .slice A0_3 l0_3.length c0_3, .slice A0_4 l0_4.length c0_4] 28 (0, 0)) (by (with_reducible repeat (first | refine blk_drewN ?_ _ | refine blk_drew ?_ | refine blk_alloc ?_ _)); exact J1.out) hb); have n1_ := Aside0.mk (below_step (by repeat (first | (with_reducible first | exact HB.out | apply below_alloc | apply pw_below_drewN | apply below_drew1 | refine below_set ?_ J8.out) | exact HB.out)) hb); have n2_ := Aside0.mk (hbox); have n3_ := Aside0.mk ((by rw [hg]; exact (below_size (by repeat (first | (with_reducible first | exact HB.out | apply below_alloc | apply pw_below_drewN | apply below_drew1 | refine below_set ?_ J8.out) | exact HB.out))) : w.heap.size ≤ J7)); have n4_ := Aside0.mk ((by rw [hg]; exact (below_size (by repeat (first | (with_reducible first | exact HB.out | apply below_alloc | apply pw_below_drewN | apply below_drew1 | refine below_set ?_ J8.out) | exact HB.out))) : w.heap.size ≤ J7)); have n5_ := Aside0.mk ((by rw [hg]; exact Nat.ne_of_lt (blk_lt (g := J5) (o := .cells #[.int .i64 a0_0, .int .i64 a0_1, .slice A0_2 l0_2.length c0_2, .slice A0_3 l0_3.length c0_3, .slice A0_4 l0_4.length c0_4] 28 (0, 0)) (by (with_reducible repeat (first | refine blk_drewN ?_ _ | refine blk_drew ?_ | refine blk_alloc ?_ _)); exact J1.out)) : J5 ≠ J7)); have n6_ := Aside0.mk ((by rw [hg]; exact Nat.ne_of_gt (blk_lt (g := J5) (o := .cells #[.int .i64 a0_0, .int .i64 a0_1, .slice A0_2 l0_2.length c0_2, .slice A0_3 l0_3.length c0_3, .slice A0_4 l0_4.length c0_4] 28 (0, 0)) (by (with_reducible repeat (first | refine blk_drewN ?_ _ | refine blk_drew ?_ | refine blk_alloc ?_ _)); exact J1.out)) : J7 ≠ J5)); clear J1; clear HB; have J1 := n0_; have HB := n1_; have J3 := n2_; have Ju := n3_; have Ja := n4_; have Jb := n5_; have Jc := n6_; clear n0_ n1_ n2_ n3_ n4_ n5_ n6_; clear hb hbox hg; have hnb45 := Jb.out; have hnc45 := Jc.out; have LR : w44.cell? ⟨J5, 0, none⟩ = some (.int .i64 a0_0) := (blk_cell J1.out 0).trans rfl; have LS : w44.cell? ⟨J5, 1, none⟩ = some (.int .i64 a0_1) := (blk_cell J1.out 1).trans rfl; have LT : w44.cell? ⟨J5, 2, none⟩ = some (.slice A0_2 l0_2.length c0_2) := (blk_cell J1.out 2).trans rfl; have LU : w44.cell? ⟨J5, 3, none⟩ = some (.slice A0_3 l0_3.length c0_3) := (blk_cell J1.out 3).trans rfl; have LV : w44.cell? ⟨J5, 4, none⟩ = some (.slice A0_4 l0_4.length c0_4) := (blk_cell J1.out 4).trans rfl; have LW := blk_frozen J1.out 0; have LX := blk_frozen J1.out 1; have LY := blk_frozen J1.out 2; have LZ := blk_frozen J1.out 3; have Q0 := blk_frozen J1.out 4; have Q1 : w44.cell? ⟨J7, 0, none⟩ = some (.int .i64 a1_0) := (blk_cell J3.out 0).trans rfl; have Q2 : w44.cell? ⟨J7, 1, none⟩ = some (.int .i64 a1_1) := (blk_cell J3.out 1).trans rfl; have Q3 : w44.cell? ⟨J7, 2, none⟩ = some (.slice A1_2 l1_2.length c1_2) := (blk_cell J3.out 2).trans rfl; have Q4 : w44.cell? ⟨J7, 3, none⟩ = some (.slice A1_3 l1_3.length c1_3) := (blk_cell J3.out 3).trans rfl; have Q5 : w44.cell? ⟨J7, 4, none⟩ = some (.slice A1_4 l1_4.length c1_4) := (blk_cell J3.out 4).trans rfl; have Q6 := blk_frozen J3.out 0; have Q7 := blk_frozen J3.out 1; have Q8 := blk_frozen J3.out 2; have Q9 := blk_frozen J3.out 3; have Qa := blk_frozen J3.out 4))
      go_ret
      exact ⟨by first | rfl | (simp [errW_none, errW_some] <;> rfl) | (simp [*, errW_none, errW_some] <;> rfl), by repeat (first | (with_reducible first | exact HB.out | apply below_alloc | apply pw_below_drewN | apply below_drew1 | refine below_set ?_ J8.out | refine below_set ?_ Ja.out) | exact HB.out)⟩
  · rw [if_neg c3] at H
    have c3b0 : (a0_0 == a1_0) = false := beq_eq_false_iff_ne.mpr c3
    have c3b1 : (a0_0 != a1_0) = true := bne_iff_ne.mpr c3
    obtain rfl := Option.some.inj H
    go_enter Try.func22, Try.ntmps22
    go_wp2_with (first | ((with_reducible refine gate_dst (N := 2) rfl ?_); refine box_event ?hg (N := 2) ?hd (cs := #[.int .i64 a0_0, .int .i64 a0_1, .slice A0_2 l0_2.length c0_2, .slice A0_3 l0_3.length c0_3, .slice A0_4 l0_4.length c0_4]) (t := 28) ?hr ?_; (case hd => rfl); (case hg => rfl); (case hr => first | (go_simp; done) | (go_simp; rfl)); intro J5 hg w48 hbox hb; have n0_ := Aside0.mk (below_step bo hb); have n1_ := Aside0.mk (hbox); have n2_ := Aside0.mk ((by rw [hg]; exact (below_size bo) : w.heap.size ≤ J5)); have n3_ := Aside0.mk ((by rw [hg]; exact (below_size bo) : w.heap.size ≤ J5)); clear HB; have HB := n0_; have J1 := n1_; have Jt := n2_; have J8 := n3_; clear n0_ n1_ n2_ n3_; clear hb hbox hg) | ((with_reducible refine gate_dst (N := 3) rfl ?_); refine box_event ?hg (N := 3) ?hd (cs := #[.int .i64 a1_0, .int .i64 a1_1, .slice A1_2 l1_2.length c1_2, .slice A1_3 l1_3.length c1_3, .slice A1_4 l1_4.length c1_4]) (t := 28) ?hr ?_; (case hd => rfl); (case hg => rfl); (case hr => first | (go_simp; done) | (go_simp; rfl)); intro J7 hg w49 hbox hb; have n0_ := Aside0.mk (blk_below (g := J5) (o := .cells #[.int .i64 a0_0, .int .i64 a0_1, .slice A0_2 l0_2.length c0_2, .slice A0_3 l0_3.length c0_3, .slice A0_4 l0_4.length c0_4] 28 (0, 0)) (by (with_reducible repeat (first | refine blk_drewN ?_ _ | refine blk_drew ?_ | refine blk_alloc ?_ _)); exact J1.out) hb); have n1_ := Aside0.mk (below_step (by repeat (first | (with_reducible first | exact HB.out | apply below_alloc | apply pw_below_drewN | apply below_drew1 | refine below_set ?_ J8.out) | exact HB.out)) hb); have n2_ := Aside0.mk (hbox); have n3_ := Aside0.mk ((by rw [hg]; exact (below_size (by repeat (first | (with_reducible first | exact HB.out | apply below_alloc | apply pw_below_drewN | apply below_drew1 | refine below_set ?_ J8.out) | exact HB.out))) : w.heap.size ≤ J7)); have n4_ := Aside0.mk ((by rw [hg]; exact (below_size (by repeat (first | (with_reducible first | exact HB.out | apply below_alloc | apply pw_below_drewN | apply below_drew1 | refine below_set ?_ J8.out) | exact HB.out))) : w.heap.size ≤ J7)); have n5_ := Aside0.mk ((by rw [hg]; exact Nat.ne_of_lt (blk_lt (g := J5) (o := .cells #[.int .i64 a0_0, .int .i64 a0_1, .slice A0_2 l0_2.length c0_2, .slice A0_3 l0_3.length c0_3, .slice A0_4 l0_4.length c0_4] 28 (0, 0)) (by (with_reducible repeat (first | refine blk_drewN ?_ _ | refine blk_drew ?_ | refine blk_alloc ?_ _)); exact J1.out)) : J5 ≠ J7)); have n6_ := Aside0.mk ((by rw [hg]; exact Nat.ne_of_gt (blk_lt (g := J5) (o := .cells #[.int .i64 a0_0, .int .i64 a0_1, .slice A0_2 l0_2.length c0_2, .slice A0_3 l0_3.length c0_3, .slice A0_4 l0_4.length c0_4] 28 (0, 0)) (by (with_reducible repeat (first | refine blk_drewN ?_ _ | refine blk_drew ?_ | refine blk_alloc ?_ _)); exact J1.out)) : J7 ≠ J5)); clear J1; clear HB; have J1 := n0_; have HB := n1_; have J3 := n2_; have Ju := n3_; have Ja := n4_; have Jb := n5_; have Jc := n6_; clear n0_ n1_ n2_ n3_ n4_ n5_ n6_; clear hb hbox hg; have hnb50 := Jb.out; have hnc50 := Jc.out; have Qb : w49.cell? ⟨J5, 0, none⟩ = some (.int .i64 a0_0) := (blk_cell J1.out 0).trans rfl; have Qc : w49.cell? ⟨J5, 1, none⟩ = some (.int .i64 a0_1) := (blk_cell J1.out 1).trans rfl; have Qd : w49.cell? ⟨J5, 2, none⟩ = some (.slice A0_2 l0_2.length c0_2) := (blk_cell J1.out 2).trans rfl; have Qe : w49.cell? ⟨J5, 3, none⟩ = some (.slice A0_3 l0_3.length c0_3) := (blk_cell J1.out 3).trans rfl; have Qf : w49.cell? ⟨J5, 4, none⟩ = some (.slice A0_4 l0_4.length c0_4) := (blk_cell J1.out 4).trans rfl; have Qg := blk_frozen J1.out 0; have Qh := blk_frozen J1.out 1; have Qi := blk_frozen J1.out 2; have Qj := blk_frozen J1.out 3; have Qk := blk_frozen J1.out 4; have Ql : w49.cell? ⟨J7, 0, none⟩ = some (.int .i64 a1_0) := (blk_cell J3.out 0).trans rfl; have Qm : w49.cell? ⟨J7, 1, none⟩ = some (.int .i64 a1_1) := (blk_cell J3.out 1).trans rfl; have Qn : w49.cell? ⟨J7, 2, none⟩ = some (.slice A1_2 l1_2.length c1_2) := (blk_cell J3.out 2).trans rfl; have Qo : w49.cell? ⟨J7, 3, none⟩ = some (.slice A1_3 l1_3.length c1_3) := (blk_cell J3.out 3).trans rfl; have Qp : w49.cell? ⟨J7, 4, none⟩ = some (.slice A1_4 l1_4.length c1_4) := (blk_cell J3.out 4).trans rfl; have Qq := blk_frozen J3.out 0; have Qr := blk_frozen J3.out 1; have Qs := blk_frozen J3.out 2; have Qt := blk_frozen J3.out 3; have Qu := blk_frozen J3.out 4))
    go_ret
    exact ⟨by first | rfl | (simp [errW_none, errW_some] <;> rfl) | (simp [*, errW_none, errW_some] <;> rfl), by repeat (first | (with_reducible first | exact HB.out | apply below_alloc | apply pw_below_drewN | apply below_drew1 | refine below_set ?_ J8.out | refine below_set ?_ Ja.out) | exact HB.out)⟩

/-! ### laws_eqCopiesResult: function 13 -/
def laws_eqCopiesResult.f (k : Nat) (a0_0 : Int) (a0_1 : Int) (l0_2 : List (S118)) (a0_3 : Int) (a0_4 : Int) (l0_5 : List (S118)) (l0_6 : List Int) (l0_7 : List (S135)) (a1_0 : Int) (a1_1 : Int) (l1_2 : List (S118)) (a1_3 : Int) (a1_4 : Int) (l1_5 : List (S118)) (l1_6 : List Int) (l1_7 : List (S135)) : Option (Bool) := if a0_0 = a1_0 then (if a0_1 = a1_1 then ((laws_eqCellS.f k l0_2 l1_2).bind fun t247 => (if t247 = true then ((laws_eqCopies.f k a0_3 a0_4 l0_5 l0_6 l0_7 a1_3 a1_4 l1_5 l1_6 l1_7).bind fun t248 => (if t248 = true then (some true) else (some false))) else (some false))) else (some false)) else (some false)
theorem laws_eqCopiesResult.mono : ∀ a0 a1 a2 a3 a4 a5 a6 a7 a8 a9 a10 a11 a12 a13 a14 a15 k, LeO (laws_eqCopiesResult.f k a0 a1 a2 a3 a4 a5 a6 a7 a8 a9 a10 a11 a12 a13 a14 a15) (laws_eqCopiesResult.f (k + 1) a0 a1 a2 a3 a4 a5 a6 a7 a8 a9 a10 a11 a12 a13 a14 a15) := by
  intro a0 a1 a2 a3 a4 a5 a6 a7 a8 a9 a10 a11 a12 a13 a14 a15 k
  unfold laws_eqCopiesResult.f
  repeat' first
      | (with_reducible exact laws_eqCellS.mono _ _ _)
      | (with_reducible exact laws_eqCopies.mono _ _ _ _ _ _ _ _ _ _ _)
      | (with_reducible exact LeO.refl _)
      | (with_reducible exact LeO.none _)
      | (with_reducible refine LeO.ite ?_ ?_)
      | (with_reducible refine LeO.bind ?_ (fun _ => ?_))
      | exact laws_eqCellS.mono _ _ _
      | exact laws_eqCopies.mono _ _ _ _ _ _ _ _ _ _ _
      | exact LeO.none _
      | refine LeO.ite ?_ ?_
      | refine LeO.bind ?_ (fun _ => ?_)
set_option maxHeartbeats 8000000 in
set_option maxRecDepth 100000 in
theorem laws_eqCopiesResult.calls (k : Nat) (a0_0 : Int) (a0_1 : Int) (A0_2 : Option Addr) (c0_2 : Nat) (l0_2 : List (S118)) (a0_3 : Int) (a0_4 : Int) (A0_5 : Option Addr) (c0_5 : Nat) (l0_5 : List (S118)) (A0_6 : Option Addr) (c0_6 : Nat) (l0_6 : List Int) (A0_7 : Option Addr) (c0_7 : Nat) (l0_7 : List (S135)) (a1_0 : Int) (a1_1 : Int) (A1_2 : Option Addr) (c1_2 : Nat) (l1_2 : List (S118)) (a1_3 : Int) (a1_4 : Int) (A1_5 : Option Addr) (c1_5 : Nat) (l1_5 : List (S118)) (A1_6 : Option Addr) (c1_6 : Nat) (l1_6 : List Int) (A1_7 : Option Addr) (c1_7 : Nat) (l1_7 : List (S135)) (r : Bool) (w : World) (hr0_2 : Kd.C k118 w A0_2 l0_2.length l0_2) (hc0_2 : l0_2.length ≤ c0_2) (hr0_5 : Kd.C k118 w A0_5 l0_5.length l0_5) (hc0_5 : l0_5.length ≤ c0_5) (hr0_6 : Kd.C (Kd.int .i64) w A0_6 l0_6.length l0_6) (hc0_6 : l0_6.length ≤ c0_6) (hr0_7 : Kd.C k135 w A0_7 l0_7.length l0_7) (hc0_7 : l0_7.length ≤ c0_7) (hr1_2 : Kd.C k118 w A1_2 l1_2.length l1_2) (hc1_2 : l1_2.length ≤ c1_2) (hr1_5 : Kd.C k118 w A1_5 l1_5.length l1_5) (hc1_5 : l1_5.length ≤ c1_5) (hr1_6 : Kd.C (Kd.int .i64) w A1_6 l1_6.length l1_6) (hc1_6 : l1_6.length ≤ c1_6) (hr1_7 : Kd.C k135 w A1_7 l1_7.length l1_7) (hc1_7 : l1_7.length ≤ c1_7) (h : laws_eqCopiesResult.f k a0_0 a0_1 l0_2 a0_3 a0_4 l0_5 l0_6 l0_7 a1_0 a1_1 l1_2 a1_3 a1_4 l1_5 l1_6 l1_7 = some r) :
    Calls Try.prog 13 #[.agg #[.int .i64 a0_0, .int .i64 a0_1, .slice A0_2 l0_2.length c0_2, .int .i64 a0_3, .int .i64 a0_4, .slice A0_5 l0_5.length c0_5, .slice A0_6 l0_6.length c0_6, .slice A0_7 l0_7.length c0_7], .agg #[.int .i64 a1_0, .int .i64 a1_1, .slice A1_2 l1_2.length c1_2, .int .i64 a1_3, .int .i64 a1_4, .slice A1_5 l1_5.length c1_5, .slice A1_6 l1_6.length c1_6, .slice A1_7 l1_7.length c1_7]] w fun e w' => e = .returned (.bool r) ∧ Below w.heap.size w w' := by
  have hu30 := Try.underlying30
  have hu28 := Try.underlying28
  have HR0_2 := Aside0.mk hr0_2
  have HC0_2 := Aside0.mk hc0_2
  clear hr0_2 hc0_2
  have HR0_5 := Aside0.mk hr0_5
  have HC0_5 := Aside0.mk hc0_5
  clear hr0_5 hc0_5
  have HR0_6 := Aside0.mk hr0_6
  have HC0_6 := Aside0.mk hc0_6
  clear hr0_6 hc0_6
  have HR0_7 := Aside0.mk hr0_7
  have HC0_7 := Aside0.mk hc0_7
  clear hr0_7 hc0_7
  have HR1_2 := Aside0.mk hr1_2
  have HC1_2 := Aside0.mk hc1_2
  clear hr1_2 hc1_2
  have HR1_5 := Aside0.mk hr1_5
  have HC1_5 := Aside0.mk hc1_5
  clear hr1_5 hc1_5
  have HR1_6 := Aside0.mk hr1_6
  have HC1_6 := Aside0.mk hc1_6
  clear hr1_6 hc1_6
  have HR1_7 := Aside0.mk hr1_7
  have HC1_7 := Aside0.mk hc1_7
  clear hr1_7 hc1_7
  have HB := Aside0.mk (Below.refl w.heap.size w)
  have H : (if a0_0 = a1_0 then (if a0_1 = a1_1 then ((laws_eqCellS.f k l0_2 l1_2).bind fun t247 => (if t247 = true then ((laws_eqCopies.f k a0_3 a0_4 l0_5 l0_6 l0_7 a1_3 a1_4 l1_5 l1_6 l1_7).bind fun t248 => (if t248 = true then (some true) else (some false))) else (some false))) else (some false)) else (some false)) = some r := h
  clear h
  by_cases c3 : a0_0 = a1_0
  · rw [if_pos c3] at H
    have c3b0 : (a0_0 == a1_0) = true := beq_iff_eq.mpr c3
    have c3b1 : (a0_0 != a1_0) = false := bne_eq_false_iff_eq.mpr c3
    clear c3
    by_cases c4 : a0_1 = a1_1
    · rw [if_pos c4] at H
      have c4b0 : (a0_1 == a1_1) = true := beq_iff_eq.mpr c4
      have c4b1 : (a0_1 != a1_1) = false := bne_eq_false_iff_eq.mpr c4
      clear c4
      replace H := Option.bind_eq_some_iff.mp H
      obtain ⟨t247, A50, H⟩ := H
      replace H : (if t247 = true then ((laws_eqCopies.f k a0_3 a0_4 l0_5 l0_6 l0_7 a1_3 a1_4 l1_5 l1_6 l1_7).bind fun t248 => (if t248 = true then (some true) else (some false))) else (some false)) = some r := H
      have A5 := Aside0.mk A50
      clear A50
      by_cases c6 : t247 = true
      · subst c6
        have H1 : ((laws_eqCopies.f k a0_3 a0_4 l0_5 l0_6 l0_7 a1_3 a1_4 l1_5 l1_6 l1_7).bind fun t248 => (if t248 = true then (some true) else (some false))) = some r := by rw [if_pos rfl] at H; exact H
        clear H
        have H := H1
        clear H1
        replace H := Option.bind_eq_some_iff.mp H
        obtain ⟨t248, A70, H⟩ := H
        replace H : (if t248 = true then (some true) else (some false)) = some r := H
        have A7 := Aside0.mk A70
        clear A70
        by_cases c8 : t248 = true
        · subst c8
          have H1 : (some true) = some r := by rw [if_pos rfl] at H; exact H
          clear H
          have H := H1
          clear H1
          obtain rfl := Option.some.inj H
          go_enter Try.func13, Try.ntmps13
          go_wp2_with (first | ((with_reducible refine gate_dst (N := 2) rfl ?_); refine box_event ?hg (N := 2) ?hd (cs := #[.int .i64 a0_0, .int .i64 a0_1, .slice A0_2 l0_2.length c0_2, .int .i64 a0_3, .int .i64 a0_4, .slice A0_5 l0_5.length c0_5, .slice A0_6 l0_6.length c0_6, .slice A0_7 l0_7.length c0_7]) (t := 30) ?hr ?_; (case hd => rfl); (case hg => rfl); (case hr => first | (go_simp; done) | (go_simp; rfl)); intro J4 hg w9 hbox hb; have n0_ := Aside0.mk (below_step bo hb); have n1_ := Aside0.mk (hbox); have n2_ := Aside0.mk ((by rw [hg]; exact (below_size bo) : w.heap.size ≤ J4)); have n3_ := Aside0.mk ((by rw [hg]; exact (below_size bo) : w.heap.size ≤ J4)); clear HB; have HB := n0_; have J0 := n1_; have Jv := n2_; have J9 := n3_; clear n0_ n1_ n2_ n3_; clear hb hbox hg) | ((with_reducible refine gate_dst (N := 3) rfl ?_); refine box_event ?hg (N := 3) ?hd (cs := #[.int .i64 a1_0, .int .i64 a1_1, .slice A1_2 l1_2.length c1_2, .int .i64 a1_3, .int .i64 a1_4, .slice A1_5 l1_5.length c1_5, .slice A1_6 l1_6.length c1_6, .slice A1_7 l1_7.length c1_7]) (t := 30) ?hr ?_; (case hd => rfl); (case hg => rfl); (case hr => first | (go_simp; done) | (go_simp; rfl)); intro J6 hg w10 hbox hb; have n0_ := Aside0.mk (blk_below (g := J4) (o := .cells #[.int .i64 a0_0, .int .i64 a0_1, .slice A0_2 l0_2.length c0_2, .int .i64 a0_3, .int .i64 a0_4, .slice A0_5 l0_5.length c0_5, .slice A0_6 l0_6.length c0_6, .slice A0_7 l0_7.length c0_7] 30 (0, 0)) (by (with_reducible repeat (first | refine blk_drewN ?_ _ | refine blk_drew ?_ | refine blk_alloc ?_ _)); exact J0.out) hb); have n1_ := Aside0.mk (below_step (by repeat (first | (with_reducible first | exact HB.out | apply below_alloc | apply pw_below_drewN | apply below_drew1 | refine below_set ?_ J9.out) | exact HB.out)) hb); have n2_ := Aside0.mk (hbox); have n3_ := Aside0.mk ((by rw [hg]; exact (below_size (by repeat (first | (with_reducible first | exact HB.out | apply below_alloc | apply pw_below_drewN | apply below_drew1 | refine below_set ?_ J9.out) | exact HB.out))) : w.heap.size ≤ J6)); have n4_ := Aside0.mk ((by rw [hg]; exact (below_size (by repeat (first | (with_reducible first | exact HB.out | apply below_alloc | apply pw_below_drewN | apply below_drew1 | refine below_set ?_ J9.out) | exact HB.out))) : w.heap.size ≤ J6)); have n5_ := Aside0.mk ((by rw [hg]; exact Nat.ne_of_lt (blk_lt (g := J4) (o := .cells #[.int .i64 a0_0, .int .i64 a0_1, .slice A0_2 l0_2.length c0_2, .int .i64 a0_3, .int .i64 a0_4, .slice A0_5 l0_5.length c0_5, .slice A0_6 l0_6.length c0_6, .slice A0_7 l0_7.length c0_7] 30 (0, 0)) (by (with_reducible repeat (first | refine blk_drewN ?_ _ | refine blk_drew ?_ | refine blk_alloc ?_ _)); exact J0.out)) : J4 ≠ J6)); have n6_ := Aside0.mk ((by rw [hg]; exact Nat.ne_of_gt (blk_lt (g := J4) (o := .cells #[.int .i64 a0_0, .int .i64 a0_1, .slice A0_2 l0_2.length c0_2, .int .i64 a0_3, .int .i64 a0_4, .slice A0_5 l0_5.length c0_5, .slice A0_6 l0_6.length c0_6, .slice A0_7 l0_7.length c0_7] 30 (0, 0)) (by (with_reducible repeat (first | refine blk_drewN ?_ _ | refine blk_drew ?_ | refine blk_alloc ?_ _)); exact J0.out)) : J6 ≠ J4)); clear J0; clear HB; have J0 := n0_; have HB := n1_; have J2 := n2_; have Jw := n3_; have Js := n4_; have Jd := n5_; have Je := n6_; clear n0_ n1_ n2_ n3_ n4_ n5_ n6_; clear hb hbox hg; have hnb11 := Jd.out; have hnc11 := Je.out; have Qv : w10.cell? ⟨J4, 0, none⟩ = some (.int .i64 a0_0) := (blk_cell J0.out 0).trans rfl; have Qw : w10.cell? ⟨J4, 1, none⟩ = some (.int .i64 a0_1) := (blk_cell J0.out 1).trans rfl; have Qx : w10.cell? ⟨J4, 2, none⟩ = some (.slice A0_2 l0_2.length c0_2) := (blk_cell J0.out 2).trans rfl; have Qy : w10.cell? ⟨J4, 3, none⟩ = some (.int .i64 a0_3) := (blk_cell J0.out 3).trans rfl; have Qz : w10.cell? ⟨J4, 4, none⟩ = some (.int .i64 a0_4) := (blk_cell J0.out 4).trans rfl; have QA : w10.cell? ⟨J4, 5, none⟩ = some (.slice A0_5 l0_5.length c0_5) := (blk_cell J0.out 5).trans rfl; have QB : w10.cell? ⟨J4, 6, none⟩ = some (.slice A0_6 l0_6.length c0_6) := (blk_cell J0.out 6).trans rfl; have QC : w10.cell? ⟨J4, 7, none⟩ = some (.slice A0_7 l0_7.length c0_7) := (blk_cell J0.out 7).trans rfl; have QD := blk_frozen J0.out 0; have QE := blk_frozen J0.out 1; have QF := blk_frozen J0.out 2; have QG := blk_frozen J0.out 3; have QH := blk_frozen J0.out 4; have QI := blk_frozen J0.out 5; have QJ := blk_frozen J0.out 6; have QK := blk_frozen J0.out 7; have QL : w10.cell? ⟨J6, 0, none⟩ = some (.int .i64 a1_0) := (blk_cell J2.out 0).trans rfl; have QM : w10.cell? ⟨J6, 1, none⟩ = some (.int .i64 a1_1) := (blk_cell J2.out 1).trans rfl; have QN : w10.cell? ⟨J6, 2, none⟩ = some (.slice A1_2 l1_2.length c1_2) := (blk_cell J2.out 2).trans rfl; have QO : w10.cell? ⟨J6, 3, none⟩ = some (.int .i64 a1_3) := (blk_cell J2.out 3).trans rfl; have QP : w10.cell? ⟨J6, 4, none⟩ = some (.int .i64 a1_4) := (blk_cell J2.out 4).trans rfl; have QQ : w10.cell? ⟨J6, 5, none⟩ = some (.slice A1_5 l1_5.length c1_5) := (blk_cell J2.out 5).trans rfl; have QR : w10.cell? ⟨J6, 6, none⟩ = some (.slice A1_6 l1_6.length c1_6) := (blk_cell J2.out 6).trans rfl; have QS : w10.cell? ⟨J6, 7, none⟩ = some (.slice A1_7 l1_7.length c1_7) := (blk_cell J2.out 7).trans rfl; have QT := blk_frozen J2.out 0; have QU := blk_frozen J2.out 1; have QV := blk_frozen J2.out 2; have QW := blk_frozen J2.out 3; have QX := blk_frozen J2.out 4; have QY := blk_frozen J2.out 5; have QZ := blk_frozen J2.out 6; have U0 := blk_frozen J2.out 7) | ((with_reducible refine gate_callee (f := 14) rfl ?_); refine goesL_ (some 19) rfl rfl Try.func14 (by kernel_rfl) rfl #[.slice A0_2 l0_2.length c0_2, .slice A1_2 l1_2.length c1_2] rfl (by (try simp only [List.map_toArray, List.map_cons, List.map_nil]); first | done | rfl | (simp only [List.length_drop, List.length_take]; rfl)) ?_; (with_reducible refine (laws_eqCellS.calls k _ _ l0_2 _ _ l1_2 true _ ?side1 ?side2 ?side3 ?side4 A5.out).mono ?_); (case side1 => repeat (first | exact (Kd.C_below HR0_2.out HB.out) | (with_reducible refine Kd.C_alloc ?_ _) | (with_reducible refine Kd.C_drewN ?_ _) | (with_reducible refine Kd.C_drew ?_))); (case side2 => exact HC0_2.out); (case side3 => repeat (first | exact (Kd.C_below HR1_2.out HB.out) | (with_reducible refine Kd.C_alloc ?_ _) | (with_reducible refine Kd.C_drewN ?_ _) | (with_reducible refine Kd.C_drew ?_))); (case side4 => exact HC1_2.out); rintro e w14 ⟨rfl, hb⟩; refine ⟨_, rfl, ?_⟩; have n0_ := Aside0.mk (blk_below (g := J4) (o := .cells #[.int .i64 a0_0, .int .i64 a0_1, .slice A0_2 l0_2.length c0_2, .int .i64 a0_3, .int .i64 a0_4, .slice A0_5 l0_5.length c0_5, .slice A0_6 l0_6.length c0_6, .slice A0_7 l0_7.length c0_7] 30 (0, 0)) (by (with_reducible repeat (first | refine blk_drewN ?_ _ | refine blk_drew ?_ | refine blk_alloc ?_ _)); exact J0.out) hb); have n1_ := Aside0.mk (blk_below (g := J6) (o := .cells #[.int .i64 a1_0, .int .i64 a1_1, .slice A1_2 l1_2.length c1_2, .int .i64 a1_3, .int .i64 a1_4, .slice A1_5 l1_5.length c1_5, .slice A1_6 l1_6.length c1_6, .slice A1_7 l1_7.length c1_7] 30 (0, 0)) (by (with_reducible repeat (first | refine blk_drewN ?_ _ | refine blk_drew ?_ | refine blk_alloc ?_ _)); exact J2.out) hb); have n2_ := Aside0.mk (below_step (by repeat (first | (with_reducible first | exact HB.out | apply below_alloc | apply pw_below_drewN | apply below_drew1 | refine below_set ?_ J9.out | refine below_set ?_ Js.out) | exact HB.out)) hb); clear J0; clear J2; clear HB; have J0 := n0_; have J2 := n1_; have HB := n2_; clear n0_ n1_ n2_; (try clear hb); (try clear hb2); (try clear hk); (try clear hi); have Jx : w14.cell? ⟨J4, 0, none⟩ = some (.int .i64 a0_0) := (blk_cell J0.out 0).trans rfl; have Jy : w14.cell? ⟨J4, 1, none⟩ = some (.int .i64 a0_1) := (blk_cell J0.out 1).trans rfl; have Jz : w14.cell? ⟨J4, 2, none⟩ = some (.slice A0_2 l0_2.length c0_2) := (blk_cell J0.out 2).trans rfl; have JA : w14.cell? ⟨J4, 3, none⟩ = some (.int .i64 a0_3) := (blk_cell J0.out 3).trans rfl; have JB : w14.cell? ⟨J4, 4, none⟩ = some (.int .i64 a0_4) := (blk_cell J0.out 4).trans rfl; have U1 : w14.cell? ⟨J4, 5, none⟩ = some (.slice A0_5 l0_5.length c0_5) := (blk_cell J0.out 5).trans rfl; have U2 : w14.cell? ⟨J4, 6, none⟩ = some (.slice A0_6 l0_6.length c0_6) := (blk_cell J0.out 6).trans rfl; have U3 : w14.cell? ⟨J4, 7, none⟩ = some (.slice A0_7 l0_7.length c0_7) := (blk_cell J0.out 7).trans rfl; have JC := blk_frozen J0.out 0; have JD := blk_frozen J0.out 1; have JE := blk_frozen J0.out 2; have JF := blk_frozen J0.out 3; have JG := blk_frozen J0.out 4; have U4 := blk_frozen J0.out 5; have U5 := blk_frozen J0.out 6; have U6 := blk_frozen J0.out 7; have U7 : w14.cell? ⟨J6, 0, none⟩ = some (.int .i64 a1_0) := (blk_cell J2.out 0).trans rfl; have U8 : w14.cell? ⟨J6, 1, none⟩ = some (.int .i64 a1_1) := (blk_cell J2.out 1).trans rfl; have U9 : w14.cell? ⟨J6, 2, none⟩ = some (.slice A1_2 l1_2.length c1_2) := (blk_cell J2.out 2).trans rfl; have Ua : w14.cell? ⟨J6, 3, none⟩ = some (.int .i64 a1_3) := (blk_cell J2.out 3).trans rfl; have Ub : w14.cell? ⟨J6, 4, none⟩ = some (.int .i64 a1_4) := (blk_cell J2.out 4).trans rfl; have Uc : w14.cell? ⟨J6, 5, none⟩ = some (.slice A1_5 l1_5.length c1_5) := (blk_cell J2.out 5).trans rfl; have Ud : w14.cell? ⟨J6, 6, none⟩ = some (.slice A1_6 l1_6.length c1_6) := (blk_cell J2.out 6).trans rfl; have Ue : w14.cell? ⟨J6, 7, none⟩ = some (.slice A1_7 l1_7.length c1_7) := (blk_cell J2.out 7).trans rfl; have Uf := blk_frozen J2.out 0; have Ug := blk_frozen J2.out 1; have Uh := blk_frozen J2.out 2; have Ui := blk_frozen J2.out 3; have Uj := blk_frozen J2.out 4; have Uk := blk_frozen J2.out 5; have Ul := blk_frozen J2.out 6; have Um := blk_frozen J2.out 7) | ((with_reducible refine gate_callee (f := 22) rfl ?_); refine goesL_ (some 25) rfl rfl Try.func22 (by kernel_rfl) rfl #[.agg #[.int .i64 a0_3, .int .i64 a0_4, .slice A0_5 l0_5.length c0_5, .slice A0_6 l0_6.length c0_6, .slice A0_7 l0_7.length c0_7], .agg #[.int .i64 a1_3, .int .i64 a1_4, .slice A1_5 l1_5.length c1_5, .slice A1_6 l1_6.length c1_6, .slice A1_7 l1_7.length c1_7]] rfl (by (try simp only [List.map_toArray, List.map_cons, List.map_nil]); first | done | rfl | (simp only [List.length_drop, List.length_take]; rfl)) ?_; (with_reducible refine (laws_eqCopies.calls k a0_3 a0_4 _ _ l0_5 _ _ l0_6 _ _ l0_7 a1_3 a1_4 _ _ l1_5 _ _ l1_6 _ _ l1_7 true _ ?side1 ?side2 ?side3 ?side4 ?side5 ?side6 ?side7 ?side8 ?side9 ?side10 ?side11 ?side12 A7.out).mono ?_); (case side1 => repeat (first | exact (Kd.C_below HR0_5.out HB.out) | (with_reducible refine Kd.C_alloc ?_ _) | (with_reducible refine Kd.C_drewN ?_ _) | (with_reducible refine Kd.C_drew ?_))); (case side2 => exact HC0_5.out); (case side3 => repeat (first | exact (Kd.C_below HR0_6.out HB.out) | (with_reducible refine Kd.C_alloc ?_ _) | (with_reducible refine Kd.C_drewN ?_ _) | (with_reducible refine Kd.C_drew ?_))); (case side4 => exact HC0_6.out); (case side5 => repeat (first | exact (Kd.C_below HR0_7.out HB.out) | (with_reducible refine Kd.C_alloc ?_ _) | (with_reducible refine Kd.C_drewN ?_ _) | (with_reducible refine Kd.C_drew ?_))); (case side6 => exact HC0_7.out); (case side7 => repeat (first | exact (Kd.C_below HR1_5.out HB.out) | (with_reducible refine Kd.C_alloc ?_ _) | (with_reducible refine Kd.C_drewN ?_ _) | (with_reducible refine Kd.C_drew ?_))); (case side8 => exact HC1_5.out); (case side9 => repeat (first | exact (Kd.C_below HR1_6.out HB.out) | (with_reducible refine Kd.C_alloc ?_ _) | (with_reducible refine Kd.C_drewN ?_ _) | (with_reducible refine Kd.C_drew ?_))); (case side10 => exact HC1_6.out); (case side11 => repeat (first | exact (Kd.C_below HR1_7.out HB.out) | (with_reducible refine Kd.C_alloc ?_ _) | (with_reducible refine Kd.C_drewN ?_ _) | (with_reducible refine Kd.C_drew ?_))); (case side12 => exact HC1_7.out); rintro e w17 ⟨rfl, hb⟩; refine ⟨_, rfl, ?_⟩; have n0_ := Aside0.mk (blk_below (g := J4) (o := .cells #[.int .i64 a0_0, .int .i64 a0_1, .slice A0_2 l0_2.length c0_2, .int .i64 a0_3, .int .i64 a0_4, .slice A0_5 l0_5.length c0_5, .slice A0_6 l0_6.length c0_6, .slice A0_7 l0_7.length c0_7] 30 (0, 0)) (by (with_reducible repeat (first | refine blk_drewN ?_ _ | refine blk_drew ?_ | refine blk_alloc ?_ _)); exact J0.out) hb); have n1_ := Aside0.mk (blk_below (g := J6) (o := .cells #[.int .i64 a1_0, .int .i64 a1_1, .slice A1_2 l1_2.length c1_2, .int .i64 a1_3, .int .i64 a1_4, .slice A1_5 l1_5.length c1_5, .slice A1_6 l1_6.length c1_6, .slice A1_7 l1_7.length c1_7] 30 (0, 0)) (by (with_reducible repeat (first | refine blk_drewN ?_ _ | refine blk_drew ?_ | refine blk_alloc ?_ _)); exact J2.out) hb); have n2_ := Aside0.mk (below_step (by repeat (first | (with_reducible first | exact HB.out | apply below_alloc | apply pw_below_drewN | apply below_drew1 | refine below_set ?_ J9.out | refine below_set ?_ Js.out) | exact HB.out)) hb); clear J0; clear J2; clear HB; have J0 := n0_; have J2 := n1_; have HB := n2_; clear n0_ n1_ n2_; (try clear hb); (try clear hb2); (try clear hk); (try clear hi)))
          go_ret
          exact ⟨by first | rfl | (simp [errW_none, errW_some] <;> rfl) | (simp [*, errW_none, errW_some] <;> rfl), by repeat (first | (with_reducible first | exact HB.out | apply below_alloc | apply pw_below_drewN | apply below_drew1 | refine below_set ?_ J9.out | refine below_set ?_ Js.out) | exact HB.out)⟩
        · replace c8 := Bool.eq_false_iff.mpr c8
          subst c8
          have H1 : (some false) = some r := by rw [if_neg (show ¬ (false = true) by decide)] at H; exact H
          clear H
          have H := H1
          clear H1
          obtain rfl := Option.some.inj H
          go_enter Try.func13, Try.ntmps13
          go_wp2_with (first | ((with_reducible refine gate_dst (N := 2) rfl ?_); refine box_event ?hg (N := 2) ?hd (cs := #[.int .i64 a0_0, .int .i64 a0_1, .slice A0_2 l0_2.length c0_2, .int .i64 a0_3, .int .i64 a0_4, .slice A0_5 l0_5.length c0_5, .slice A0_6 l0_6.length c0_6, .slice A0_7 l0_7.length c0_7]) (t := 30) ?hr ?_; (case hd => rfl); (case hg => rfl); (case hr => first | (go_simp; done) | (go_simp; rfl)); intro J4 hg w18 hbox hb; have n0_ := Aside0.mk (below_step bo hb); have n1_ := Aside0.mk (hbox); have n2_ := Aside0.mk ((by rw [hg]; exact (below_size bo) : w.heap.size ≤ J4)); have n3_ := Aside0.mk ((by rw [hg]; exact (below_size bo) : w.heap.size ≤ J4)); clear HB; have HB := n0_; have J0 := n1_; have Jv := n2_; have J9 := n3_; clear n0_ n1_ n2_ n3_; clear hb hbox hg) | ((with_reducible refine gate_dst (N := 3) rfl ?_); refine box_event ?hg (N := 3) ?hd (cs := #[.int .i64 a1_0, .int .i64 a1_1, .slice A1_2 l1_2.length c1_2, .int .i64 a1_3, .int .i64 a1_4, .slice A1_5 l1_5.length c1_5, .slice A1_6 l1_6.length c1_6, .slice A1_7 l1_7.length c1_7]) (t := 30) ?hr ?_; (case hd => rfl); (case hg => rfl); (case hr => first | (go_simp; done) | (go_simp; rfl)); intro J6 hg w19 hbox hb; have n0_ := Aside0.mk (blk_below (g := J4) (o := .cells #[.int .i64 a0_0, .int .i64 a0_1, .slice A0_2 l0_2.length c0_2, .int .i64 a0_3, .int .i64 a0_4, .slice A0_5 l0_5.length c0_5, .slice A0_6 l0_6.length c0_6, .slice A0_7 l0_7.length c0_7] 30 (0, 0)) (by (with_reducible repeat (first | refine blk_drewN ?_ _ | refine blk_drew ?_ | refine blk_alloc ?_ _)); exact J0.out) hb); have n1_ := Aside0.mk (below_step (by repeat (first | (with_reducible first | exact HB.out | apply below_alloc | apply pw_below_drewN | apply below_drew1 | refine below_set ?_ J9.out) | exact HB.out)) hb); have n2_ := Aside0.mk (hbox); have n3_ := Aside0.mk ((by rw [hg]; exact (below_size (by repeat (first | (with_reducible first | exact HB.out | apply below_alloc | apply pw_below_drewN | apply below_drew1 | refine below_set ?_ J9.out) | exact HB.out))) : w.heap.size ≤ J6)); have n4_ := Aside0.mk ((by rw [hg]; exact (below_size (by repeat (first | (with_reducible first | exact HB.out | apply below_alloc | apply pw_below_drewN | apply below_drew1 | refine below_set ?_ J9.out) | exact HB.out))) : w.heap.size ≤ J6)); have n5_ := Aside0.mk ((by rw [hg]; exact Nat.ne_of_lt (blk_lt (g := J4) (o := .cells #[.int .i64 a0_0, .int .i64 a0_1, .slice A0_2 l0_2.length c0_2, .int .i64 a0_3, .int .i64 a0_4, .slice A0_5 l0_5.length c0_5, .slice A0_6 l0_6.length c0_6, .slice A0_7 l0_7.length c0_7] 30 (0, 0)) (by (with_reducible repeat (first | refine blk_drewN ?_ _ | refine blk_drew ?_ | refine blk_alloc ?_ _)); exact J0.out)) : J4 ≠ J6)); have n6_ := Aside0.mk ((by rw [hg]; exact Nat.ne_of_gt (blk_lt (g := J4) (o := .cells #[.int .i64 a0_0, .int .i64 a0_1, .slice A0_2 l0_2.length c0_2, .int .i64 a0_3, .int .i64 a0_4, .slice A0_5 l0_5.length c0_5, .slice A0_6 l0_6.length c0_6, .slice A0_7 l0_7.length c0_7] 30 (0, 0)) (by (with_reducible repeat (first | refine blk_drewN ?_ _ | refine blk_drew ?_ | refine blk_alloc ?_ _)); exact J0.out)) : J6 ≠ J4)); clear J0; clear HB; have J0 := n0_; have HB := n1_; have J2 := n2_; have Jw := n3_; have Js := n4_; have Jd := n5_; have Je := n6_; clear n0_ n1_ n2_ n3_ n4_ n5_ n6_; clear hb hbox hg; have hnb20 := Jd.out; have hnc20 := Je.out; have Un : w19.cell? ⟨J4, 0, none⟩ = some (.int .i64 a0_0) := (blk_cell J0.out 0).trans rfl; have Uo : w19.cell? ⟨J4, 1, none⟩ = some (.int .i64 a0_1) := (blk_cell J0.out 1).trans rfl; have Up : w19.cell? ⟨J4, 2, none⟩ = some (.slice A0_2 l0_2.length c0_2) := (blk_cell J0.out 2).trans rfl; have Uq : w19.cell? ⟨J4, 3, none⟩ = some (.int .i64 a0_3) := (blk_cell J0.out 3).trans rfl; have Ur : w19.cell? ⟨J4, 4, none⟩ = some (.int .i64 a0_4) := (blk_cell J0.out 4).trans rfl; have Us : w19.cell? ⟨J4, 5, none⟩ = some (.slice A0_5 l0_5.length c0_5) := (blk_cell J0.out 5).trans rfl; have Ut : w19.cell? ⟨J4, 6, none⟩ = some (.slice A0_6 l0_6.length c0_6) := (blk_cell J0.out 6).trans rfl; have Uu : w19.cell? ⟨J4, 7, none⟩ = some (.slice A0_7 l0_7.length c0_7) := (blk_cell J0.out 7).trans rfl; have Uv := blk_frozen J0.out 0; have Uw := blk_frozen J0.out 1; have Ux := blk_frozen J0.out 2; have Uy := blk_frozen J0.out 3; have Uz := blk_frozen J0.out 4; have UA := blk_frozen J0.out 5; have UB := blk_frozen J0.out 6; have UC := blk_frozen J0.out 7; have UD : w19.cell? ⟨J6, 0, none⟩ = some (.int .i64 a1_0) := (blk_cell J2.out 0).trans rfl; have UE : w19.cell? ⟨J6, 1, none⟩ = some (.int .i64 a1_1) := (blk_cell J2.out 1).trans rfl; have UF : w19.cell? ⟨J6, 2, none⟩ = some (.slice A1_2 l1_2.length c1_2) := (blk_cell J2.out 2).trans rfl; have UG : w19.cell? ⟨J6, 3, none⟩ = some (.int .i64 a1_3) := (blk_cell J2.out 3).trans rfl; have UH : w19.cell? ⟨J6, 4, none⟩ = some (.int .i64 a1_4) := (blk_cell J2.out 4).trans rfl; have UI : w19.cell? ⟨J6, 5, none⟩ = some (.slice A1_5 l1_5.length c1_5) := (blk_cell J2.out 5).trans rfl; have UJ : w19.cell? ⟨J6, 6, none⟩ = some (.slice A1_6 l1_6.length c1_6) := (blk_cell J2.out 6).trans rfl; have UK : w19.cell? ⟨J6, 7, none⟩ = some (.slice A1_7 l1_7.length c1_7) := (blk_cell J2.out 7).trans rfl; have UL := blk_frozen J2.out 0; have UM := blk_frozen J2.out 1; have UN := blk_frozen J2.out 2; have UO := blk_frozen J2.out 3; have UP := blk_frozen J2.out 4; have UQ := blk_frozen J2.out 5; have UR := blk_frozen J2.out 6; have US := blk_frozen J2.out 7) | ((with_reducible refine gate_callee (f := 14) rfl ?_); refine goesL_ (some 19) rfl rfl Try.func14 (by kernel_rfl) rfl #[.slice A0_2 l0_2.length c0_2, .slice A1_2 l1_2.length c1_2] rfl (by (try simp only [List.map_toArray, List.map_cons, List.map_nil]); first | done | rfl | (simp only [List.length_drop, List.length_take]; rfl)) ?_; (with_reducible refine (laws_eqCellS.calls k _ _ l0_2 _ _ l1_2 true _ ?side1 ?side2 ?side3 ?side4 A5.out).mono ?_); (case side1 => repeat (first | exact (Kd.C_below HR0_2.out HB.out) | (with_reducible refine Kd.C_alloc ?_ _) | (with_reducible refine Kd.C_drewN ?_ _) | (with_reducible refine Kd.C_drew ?_))); (case side2 => exact HC0_2.out); (case side3 => repeat (first | exact (Kd.C_below HR1_2.out HB.out) | (with_reducible refine Kd.C_alloc ?_ _) | (with_reducible refine Kd.C_drewN ?_ _) | (with_reducible refine Kd.C_drew ?_))); (case side4 => exact HC1_2.out); rintro e w23 ⟨rfl, hb⟩; refine ⟨_, rfl, ?_⟩; have n0_ := Aside0.mk (blk_below (g := J4) (o := .cells #[.int .i64 a0_0, .int .i64 a0_1, .slice A0_2 l0_2.length c0_2, .int .i64 a0_3, .int .i64 a0_4, .slice A0_5 l0_5.length c0_5, .slice A0_6 l0_6.length c0_6, .slice A0_7 l0_7.length c0_7] 30 (0, 0)) (by (with_reducible repeat (first | refine blk_drewN ?_ _ | refine blk_drew ?_ | refine blk_alloc ?_ _)); exact J0.out) hb); have n1_ := Aside0.mk (blk_below (g := J6) (o := .cells #[.int .i64 a1_0, .int .i64 a1_1, .slice A1_2 l1_2.length c1_2, .int .i64 a1_3, .int .i64 a1_4, .slice A1_5 l1_5.length c1_5, .slice A1_6 l1_6.length c1_6, .slice A1_7 l1_7.length c1_7] 30 (0, 0)) (by (with_reducible repeat (first | refine blk_drewN ?_ _ | refine blk_drew ?_ | refine blk_alloc ?_ _)); exact J2.out) hb); have n2_ := Aside0.mk (below_step (by repeat (first | (with_reducible first | exact HB.out | apply below_alloc | apply pw_below_drewN | apply below_drew1 | refine below_set ?_ J9.out | refine below_set ?_ Js.out) | exact HB.out)) hb); clear J0; clear J2; clear HB; have J0 := n0_; have J2 := n1_; have HB := n2_; clear n0_ n1_ n2_; (try clear hb); (try clear hb2); (try clear hk); (try clear hi); have JH : w23.cell? ⟨J4, 0, none⟩ = some (.int .i64 a0_0) := (blk_cell J0.out 0).trans rfl; have JI : w23.cell? ⟨J4, 1, none⟩ = some (.int .i64 a0_1) := (blk_cell J0.out 1).trans rfl; have JJ : w23.cell? ⟨J4, 2, none⟩ = some (.slice A0_2 l0_2.length c0_2) := (blk_cell J0.out 2).trans rfl; have JK : w23.cell? ⟨J4, 3, none⟩ = some (.int .i64 a0_3) := (blk_cell J0.out 3).trans rfl; have JL : w23.cell? ⟨J4, 4, none⟩ = some (.int .i64 a0_4) := (blk_cell J0.out 4).trans rfl; have UT : w23.cell? ⟨J4, 5, none⟩ = some (.slice A0_5 l0_5.length c0_5) := (blk_cell J0.out 5).trans rfl; have UU : w23.cell? ⟨J4, 6, none⟩ = some (.slice A0_6 l0_6.length c0_6) := (blk_cell J0.out 6).trans rfl; have UV : w23.cell? ⟨J4, 7, none⟩ = some (.slice A0_7 l0_7.length c0_7) := (blk_cell J0.out 7).trans rfl; have JM := blk_frozen J0.out 0; have JN := blk_frozen J0.out 1; have JO := blk_frozen J0.out 2; have JP := blk_frozen J0.out 3; have JQ := blk_frozen J0.out 4; have UW := blk_frozen J0.out 5; have UX := blk_frozen J0.out 6; have UY := blk_frozen J0.out 7; have UZ : w23.cell? ⟨J6, 0, none⟩ = some (.int .i64 a1_0) := (blk_cell J2.out 0).trans rfl; have V0 : w23.cell? ⟨J6, 1, none⟩ = some (.int .i64 a1_1) := (blk_cell J2.out 1).trans rfl; have V1 : w23.cell? ⟨J6, 2, none⟩ = some (.slice A1_2 l1_2.length c1_2) := (blk_cell J2.out 2).trans rfl; have V2 : w23.cell? ⟨J6, 3, none⟩ = some (.int .i64 a1_3) := (blk_cell J2.out 3).trans rfl; have V3 : w23.cell? ⟨J6, 4, none⟩ = some (.int .i64 a1_4) := (blk_cell J2.out 4).trans rfl; have V4 : w23.cell? ⟨J6, 5, none⟩ = some (.slice A1_5 l1_5.length c1_5) := (blk_cell J2.out 5).trans rfl; have V5 : w23.cell? ⟨J6, 6, none⟩ = some (.slice A1_6 l1_6.length c1_6) := (blk_cell J2.out 6).trans rfl; have V6 : w23.cell? ⟨J6, 7, none⟩ = some (.slice A1_7 l1_7.length c1_7) := (blk_cell J2.out 7).trans rfl; have V7 := blk_frozen J2.out 0; have V8 := blk_frozen J2.out 1; have V9 := blk_frozen J2.out 2; have Va := blk_frozen J2.out 3; have Vb := blk_frozen J2.out 4; have Vc := blk_frozen J2.out 5; have Vd := blk_frozen J2.out 6; have Ve := blk_frozen J2.out 7) | ((with_reducible refine gate_callee (f := 22) rfl ?_); refine goesL_ (some 25) rfl rfl Try.func22 (by kernel_rfl) rfl #[.agg #[.int .i64 a0_3, .int .i64 a0_4, .slice A0_5 l0_5.length c0_5, .slice A0_6 l0_6.length c0_6, .slice A0_7 l0_7.length c0_7], .agg #[.int .i64 a1_3, .int .i64 a1_4, .slice A1_5 l1_5.length c1_5, .slice A1_6 l1_6.length c1_6, .slice A1_7 l1_7.length c1_7]] rfl (by (try simp only [List.map_toArray, List.map_cons, List.map_nil]); first | done | rfl | (simp only [List.length_drop, List.length_take]; rfl)) ?_; (with_reducible refine (laws_eqCopies.calls k a0_3 a0_4 _ _ l0_5 _ _ l0_6 _ _ l0_7 a1_3 a1_4 _ _ l1_5 _ _ l1_6 _ _ l1_7 false _ ?side1 ?side2 ?side3 ?side4 ?side5 ?side6 ?side7 ?side8 ?side9 ?side10 ?side11 ?side12 A7.out).mono ?_); (case side1 => repeat (first | exact (Kd.C_below HR0_5.out HB.out) | (with_reducible refine Kd.C_alloc ?_ _) | (with_reducible refine Kd.C_drewN ?_ _) | (with_reducible refine Kd.C_drew ?_))); (case side2 => exact HC0_5.out); (case side3 => repeat (first | exact (Kd.C_below HR0_6.out HB.out) | (with_reducible refine Kd.C_alloc ?_ _) | (with_reducible refine Kd.C_drewN ?_ _) | (with_reducible refine Kd.C_drew ?_))); (case side4 => exact HC0_6.out); (case side5 => repeat (first | exact (Kd.C_below HR0_7.out HB.out) | (with_reducible refine Kd.C_alloc ?_ _) | (with_reducible refine Kd.C_drewN ?_ _) | (with_reducible refine Kd.C_drew ?_))); (case side6 => exact HC0_7.out); (case side7 => repeat (first | exact (Kd.C_below HR1_5.out HB.out) | (with_reducible refine Kd.C_alloc ?_ _) | (with_reducible refine Kd.C_drewN ?_ _) | (with_reducible refine Kd.C_drew ?_))); (case side8 => exact HC1_5.out); (case side9 => repeat (first | exact (Kd.C_below HR1_6.out HB.out) | (with_reducible refine Kd.C_alloc ?_ _) | (with_reducible refine Kd.C_drewN ?_ _) | (with_reducible refine Kd.C_drew ?_))); (case side10 => exact HC1_6.out); (case side11 => repeat (first | exact (Kd.C_below HR1_7.out HB.out) | (with_reducible refine Kd.C_alloc ?_ _) | (with_reducible refine Kd.C_drewN ?_ _) | (with_reducible refine Kd.C_drew ?_))); (case side12 => exact HC1_7.out); rintro e w26 ⟨rfl, hb⟩; refine ⟨_, rfl, ?_⟩; have n0_ := Aside0.mk (blk_below (g := J4) (o := .cells #[.int .i64 a0_0, .int .i64 a0_1, .slice A0_2 l0_2.length c0_2, .int .i64 a0_3, .int .i64 a0_4, .slice A0_5 l0_5.length c0_5, .slice A0_6 l0_6.length c0_6, .slice A0_7 l0_7.length c0_7] 30 (0, 0)) (by (with_reducible repeat (first | refine blk_drewN ?_ _ | refine blk_drew ?_ | refine blk_alloc ?_ _)); exact J0.out) hb); have n1_ := Aside0.mk (blk_below (g := J6) (o := .cells #[.int .i64 a1_0, .int .i64 a1_1, .slice A1_2 l1_2.length c1_2, .int .i64 a1_3, .int .i64 a1_4, .slice A1_5 l1_5.length c1_5, .slice A1_6 l1_6.length c1_6, .slice A1_7 l1_7.length c1_7] 30 (0, 0)) (by (with_reducible repeat (first | refine blk_drewN ?_ _ | refine blk_drew ?_ | refine blk_alloc ?_ _)); exact J2.out) hb); have n2_ := Aside0.mk (below_step (by repeat (first | (with_reducible first | exact HB.out | apply below_alloc | apply pw_below_drewN | apply below_drew1 | refine below_set ?_ J9.out | refine below_set ?_ Js.out) | exact HB.out)) hb); clear J0; clear J2; clear HB; have J0 := n0_; have J2 := n1_; have HB := n2_; clear n0_ n1_ n2_; (try clear hb); (try clear hb2); (try clear hk); (try clear hi)))
          go_ret
          exact ⟨by first | rfl | (simp [errW_none, errW_some] <;> rfl) | (simp [*, errW_none, errW_some] <;> rfl), by repeat (first | (with_reducible first | exact HB.out | apply below_alloc | apply pw_below_drewN | apply below_drew1 | refine below_set ?_ J9.out | refine below_set ?_ Js.out) | exact HB.out)⟩
      · replace c6 := Bool.eq_false_iff.mpr c6
        subst c6
        have H1 : (some false) = some r := by rw [if_neg (show ¬ (false = true) by decide)] at H; exact H
        clear H
        have H := H1
        clear H1
        obtain rfl := Option.some.inj H
        go_enter Try.func13, Try.ntmps13
        go_wp2_with (first | ((with_reducible refine gate_dst (N := 2) rfl ?_); refine box_event ?hg (N := 2) ?hd (cs := #[.int .i64 a0_0, .int .i64 a0_1, .slice A0_2 l0_2.length c0_2, .int .i64 a0_3, .int .i64 a0_4, .slice A0_5 l0_5.length c0_5, .slice A0_6 l0_6.length c0_6, .slice A0_7 l0_7.length c0_7]) (t := 30) ?hr ?_; (case hd => rfl); (case hg => rfl); (case hr => first | (go_simp; done) | (go_simp; rfl)); intro J4 hg w27 hbox hb; have n0_ := Aside0.mk (below_step bo hb); have n1_ := Aside0.mk (hbox); have n2_ := Aside0.mk ((by rw [hg]; exact (below_size bo) : w.heap.size ≤ J4)); have n3_ := Aside0.mk ((by rw [hg]; exact (below_size bo) : w.heap.size ≤ J4)); clear HB; have HB := n0_; have J0 := n1_; have Jv := n2_; have J9 := n3_; clear n0_ n1_ n2_ n3_; clear hb hbox hg) | ((with_reducible refine gate_dst (N := 3) rfl ?_); refine box_event ?hg (N := 3) ?hd (cs := #[.int .i64 a1_0, .int .i64 a1_1, .slice A1_2 l1_2.length c1_2, .int .i64 a1_3, .int .i64 a1_4, .slice A1_5 l1_5.length c1_5, .slice A1_6 l1_6.length c1_6, .slice A1_7 l1_7.length c1_7]) (t := 30) ?hr ?_; (case hd => rfl); (case hg => rfl); (case hr => first | (go_simp; done) | (go_simp; rfl)); intro J6 hg w28 hbox hb; have n0_ := Aside0.mk (blk_below (g := J4) (o := .cells #[.int .i64 a0_0, .int .i64 a0_1, .slice A0_2 l0_2.length c0_2, .int .i64 a0_3, .int .i64 a0_4, .slice A0_5 l0_5.length c0_5, .slice A0_6 l0_6.length c0_6, .slice A0_7 l0_7.length c0_7] 30 (0, 0)) (by (with_reducible repeat (first | refine blk_drewN ?_ _ | refine blk_drew ?_ | refine blk_alloc ?_ _)); exact J0.out) hb); have n1_ := Aside0.mk (below_step (by repeat (first | (with_reducible first | exact HB.out | apply below_alloc | apply pw_below_drewN | apply below_drew1 | refine below_set ?_ J9.out) | exact HB.out)) hb); have n2_ := Aside0.mk (hbox); have n3_ := Aside0.mk ((by rw [hg]; exact (below_size (by repeat (first | (with_reducible first | exact HB.out | apply below_alloc | apply pw_below_drewN | apply below_drew1 | refine below_set ?_ J9.out) | exact HB.out))) : w.heap.size ≤ J6)); have n4_ := Aside0.mk ((by rw [hg]; exact (below_size (by repeat (first | (with_reducible first | exact HB.out | apply below_alloc | apply pw_below_drewN | apply below_drew1 | refine below_set ?_ J9.out) | exact HB.out))) : w.heap.size ≤ J6)); have n5_ := Aside0.mk ((by rw [hg]; exact Nat.ne_of_lt (blk_lt (g := J4) (o := .cells #[.int .i64 a0_0, .int .i64 a0_1, .slice A0_2 l0_2.length c0_2, .int .i64 a0_3, .int .i64 a0_4, .slice A0_5 l0_5.length c0_5, .slice A0_6 l0_6.length c0_6, .slice A0_7 l0_7.length c0_7] 30 (0, 0)) (by (with_reducible repeat (first | refine blk_drewN ?_ _ | refine blk_drew ?_ | refine blk_alloc ?_ _)); exact J0.out)) : J4 ≠ J6)); have n6_ := Aside0.mk ((by rw [hg]; exact Nat.ne_of_gt (blk_lt (g := J4) (o := .cells #[.int .i64 a0_0, .int .i64 a0_1, .slice A0_2 l0_2.length c0_2, .int .i64 a0_3, .int .i64 a0_4, .slice A0_5 l0_5.length c0_5, .slice A0_6 l0_6.length c0_6, .slice A0_7 l0_7.length c0_7] 30 (0, 0)) (by (with_reducible repeat (first | refine blk_drewN ?_ _ | refine blk_drew ?_ | refine blk_alloc ?_ _)); exact J0.out)) : J6 ≠ J4)); clear J0; clear HB; have J0 := n0_; have HB := n1_; have J2 := n2_; have Jw := n3_; have Js := n4_; have Jd := n5_; have Je := n6_; clear n0_ n1_ n2_ n3_ n4_ n5_ n6_; clear hb hbox hg; have hnb29 := Jd.out; have hnc29 := Je.out; have Vf : w28.cell? ⟨J4, 0, none⟩ = some (.int .i64 a0_0) := (blk_cell J0.out 0).trans rfl; have Vg : w28.cell? ⟨J4, 1, none⟩ = some (.int .i64 a0_1) := (blk_cell J0.out 1).trans rfl; have Vh : w28.cell? ⟨J4, 2, none⟩ = some (.slice A0_2 l0_2.length c0_2) := (blk_cell J0.out 2).trans rfl; have Vi : w28.cell? ⟨J4, 3, none⟩ = some (.int .i64 a0_3) := (blk_cell J0.out 3).trans rfl; have Vj : w28.cell? ⟨J4, 4, none⟩ = some (.int .i64 a0_4) := (blk_cell J0.out 4).trans rfl; have Vk : w28.cell? ⟨J4, 5, none⟩ = some (.slice A0_5 l0_5.length c0_5) := (blk_cell J0.out 5).trans rfl; have Vl : w28.cell? ⟨J4, 6, none⟩ = some (.slice A0_6 l0_6.length c0_6) := (blk_cell J0.out 6).trans rfl; have Vm : w28.cell? ⟨J4, 7, none⟩ = some (.slice A0_7 l0_7.length c0_7) := (blk_cell J0.out 7).trans rfl; have Vn := blk_frozen J0.out 0; have Vo := blk_frozen J0.out 1; have Vp := blk_frozen J0.out 2; have Vq := blk_frozen J0.out 3; have Vr := blk_frozen J0.out 4; have Vs := blk_frozen J0.out 5; have Vt := blk_frozen J0.out 6; have Vu := blk_frozen J0.out 7; have Vv : w28.cell? ⟨J6, 0, none⟩ = some (.int .i64 a1_0) := (blk_cell J2.out 0).trans rfl; have Vw : w28.cell? ⟨J6, 1, none⟩ = some (.int .i64 a1_1) := (blk_cell J2.out 1).trans rfl; have Vx : w28.cell? ⟨J6, 2, none⟩ = some (.slice A1_2 l1_2.length c1_2) := (blk_cell J2.out 2).trans rfl; have Vy : w28.cell? ⟨J6, 3, none⟩ = some (.int .i64 a1_3) := (blk_cell J2.out 3).trans rfl; have Vz : w28.cell? ⟨J6, 4, none⟩ = some (.int .i64 a1_4) := (blk_cell J2.out 4).trans rfl; have VA : w28.cell? ⟨J6, 5, none⟩ = some (.slice A1_5 l1_5.length c1_5) := (blk_cell J2.out 5).trans rfl; have VB : w28.cell? ⟨J6, 6, none⟩ = some (.slice A1_6 l1_6.length c1_6) := (blk_cell J2.out 6).trans rfl; have VC : w28.cell? ⟨J6, 7, none⟩ = some (.slice A1_7 l1_7.length c1_7) := (blk_cell J2.out 7).trans rfl; have VD := blk_frozen J2.out 0; have VE := blk_frozen J2.out 1; have VF := blk_frozen J2.out 2; have VG := blk_frozen J2.out 3; have VH := blk_frozen J2.out 4; have VI := blk_frozen J2.out 5; have VJ := blk_frozen J2.out 6; have VK := blk_frozen J2.out 7) | ((with_reducible refine gate_callee (f := 14) rfl ?_); refine goesL_ (some 19) rfl rfl Try.func14 (by kernel_rfl) rfl #[.slice A0_2 l0_2.length c0_2, .slice A1_2 l1_2.length c1_2] rfl (by (try simp only [List.map_toArray, List.map_cons, List.map_nil]); first | done | rfl | (simp only [List.length_drop, List.length_take]; rfl)) ?_; (with_reducible refine (laws_eqCellS.calls k _ _ l0_2 _ _ l1_2 false _ ?side1 ?side2 ?side3 ?side4 A5.out).mono ?_); (case side1 => repeat (first | exact (Kd.C_below HR0_2.out HB.out) | (with_reducible refine Kd.C_alloc ?_ _) | (with_reducible refine Kd.C_drewN ?_ _) | (with_reducible refine Kd.C_drew ?_))); (case side2 => exact HC0_2.out); (case side3 => repeat (first | exact (Kd.C_below HR1_2.out HB.out) | (with_reducible refine Kd.C_alloc ?_ _) | (with_reducible refine Kd.C_drewN ?_ _) | (with_reducible refine Kd.C_drew ?_))); (case side4 => exact HC1_2.out); rintro e w32 ⟨rfl, hb⟩; refine ⟨_, rfl, ?_⟩; have n0_ := Aside0.mk (blk_below (g := J4) (o := .cells #[.int .i64 a0_0, .int .i64 a0_1, .slice A0_2 l0_2.length c0_2, .int .i64 a0_3, .int .i64 a0_4, .slice A0_5 l0_5.length c0_5, .slice A0_6 l0_6.length c0_6, .slice A0_7 l0_7.length c0_7] 30 (0, 0)) (by (with_reducible repeat (first | refine blk_drewN ?_ _ | refine blk_drew ?_ | refine blk_alloc ?_ _)); exact J0.out) hb); have n1_ := Aside0.mk (blk_below (g := J6) (o := .cells #[.int .i64 a1_0, .int .i64 a1_1, .slice A1_2 l1_2.length c1_2, .int .i64 a1_3, .int .i64 a1_4, .slice A1_5 l1_5.length c1_5, .slice A1_6 l1_6.length c1_6, .slice A1_7 l1_7.length c1_7] 30 (0, 0)) (by (with_reducible repeat (first | refine blk_drewN ?_ _ | refine blk_drew ?_ | refine blk_alloc ?_ _)); exact J2.out) hb); have n2_ := Aside0.mk (below_step (by repeat (first | (with_reducible first | exact HB.out | apply below_alloc | apply pw_below_drewN | apply below_drew1 | refine below_set ?_ J9.out | refine below_set ?_ Js.out) | exact HB.out)) hb); clear J0; clear J2; clear HB; have J0 := n0_; have J2 := n1_; have HB := n2_; clear n0_ n1_ n2_; (try clear hb); (try clear hb2); (try clear hk); (try clear hi)))
        go_ret
        exact ⟨by first | rfl | (simp [errW_none, errW_some] <;> rfl) | (simp [*, errW_none, errW_some] <;> rfl), by repeat (first | (with_reducible first | exact HB.out | apply below_alloc | apply pw_below_drewN | apply below_drew1 | refine below_set ?_ J9.out | refine below_set ?_ Js.out) | exact HB.out)⟩
    · rw [if_neg c4] at H
      have c4b0 : (a0_1 == a1_1) = false := beq_eq_false_iff_ne.mpr c4
      have c4b1 : (a0_1 != a1_1) = true := bne_iff_ne.mpr c4
      obtain rfl := Option.some.inj H
      go_enter Try.func13, Try.ntmps13
      go_wp2_with (first | ((with_reducible refine gate_dst (N := 2) rfl ?_); refine box_event ?hg (N := 2) ?hd (cs := #[.int .i64 a0_0, .int .i64 a0_1, .slice A0_2 l0_2.length c0_2, .int .i64 a0_3, .int .i64 a0_4, .slice A0_5 l0_5.length c0_5, .slice A0_6 l0_6.length c0_6, .slice A0_7 l0_7.length c0_7]) (t := 30) ?hr ?_; (case hd => rfl); (case hg => rfl); (case hr => first | (go_simp; done) | (go_simp; rfl)); intro J4 hg w33 hbox hb; have n0_ := Aside0.mk (below_step bo hb); have n1_ := Aside0.mk (hbox); have n2_ := Aside0.mk ((by rw [hg]; exact (below_size bo) : w.heap.size ≤ J4)); have n3_ := Aside0.mk ((by rw [hg]; exact (below_size bo) : w.heap.size ≤ J4)); clear HB; have HB := n0_; have J0 := n1_; have Jv := n2_; have J9 := n3_; clear n0_ n1_ n2_ n3_; clear hb hbox hg) | ((with_reducible refine gate_dst (N := 3) rfl ?_); refine box_event ?hg (N := 3) ?hd (cs := #[.int .i64 a1_0, .int .i64 a1_1, .slice A1_2 l1_2.length c1_2, .int .i64 a1_3, .int .i64 a1_4, .slice A1_5 l1_5.length c1_5, .slice A1_6 l1_6.length c1_6, .slice A1_7 l1_7.length c1_7]) (t := 30) ?hr ?_; (case hd => rfl); (case hg => rfl); (case hr => first | (go_simp; done) | (go_simp; rfl)); intro J6 hg w34 hbox hb; have n0_ := Aside0.mk (blk_below (g := J4) (o := .cells #[.int .i64 a0_0, .int .i64 a0_1, .slice A0_2 l0_2.length c0_2, .int .i64 a0_3, .int .i64 a0_4, .slice A0_5 l0_5.length c0_5, .slice A0_6 l0_6.length c0_6, .slice A0_7 l0_7.length c0_7] 30 (0, 0)) (by (with_reducible repeat (first | refine blk_drewN ?_ _ | refine blk_drew ?_ | refine blk_alloc ?_ _)); exact J0.out) hb); have n1_ := Aside0.mk (below_step (by repeat (first | (with_reducible first | exact HB.out | apply below_alloc | apply pw_below_drewN | apply below_drew1 | refine below_set ?_ J9.out) | exact HB.out)) hb); have n2_ := Aside0.mk (hbox); have n3_ := Aside0.mk ((by rw [hg]; exact (below_size (by repeat (first | (with_reducible first | exact HB.out | apply below_alloc | apply pw_below_drewN | apply below_drew1 | refine below_set ?_ J9.out) | exact HB.out))) : w.heap.size ≤ J6)); have n4_ := Aside0.mk ((by rw [hg]; exact (below_size (by repeat (first | (with_reducible first | exact HB.out | apply below_alloc | apply pw_below_drewN | apply below_drew1 | refine below_set ?_ J9.out) | exact HB.out))) : w.heap.size ≤ J6)); have n5_ := Aside0.mk ((by rw [hg]; exact Nat.ne_of_lt (blk_lt (g := J4) (o := .cells #[.int .i64 a0_0, .int .i64 a0_1, .slice A0_2 l0_2.length c0_2, .int .i64 a0_3, .int .i64 a0_4, .slice A0_5 l0_5.length c0_5, .slice A0_6 l0_6.length c0_6, .slice A0_7 l0_7.length c0_7] 30 (0, 0)) (by (with_reducible repeat (first | refine blk_drewN ?_ _ | refine blk_drew ?_ | refine blk_alloc ?_ _)); exact J0.out)) : J4 ≠ J6)); have n6_ := Aside0.mk ((by rw [hg]; exact Nat.ne_of_gt (blk_lt (g := J4) (o := .cells #[.int .i64 a0_0, .int .i64 a0_1, .slice A0_2 l0_2.length c0_2, .int .i64 a0_3, .int .i64 a0_4, .slice A0_5 l0_5.length c0_5, .slice A0_6 l0_6.length c0_6, .slice A0_7 l0_7.length c0_7] 30 (0, 0)) (by (with_reducible repeat (first | refine blk_drewN ?_ _ | refine blk_drew ?_ | refine blk_alloc ?_ _)); exact J0.out)) : J6 ≠ J4)); clear J0; clear HB; have J0 := n0_; have HB := n1_; have J2 := n2_; have Jw := n3_; have Js := n4_; have Jd := n5_; have Je := n6_; clear n0_ n1_ n2_ n3_ n4_ n5_ n6_; clear hb hbox hg; have hnb35 := Jd.out; have hnc35 := Je.out; have JR : w34.cell? ⟨J4, 0, none⟩ = some (.int .i64 a0_0) := (blk_cell J0.out 0).trans rfl; have JS : w34.cell? ⟨J4, 1, none⟩ = some (.int .i64 a0_1) := (blk_cell J0.out 1).trans rfl; have JT : w34.cell? ⟨J4, 2, none⟩ = some (.slice A0_2 l0_2.length c0_2) := (blk_cell J0.out 2).trans rfl; have JU : w34.cell? ⟨J4, 3, none⟩ = some (.int .i64 a0_3) := (blk_cell J0.out 3).trans rfl; have JV : w34.cell? ⟨J4, 4, none⟩ = some (.int .i64 a0_4) := (blk_cell J0.out 4).trans rfl; have VL : w34.cell? ⟨J4, 5, none⟩ = some (.slice A0_5 l0_5.length c0_5) := (blk_cell J0.out 5).trans rfl; have VM : w34.cell? ⟨J4, 6, none⟩ = some (.slice A0_6 l0_6.length c0_6) := (blk_cell J0.out 6).trans rfl; have VN : w34.cell? ⟨J4, 7, none⟩ = some (.slice A0_7 l0_7.length c0_7) := (blk_cell J0.out 7).trans rfl; have JW := blk_frozen J0.out 0; have JX := blk_frozen J0.out 1; have JY := blk_frozen J0.out 2; have JZ := blk_frozen J0.out 3; have K0 := blk_frozen J0.out 4; have VO := blk_frozen J0.out 5; have VP := blk_frozen J0.out 6; have VQ := blk_frozen J0.out 7; have VR : w34.cell? ⟨J6, 0, none⟩ = some (.int .i64 a1_0) := (blk_cell J2.out 0).trans rfl; have VS : w34.cell? ⟨J6, 1, none⟩ = some (.int .i64 a1_1) := (blk_cell J2.out 1).trans rfl; have VT : w34.cell? ⟨J6, 2, none⟩ = some (.slice A1_2 l1_2.length c1_2) := (blk_cell J2.out 2).trans rfl; have VU : w34.cell? ⟨J6, 3, none⟩ = some (.int .i64 a1_3) := (blk_cell J2.out 3).trans rfl; have VV : w34.cell? ⟨J6, 4, none⟩ = some (.int .i64 a1_4) := (blk_cell J2.out 4).trans rfl; have VW : w34.cell? ⟨J6, 5, none⟩ = some (.slice A1_5 l1_5.length c1_5) := (blk_cell J2.out 5).trans rfl; have VX : w34.cell? ⟨J6, 6, none⟩ = some (.slice A1_6 l1_6.length c1_6) := (blk_cell J2.out 6).trans rfl; have VY : w34.cell? ⟨J6, 7, none⟩ = some (.slice A1_7 l1_7.length c1_7) := (blk_cell J2.out 7).trans rfl; have VZ := blk_frozen J2.out 0; have W0 := blk_frozen J2.out 1; have W1 := blk_frozen J2.out 2; have W2 := blk_frozen J2.out 3; have W3 := blk_frozen J2.out 4; have W4 := blk_frozen J2.out 5; have W5 := blk_frozen J2.out 6; have W6 := blk_frozen J2.out 7))
      go_ret
      exact ⟨by first | rfl | (simp [errW_none, errW_some] <;> rfl) | (simp [*, errW_none, errW_some] <;> rfl), by repeat (first | (with_reducible first | exact HB.out | apply below_alloc | apply pw_below_drewN | apply below_drew1 | refine below_set ?_ J9.out | refine below_set ?_ Js.out) | exact HB.out)⟩
  · rw [if_neg c3] at H
    have c3b0 : (a0_0 == a1_0) = false := beq_eq_false_iff_ne.mpr c3
    have c3b1 : (a0_0 != a1_0) = true := bne_iff_ne.mpr c3
    obtain rfl := Option.some.inj H
    go_enter Try.func13, Try.ntmps13
    go_wp2_with (first | ((with_reducible refine gate_dst (N := 2) rfl ?_); refine box_event ?hg (N := 2) ?hd (cs := #[.int .i64 a0_0, .int .i64 a0_1, .slice A0_2 l0_2.length c0_2, .int .i64 a0_3, .int .i64 a0_4, .slice A0_5 l0_5.length c0_5, .slice A0_6 l0_6.length c0_6, .slice A0_7 l0_7.length c0_7]) (t := 30) ?hr ?_; (case hd => rfl); (case hg => rfl); (case hr => first | (go_simp; done) | (go_simp; rfl)); intro J4 hg w38 hbox hb; have n0_ := Aside0.mk (below_step bo hb); have n1_ := Aside0.mk (hbox); have n2_ := Aside0.mk ((by rw [hg]; exact (below_size bo) : w.heap.size ≤ J4)); have n3_ := Aside0.mk ((by rw [hg]; exact (below_size bo) : w.heap.size ≤ J4)); clear HB; have HB := n0_; have J0 := n1_; have Jv := n2_; have J9 := n3_; clear n0_ n1_ n2_ n3_; clear hb hbox hg) | ((with_reducible refine gate_dst (N := 3) rfl ?_); refine box_event ?hg (N := 3) ?hd (cs := #[.int .i64 a1_0, .int .i64 a1_1, .slice A1_2 l1_2.length c1_2, .int .i64 a1_3, .int .i64 a1_4, .slice A1_5 l1_5.length c1_5, .slice A1_6 l1_6.length c1_6, .slice A1_7 l1_7.length c1_7]) (t := 30) ?hr ?_; (case hd => rfl); (case hg => rfl); (case hr => first | (go_simp; done) | (go_simp; rfl)); intro J6 hg w39 hbox hb; have n0_ := Aside0.mk (blk_below (g := J4) (o := .cells #[.int .i64 a0_0, .int .i64 a0_1, .slice A0_2 l0_2.length c0_2, .int .i64 a0_3, .int .i64 a0_4, .slice A0_5 l0_5.length c0_5, .slice A0_6 l0_6.length c0_6, .slice A0_7 l0_7.length c0_7] 30 (0, 0)) (by (with_reducible repeat (first | refine blk_drewN ?_ _ | refine blk_drew ?_ | refine blk_alloc ?_ _)); exact J0.out) hb); have n1_ := Aside0.mk (below_step (by repeat (first | (with_reducible first | exact HB.out | apply below_alloc | apply pw_below_drewN | apply below_drew1 | refine below_set ?_ J9.out) | exact HB.out)) hb); have n2_ := Aside0.mk (hbox); have n3_ := Aside0.mk ((by rw [hg]; exact (below_size (by repeat (first | (with_reducible first | exact HB.out | apply below_alloc | apply pw_below_drewN | apply below_drew1 | refine below_set ?_ J9.out) | exact HB.out))) : w.heap.size ≤ J6)); have n4_ := Aside0.mk ((by rw [hg]; exact (below_size (by repeat (first | (with_reducible first | exact HB.out | apply below_alloc | apply pw_below_drewN | apply below_drew1 | refine below_set ?_ J9.out) | exact HB.out))) : w.heap.size ≤ J6)); have n5_ := Aside0.mk ((by rw [hg]; exact Nat.ne_of_lt (blk_lt (g := J4) (o := .cells #[.int .i64 a0_0, .int .i64 a0_1, .slice A0_2 l0_2.length c0_2, .int .i64 a0_3, .int .i64 a0_4, .slice A0_5 l0_5.length c0_5, .slice A0_6 l0_6.length c0_6, .slice A0_7 l0_7.length c0_7] 30 (0, 0)) (by (with_reducible repeat (first | refine blk_drewN ?_ _ | refine blk_drew ?_ | refine blk_alloc ?_ _)); exact J0.out)) : J4 ≠ J6)); have n6_ := Aside0.mk ((by rw [hg]; exact Nat.ne_of_gt (blk_lt (g := J4) (o := .cells #[.int .i64 a0_0, .int .i64 a0_1, .slice A0_2 l0_2.length c0_2, .int .i64 a0_3, .int .i64 a0_4, .slice A0_5 l0_5.length c0_5, .slice A0_6 l0_6.length c0_6, .slice A0_7 l0_7.length c0_7] 30 (0, 0)) (by (with_reducible repeat (first | refine blk_drewN ?_ _ | refine blk_drew ?_ | refine blk_alloc ?_ _)); exact J0.out)) : J6 ≠ J4)); clear J0; clear HB; have J0 := n0_; have HB := n1_; have J2 := n2_; have Jw := n3_; have Js := n4_; have Jd := n5_; have Je := n6_; clear n0_ n1_ n2_ n3_ n4_ n5_ n6_; clear hb hbox hg; have hnb40 := Jd.out; have hnc40 := Je.out; have K1 : w39.cell? ⟨J4, 0, none⟩ = some (.int .i64 a0_0) := (blk_cell J0.out 0).trans rfl; have K2 : w39.cell? ⟨J4, 1, none⟩ = some (.int .i64 a0_1) := (blk_cell J0.out 1).trans rfl; have K3 : w39.cell? ⟨J4, 2, none⟩ = some (.slice A0_2 l0_2.length c0_2) := (blk_cell J0.out 2).trans rfl; have K4 : w39.cell? ⟨J4, 3, none⟩ = some (.int .i64 a0_3) := (blk_cell J0.out 3).trans rfl; have K5 : w39.cell? ⟨J4, 4, none⟩ = some (.int .i64 a0_4) := (blk_cell J0.out 4).trans rfl; have W7 : w39.cell? ⟨J4, 5, none⟩ = some (.slice A0_5 l0_5.length c0_5) := (blk_cell J0.out 5).trans rfl; have W8 : w39.cell? ⟨J4, 6, none⟩ = some (.slice A0_6 l0_6.length c0_6) := (blk_cell J0.out 6).trans rfl; have W9 : w39.cell? ⟨J4, 7, none⟩ = some (.slice A0_7 l0_7.length c0_7) := (blk_cell J0.out 7).trans rfl; have K6 := blk_frozen J0.out 0; have K7 := blk_frozen J0.out 1; have K8 := blk_frozen J0.out 2; have K9 := blk_frozen J0.out 3; have Ka := blk_frozen J0.out 4; have Wa := blk_frozen J0.out 5; have Wb := blk_frozen J0.out 6; have Wc := blk_frozen J0.out 7; have Wd : w39.cell? ⟨J6, 0, none⟩ = some (.int .i64 a1_0) := (blk_cell J2.out 0).trans rfl; have We : w39.cell? ⟨J6, 1, none⟩ = some (.int .i64 a1_1) := (blk_cell J2.out 1).trans rfl; have Wf : w39.cell? ⟨J6, 2, none⟩ = some (.slice A1_2 l1_2.length c1_2) := (blk_cell J2.out 2).trans rfl; have Wg : w39.cell? ⟨J6, 3, none⟩ = some (.int .i64 a1_3) := (blk_cell J2.out 3).trans rfl; have Wh : w39.cell? ⟨J6, 4, none⟩ = some (.int .i64 a1_4) := (blk_cell J2.out 4).trans rfl; have Wi : w39.cell? ⟨J6, 5, none⟩ = some (.slice A1_5 l1_5.length c1_5) := (blk_cell J2.out 5).trans rfl; have Wj : w39.cell? ⟨J6, 6, none⟩ = some (.slice A1_6 l1_6.length c1_6) := (blk_cell J2.out 6).trans rfl; have Wk : w39.cell? ⟨J6, 7, none⟩ = some (.slice A1_7 l1_7.length c1_7) := (blk_cell J2.out 7).trans rfl; have Wl := blk_frozen J2.out 0; have Wm := blk_frozen J2.out 1; have Wn := blk_frozen J2.out 2; have Wo := blk_frozen J2.out 3; have Wp := blk_frozen J2.out 4; have Wq := blk_frozen J2.out 5; have Wr := blk_frozen J2.out 6; have Ws := blk_frozen J2.out 7))
    go_ret
    exact ⟨by first | rfl | (simp [errW_none, errW_some] <;> rfl) | (simp [*, errW_none, errW_some] <;> rfl), by repeat (first | (with_reducible first | exact HB.out | apply below_alloc | apply pw_below_drewN | apply below_drew1 | refine below_set ?_ J9.out | refine below_set ?_ Js.out) | exact HB.out)⟩

/-! ### laws_markCellS: function 15 -/
def laws_markCellS.l0 : Nat → List (S118) → Int → Int → Option (Int × (List (S118)))
  | 0, _, _, _ => none
  | k + 1, x0, x1, x5 => if x5 < (x0.length : Int) then (if 0 ≤ x5 then ((some (x0.set (x5 : Int).toNat (⟨x1, (rd_T118 x0 x5).f1⟩ : S118) : List (S118))).bind fun y249 => (laws_markCellS.l0 k (y249.set (x5 : Int).toNat (⟨(rd_T118 y249 x5).f0, wrap64 (x1 + 1)⟩ : S118)) (wrap64 ((wrap64 (x1 + 1)) + 1)) (wrap64 (x5 + 1)))) else (none)) else (some (x1, x0))
def laws_markCellS.f (k : Nat) (l0 : List (S118)) (a1 : Int) : Option (Int × (List (S118))) := laws_markCellS.l0 k l0 a1 0
theorem laws_markCellS.mono_l : ∀ k, (∀ y0 y1 y2, LeO (laws_markCellS.l0 k y0 y1 y2) (laws_markCellS.l0 (k + 1) y0 y1 y2))
  | 0 => fun _ _ _ r h => by simp [laws_markCellS.l0] at h
  | k + 1 => by
    have ih0 := laws_markCellS.mono_l k
    · intro y0 y1 y2
      unfold laws_markCellS.l0
      repeat' first
      | (with_reducible exact ih0 _ _ _)
      | (with_reducible exact LeO.refl _)
      | (with_reducible exact LeO.none _)
      | (with_reducible refine LeO.ite ?_ ?_)
      | (with_reducible refine LeO.bind ?_ (fun _ => ?_))
      | exact ih0 _ _ _
      | exact LeO.none _
      | refine LeO.ite ?_ ?_
      | refine LeO.bind ?_ (fun _ => ?_)
theorem laws_markCellS.mono : ∀ a0 a1 k, LeO (laws_markCellS.f k a0 a1) (laws_markCellS.f (k + 1) a0 a1) := by
  intro a0 a1 k
  have ih0 := laws_markCellS.mono_l k
  unfold laws_markCellS.f
  repeat' first
      | (with_reducible exact ih0 _ _ _)
      | (with_reducible exact LeO.refl _)
      | (with_reducible exact LeO.none _)
      | (with_reducible refine LeO.ite ?_ ?_)
      | (with_reducible refine LeO.bind ?_ (fun _ => ?_))
      | exact ih0 _ _ _
      | exact LeO.none _
      | refine LeO.ite ?_ ?_
      | refine LeO.bind ?_ (fun _ => ?_)
set_option maxHeartbeats 8000000 in
set_option maxRecDepth 100000 in
theorem laws_markCellS.calls (k : Nat) (P0_ : Nat → Prop) (u9000_ : Value) (l0 : List (S118)) (a1 : Int) (r1 : Int) (r2 : List (S118)) (w0 w : World) (hB : Below w0.heap.size w0 w) (ho0 : Kd.R k118 118 w w0.heap.size P0_ u9000_ l0) (h : laws_markCellS.f k l0 a1 = some (r1, r2)) :
    Calls Try.prog 15 #[u9000_, .int .i64 a1] w fun e w' => e = .returned (.int .i64 r1) ∧ Kd.R k118 118 w' w0.heap.size (fun k_ => (P0_ k_ ∨ w.heap.size ≤ k_)) u9000_ r2 ∧ Below w0.heap.size w0 w' ∧ Kept w w' (fun k_ => P0_ k_) := by
  have Wt := Aside0.mk (show Kd.R k118 118 w w0.heap.size (fun k_ => (P0_ k_ ∨ w.heap.size ≤ k_)) u9000_ l0 from Kd.R_mono ho0 (fun k_ hk => (.inl hk)))
  have HK := Aside0.mk (Kept.refl w (fun k_ => P0_ k_))
  have HW0 := Aside0.mk hB.size
  have HB := Aside0.mk hB
  clear hB
  have H : (laws_markCellS.l0 k l0 a1 0) = some (r1, r2) := h
  clear h
  have H' := Aside0.mk H
  clear H
  go_enter Try.func15, Try.ntmps15
  go_wp2
  go_loopg [1, 5] k (fun kq v1 v5 w' => ∃ (x0_1 : List (S118)) (x1_1 : Int) (x5_1 : Int), v1 = .int .i64 x1_1 ∧ v5 = .int .i64 x5_1 ∧ Aside0 (laws_markCellS.l0 kq x0_1 x1_1 x5_1 = some (r1, r2)) ∧ Aside0 (kq ≤ k) ∧ Aside0 (Kd.R k118 118 w' w0.heap.size (fun k_ => (P0_ k_ ∨ w.heap.size ≤ k_)) u9000_ x0_1) ∧ Aside0 (Kept w w' (fun k_ => P0_ k_)) ∧ Aside0 (Below w0.heap.size w0 w'))
  case atStart => exact ⟨(l0), (a1), (0), (by first | rfl | (simp; done) | (simp [*]; done)), (by first | rfl | (simp; done) | (simp [*]; done)), H', ⟨Nat.le_refl _⟩, ⟨by (with_reducible repeat (first | apply Kd.R_alloc | apply Kd.R_drewN | apply Kd.R_drew)); exact Wt.out⟩, ⟨by repeat (first | (with_reducible first | exact HK.out | apply Kept.alloc | apply Kept.drewN | apply Kept.drew) | exact HK.out)⟩, ⟨by repeat (first | (with_reducible first | exact HB.out | apply below_alloc | apply pw_below_drewN | apply below_drew1) | exact HB.out)⟩⟩
  case round =>
    clear H'
    try clear c1
    try clear p2
    obtain ⟨x0_1, x1_1, x5_1, rfl, rfl, HA, HK1, Jr, HK, HB⟩ := hrel
    cases gk with
    | zero => exact absurd HA.out (by simp [laws_markCellS.l0])
    | succ k1 =>
      have H := HA.out
      clear HA
      simp only [laws_markCellS.l0] at H
      by_cases c3 : x5_1 < (x0_1.length : Int)
      · rw [if_pos c3] at H
        have c3b0 : decide (x5_1 < (x0_1.length : Int)) = true := decide_eq_true c3
        clear c3
        by_cases c4 : 0 ≤ x5_1
        · rw [if_pos c4] at H
          have c4b0 : decide (0 ≤ x5_1) = true := decide_eq_true c4
          clear c4
          obtain ⟨y249, hy249⟩ : ∃ y_ : List (S118), y_ = (x0_1.set (x5_1 : Int).toNat (⟨x1_1, (rd_T118 x0_1 x5_1).f1⟩ : S118)) := ⟨_, rfl⟩
          replace H : (laws_markCellS.l0 k1 (y249.set (x5_1 : Int).toNat (⟨(rd_T118 y249 x5_1).f0, wrap64 (x1_1 + 1)⟩ : S118)) (wrap64 ((wrap64 (x1_1 + 1)) + 1)) (wrap64 (x5_1 + 1))) = some (r1, r2) := by first | (rw [hy249]; with_reducible exact H) | (have H2_ := (Option.bind_some _ _).symm.trans H; rw [hy249]; with_reducible exact H2_) | (have H2_ := (Option.bind_some _ _).symm.trans H; with_reducible exact H2_) | with_reducible exact H | (rw [hy249]; exact H) | exact H
          have Ny249 := Aside0.mk hy249
          clear hy249
          obtain ⟨y250, hy250⟩ : ∃ y_ : List (S118), y_ = (y249.set (x5_1 : Int).toNat (⟨(rd_T118 y249 x5_1).f0, wrap64 (x1_1 + 1)⟩ : S118)) := ⟨_, rfl⟩
          replace H : (laws_markCellS.l0 k1 y250 (wrap64 ((wrap64 (x1_1 + 1)) + 1)) (wrap64 (x5_1 + 1))) = some (r1, r2) := by first | (rw [hy250]; with_reducible exact H) | (have H2_ := (Option.bind_some _ _).symm.trans H; rw [hy250]; with_reducible exact H2_) | (have H2_ := (Option.bind_some _ _).symm.trans H; with_reducible exact H2_) | with_reducible exact H | (rw [hy250]; exact H) | exact H
          have Ny250 := Aside0.mk hy250
          clear hy250
          have H' := Aside0.mk H
          clear H
          obtain ⟨Ao7, co7, eo7⟩ := Kd.R_slice Jr.out
          subst eo7
          have p5 : 0 ≤ (x5_1 : Int) := od
          have q5 : (x5_1 : Int) < ((x0_1.length : Int) : Int) := od
          obtain ⟨go5, co5, eo5, Ke, gl5, cl5, HG5⟩ := Kd.R_form Jr.out (by omega)
          (first | cases eo5 | (injection eo5 with ea_ en_ ec_; (first | subst ea_ | (injection ea_ with ea_; subst ea_)); subst ec_; clear en_))
          have GB5 := Aside0.mk Ke
          have GG5 := Aside0.mk HG5
          clear Ke gl5 HG5
          have HMgo5 := Aside0.mk (show (P0_ go5 ∨ w.heap.size ≤ go5) from (Jr.out.1 _ rfl))
          obtain ⟨ce5, hcl5, hM5, hcc5, hfr5⟩ := Kd.R_elem Jr.out z118 (x5_1 : Int) p5 q5
          obtain rfl := k118_openM hM5
          have Wu : wr.cell? ⟨go5, (x5_1 : Int).toNat * 2, none⟩ = some (.int .i64 ((rd_T118 x0_1 x5_1).f0)) := hcc5 0 _ rfl
          have Wv : wr.cell? ⟨go5, (x5_1 : Int).toNat * 2 + 1, none⟩ = some (.int .i64 ((rd_T118 x0_1 x5_1).f1)) := hcc5 1 _ rfl
          have hf5_0 : wr.frozen? ⟨go5, (x5_1 : Int).toNat * 2, none⟩ = false := hfr5 0
          have hf5_1 : wr.frozen? ⟨go5, (x5_1 : Int).toNat * 2 + 1, none⟩ = false := hfr5 1
          clear hcl5 hcc5 hfr5 hM5
          replace p5 := eq_true p5
          replace q5 := eq_true q5
          have HX8 := Aside0.mk (show Kd.R k118 118 wr w0.heap.size (fun k_ => (P0_ k_ ∨ w.heap.size ≤ k_)) (.slice (some ⟨go5, 0, none⟩) x0_1.length co7) x0_1 from (by (with_reducible repeat (first | apply Kd.R_alloc | apply Kd.R_drewN | apply Kd.R_drew)); exact Jr.out))
          obtain ⟨ce8, hcl8, hM8, hcc8, hfr8⟩ := Kd.R_elem HX8.out z118 (x5_1 : Int) (od) (by have h_ : (x5_1 : Int) < ((x0_1.length : Int) : Int) := od; first | exact h_ | (have e_ := (Kd.R_reads' Jr.out).1; omega) | simpa using h_)
          obtain rfl := k118_openM hM8
          have HP8 := Kd.R_seg HX8.out (x5_1 : Int) (od) (by have h_ : (x5_1 : Int) < ((x0_1.length : Int) : Int) := od; first | exact h_ | (have e_ := (Kd.R_reads' Jr.out).1; omega) | simpa using h_) (seg := [.int .i64 x1_1]) (j := 0) hcl8 hcc8 (show 1 ≤ 2 from by decide) (x' := (⟨x1_1, (rd_T118 x0_1 x5_1).f1⟩ : S118)) (k118_mkM _ _ _ (⟨x1_1, (rd_T118 x0_1 x5_1).f1⟩ : S118) ) (fun _ hk => hk)
          have Kc := hcc8 0 _ rfl
          (try simp only [show (k118).sz = 2 from rfl, Nat.mul_one, Nat.add_zero] at Kc)
          have hf8_0 := hfr8 0
          (try simp only [show (k118).sz = 2 from rfl, Nat.mul_one, Nat.add_zero] at hf8_0)
          clear hcl8 hcc8 hfr8 hM8
          go_wp2_with (first | ((with_reducible refine gate_store (t := 2) (p := 16) rfl ?_); refine store_event (t := 2) (p := 16) (v := ?vo_w9) (w1 := (wr.setCell ⟨go5, (x5_1 : Int).toNat * 2, none⟩ (.int .i64 x1_1))) ?hg ?ho ?hn ?hr ?_; (case ho => rfl); (case hg => rfl); (case hn => rfl); (case hr => first | (go_simp; done) | (go_simp; rfl)); intro w9 hw; have hg : wr.grownBy w9 (some go5) := (by rw [hw]; exact HP8.2); have hp_ : Kd.R k118 118 w9 w0.heap.size (fun k_ => (P0_ k_ ∨ w.heap.size ≤ k_)) (.slice (some ⟨go5, 0, none⟩) x0_1.length co7) y249 := (by rw [hw, Ny249.out]; exact HP8.1); clear HP8; have n0_ := Aside0.mk (hp_); have n1_ := Aside0.mk ((by rw [hw]; exact below_set (HB.out) GB5.out : Below w0.heap.size w0 w9)); have n2_ := Aside0.mk (Kept.of_grown (S := (fun k_ => P0_ k_)) hg (by repeat (first | (with_reducible first | exact HK.out | apply Kept.alloc | apply Kept.drewN | apply Kept.drew) | exact HK.out)) (fun k_ e_ => (Jr.out.1 k_ e_))); clear Jr; clear HB; clear HK; have Jr := n0_; have HB := n1_; have HK := n2_; clear n0_ n1_ n2_; clear hg hw hp_; have p6 : 0 ≤ (x5_1 : Int) := od; have q6 : (x5_1 : Int) < ((x0_1.length : Int) : Int) := od; obtain ⟨ce6, hcl6, hM6, hcc6, hfr6⟩ := Kd.R_elem Jr.out z118 (x5_1 : Int) p6 q6; obtain rfl := k118_openM hM6; have Ww : w9.cell? ⟨go5, (x5_1 : Int).toNat * 2, none⟩ = some (.int .i64 ((rd_T118 y249 x5_1).f0)) := hcc6 0 _ rfl; have Wx : w9.cell? ⟨go5, (x5_1 : Int).toNat * 2 + 1, none⟩ = some (.int .i64 ((rd_T118 y249 x5_1).f1)) := hcc6 1 _ rfl; have hf6_0 : w9.frozen? ⟨go5, (x5_1 : Int).toNat * 2, none⟩ = false := hfr6 0; have hf6_1 : w9.frozen? ⟨go5, (x5_1 : Int).toNat * 2 + 1, none⟩ = false := hfr6 1; clear hcl6 hcc6 hfr6 hM6; replace p6 := eq_true p6; replace q6 := eq_true q6; have HX10 := Aside0.mk (show Kd.R k118 118 w9 w0.heap.size (fun k_ => (P0_ k_ ∨ w.heap.size ≤ k_)) (.slice (some ⟨go5, 0, none⟩) x0_1.length co7) y249 from (by (with_reducible repeat (first | apply Kd.R_alloc | apply Kd.R_drewN | apply Kd.R_drew)); exact Jr.out)); obtain ⟨ce10, hcl10, hM10, hcc10, hfr10⟩ := Kd.R_elem HX10.out z118 (x5_1 : Int) (od) (by have h_ : (x5_1 : Int) < ((x0_1.length : Int) : Int) := od; first | exact h_ | (have e_ := (Kd.R_reads' Jr.out).1; omega) | simpa using h_); obtain rfl := k118_openM hM10; have HP10 := Kd.R_seg HX10.out (x5_1 : Int) (od) (by have h_ : (x5_1 : Int) < ((x0_1.length : Int) : Int) := od; first | exact h_ | (have e_ := (Kd.R_reads' Jr.out).1; omega) | simpa using h_) (seg := [.int .i64 (wrap64 (x1_1 + 1))]) (j := 1) hcl10 hcc10 (show 2 ≤ 2 from by decide) (x' := (⟨(rd_T118 y249 x5_1).f0, wrap64 (x1_1 + 1)⟩ : S118)) (k118_mkM _ _ _ (⟨(rd_T118 y249 x5_1).f0, wrap64 (x1_1 + 1)⟩ : S118) ) (fun _ hk => hk); have Kb := hcc10 1 _ rfl; (try simp only [show (k118).sz = 2 from rfl, Nat.mul_one, Nat.add_zero] at Kb); have hf10_1 := hfr10 1; (try simp only [show (k118).sz = 2 from rfl, Nat.mul_one, Nat.add_zero] at hf10_1); clear hcl10 hcc10 hfr10 hM10) | ((with_reducible refine gate_store (t := 2) (p := 23) rfl ?_); refine store_event (t := 2) (p := 23) (v := ?vo_w11) (w1 := (w9.setCell ⟨go5, (x5_1 : Int).toNat * 2 + 1, none⟩ (.int .i64 (wrap64 (x1_1 + 1))))) ?hg ?ho ?hn ?hr ?_; (case ho => rfl); (case hg => rfl); (case hn => rfl); (case hr => first | (go_simp; done) | (go_simp; rfl)); intro w11 hw; have hg : w9.grownBy w11 (some go5) := (by rw [hw]; exact HP10.2); have hp_ : Kd.R k118 118 w11 w0.heap.size (fun k_ => (P0_ k_ ∨ w.heap.size ≤ k_)) (.slice (some ⟨go5, 0, none⟩) x0_1.length co7) y250 := (by rw [hw, Ny250.out]; exact HP10.1); clear HP10; have n0_ := Aside0.mk (hp_); have n1_ := Aside0.mk ((by rw [hw]; exact below_set (HB.out) GB5.out : Below w0.heap.size w0 w11)); have n2_ := Aside0.mk (Kept.of_grown (S := (fun k_ => P0_ k_)) hg (by repeat (first | (with_reducible first | exact HK.out | apply Kept.alloc | apply Kept.drewN | apply Kept.drew) | exact HK.out)) (fun k_ e_ => (Jr.out.1 k_ e_))); clear Jr; clear HB; clear HK; have Jr := n0_; have HB := n1_; have HK := n2_; clear n0_ n1_ n2_; clear hg hw hp_))
          go_roundg k1
          case measure => have := HK1.out; omega
          case rel => exact ⟨(y250), (wrap64 ((wrap64 (x1_1 + 1)) + 1)), (wrap64 (x5_1 + 1)), (by first | rfl | (simp; done) | (simp [*]; done)), (by first | rfl | (simp; done) | (simp [*]; done)), H', ⟨by have := HK1.out; omega⟩, ⟨by (with_reducible repeat (first | apply Kd.R_alloc | apply Kd.R_drewN | apply Kd.R_drew)); exact Jr.out⟩, ⟨by repeat (first | (with_reducible first | exact HK.out | apply Kept.alloc | apply Kept.drewN | apply Kept.drew) | exact HK.out)⟩, ⟨by repeat (first | (with_reducible first | exact HB.out | apply below_alloc | apply pw_below_drewN | apply below_drew1) | exact HB.out)⟩⟩
        · rw [if_neg c4] at H
          exact absurd H (by simp)
      · rw [if_neg c3] at H
        have c3b0 : decide (x5_1 < (x0_1.length : Int)) = false := decide_eq_false c3
        clear c3
        simp only [Option.some.injEq, Prod.mk.injEq] at H
        obtain ⟨rfl, rfl⟩ := H
        obtain ⟨Ao12, co12, eo12⟩ := Kd.R_slice Jr.out
        subst eo12
        go_wp2
        go_ret
        exact ⟨by first | rfl | (simp [errW_none, errW_some] <;> rfl) | (simp [*, errW_none, errW_some] <;> rfl), by (with_reducible repeat (first | apply Kd.R_alloc | apply Kd.R_drewN | apply Kd.R_drew)); exact Jr.out, by repeat (first | (with_reducible first | exact HB.out | apply below_alloc | apply pw_below_drewN | apply below_drew1) | exact HB.out), by repeat (first | (with_reducible first | exact HK.out | apply Kept.alloc | apply Kept.drewN | apply Kept.drew) | exact HK.out)⟩

end Go.Proofs.Ytbppgngfiijclaa.XFnExactNewCopies
