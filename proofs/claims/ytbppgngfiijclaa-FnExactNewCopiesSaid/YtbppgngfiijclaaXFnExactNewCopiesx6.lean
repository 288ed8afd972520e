/- The machine's side of one law: functions as plain Lean functions, and that the calls do what these say. Written by a program of this session; no condition beyond those that each theorem names. -/
import Derived.Test.YtbppgngfiijclaaXFnExactNewCopiesx0
import Derived.Test.YtbppgngfiijclaaXFnExactNewCopiesx5
namespace Go.Proofs.Ytbppgngfiijclaa.XFnExactNewCopies
open Go.RowKit Go.Proofs.YtbppgngfiijclaaW.PrintWords Go.Proofs.YtbppgngfiijclaaW.PrintLast Go.Proofs.YtbppgngfiijclaaW.PrintMore
attribute [local go_sem] max2_int min2_int max_two min_two max_three min_three max_four min_four   -- for this text's walks alone
set_option linter.unusedVariables false
set_option linter.unusedSimpArgs false

/-! ### impl_NewCopies: function 12 -/
theorem cells5 {w : World} {b T : Nat} {v0 v1 v2 v3 v4 : Value} (h : w.heap[b]? = some (.cells #[v0, v1, v2, v3, v4] T (0, 0))) : w.cell? ⟨b, 0, none⟩ = some v0 ∧ w.cell? ⟨b, 1, none⟩ = some v1 ∧ w.cell? ⟨b, 2, none⟩ = some v2 ∧ w.cell? ⟨b, 3, none⟩ = some v3 ∧ w.cell? ⟨b, 4, none⟩ = some v4 :=
  ⟨(blk_cell h 0).trans rfl, (blk_cell h 1).trans rfl, (blk_cell h 2).trans rfl, (blk_cell h 3).trans rfl, (blk_cell h 4).trans rfl⟩
def keysIn (l : List S118) : Bool := l.all fun c => decide (0 ≤ c.f0) && decide (c.f0 < 32)
def lastL (l : List S118) : List Int := l.foldl (fun a c => a.set c.f0.toNat 1) (List.replicate 32 0)
def impl_NewCopies.f (k : Nat) (l0 : List S118) : Option (Int × Int × List S118 × Int × Int × List S118 × List Int × List S135) := (impl_NewEngine.f k l0).bind fun bt => if bt.1 = 0 then (if l0.length ≤ 1048576 ∧ keysIn l0 = true then some (0, 0, [], 2, if l0.length = 0 then 0 else 1, l0, lastL l0, []) else none) else some (bt.1, 0, [], 0, 0, [], [], [])
theorem impl_NewCopies.mono : ∀ a0 k, LeO (impl_NewCopies.f k a0) (impl_NewCopies.f (k + 1) a0) := by
  intro a0 k
  unfold impl_NewCopies.f
  exact LeO.bind (impl_NewEngine.mono _ _) (fun _ => LeO.refl _)
set_option maxHeartbeats 8000000 in
set_option maxRecDepth 100000 in
theorem impl_NewCopies_ok (A0 : Option Addr) (c0 : Nat) (l0 : List S118) (k : Nat) (e2 e3 e4 : Int) (e5 : List S243) (e6 : List S189) (w : World) (hr0 : Kd.C k118 w A0 l0.length l0) (hc0 : l0.length ≤ c0) (hE : impl_NewEngine.f k l0 = some (0, e2, e3, e4, e5, e6)) (hlen : l0.length ≤ 1048576) (hk : keysIn l0 = true) (clk : Int) (hclk : clk = if l0.length = 0 then 0 else 1) :
    Calls Try.prog 12 #[.slice A0 l0.length c0] w fun e w' => ∃ v2_ v5_ v6_ v7_ : Value, e = .returned (.agg #[.int .i64 0, .int .i64 0, v2_, .int .i64 2, .int .i64 clk, v5_, v6_, v7_]) ∧ Kd.R k118 118 w' w.heap.size (fun k_ => some k_ ≠ (v5_ : Value).ownBlock) v2_ [] ∧ Kd.R k118 118 w' w.heap.size (fun k_ => some k_ ≠ (v2_ : Value).ownBlock) v5_ l0 ∧ Kd.R (Kd.int .i64) 2 w' w.heap.size (fun _ => True) v6_ (lastL l0) ∧ Kd.S k135 135 w' w.heap.size (fun k_ => some k_ ≠ (v2_ : Value).ownBlock ∧ some k_ ≠ (v5_ : Value).ownBlock ∧ some k_ ≠ (v6_ : Value).ownBlock) v7_ [] ∧ Below w.heap.size w w' := by
  have HEng := Aside0.mk (fun W h => impl_NewEngine.calls k A0 c0 l0 0 e2 e3 e4 e5 e6 W h hc0 hE)
  have HCl := Aside0.mk (fun W h => impl_Cell.calls A0 c0 l0 l0 W h hc0 (if_pos (by omega)))
  have HR := Aside0.mk hr0
  have HC0 := Aside0.mk hc0
  have HK := Aside0.mk hk
  have HCk := Aside0.mk hclk
  have HB00 : Aside0 (Below w.heap.size w (w.alloc (.cells #[.int .i64 0, .int .i64 0, .slice none 0 0, .int .i64 0, .int .i64 0, .slice none 0 0, .slice none 0 0, .slice none 0 0] 30))) := ⟨below_alloc (Below.refl _ _) _⟩
  clear hr0 hc0 hE hk hclk
  have hu := Try.underlying114
  have hu2 := Try.underlying28
  have hu3 := Try.underlying30
  go_enter Try.func12, Try.ntmps12
  go_upto_region 4 with (go_at_call 54; refine (HEng.out _ (Kd.C_below HR.out HB00.out)).mono ?_; rintro e w1 ⟨v4, v5, rfl, hS4, hS5, hb1⟩; obtain ⟨A4, c4, rfl⟩ := Kd.S_slice hS4; obtain ⟨A5, c5, rfl⟩ := Kd.S_slice hS5; have HX1 := Aside0.mk (blk_below (heap_alloc_new w (.cells #[.int .i64 0, .int .i64 0, .slice none 0 0, .int .i64 0, .int .i64 0, .slice none 0 0, .slice none 0 0, .slice none 0 0] 30)) hb1); have HB1 := Aside0.mk (below_step HB00.out hb1); have y0 := (blk_cell (heap_alloc_new w1 (.cells #[.int .i64 0, .int .i64 e2, .int .i64 e3, .int .i64 e4, .slice A4 e5.length c4, .slice A5 e6.length c5] 114)) 0).trans rfl; clear hb1 hS4 hS5)
  have HB0 : Aside0 (Below (w1.alloc (.cells #[.int .i64 0, .int .i64 e2, .int .i64 e3, .int .i64 e4, .slice A4 e5.length c4, .slice A5 e6.length c5] 114)).drew.heap.size (w1.alloc (.cells #[.int .i64 0, .int .i64 e2, .int .i64 e3, .int .i64 e4, .slice A4 e5.length c4, .slice A5 e6.length c5] 114)).drew (w1.alloc (.cells #[.int .i64 0, .int .i64 e2, .int .i64 e3, .int .i64 e4, .slice A4 e5.length c4, .slice A5 e6.length c5] 114)).drew) := ⟨Below.refl _ _⟩
  have HX0 : Aside0 ((w1.alloc (.cells #[.int .i64 0, .int .i64 e2, .int .i64 e3, .int .i64 e4, .slice A4 e5.length c4, .slice A5 e6.length c5] 114)).drew.heap[w.heap.size]? = some (.cells #[.int .i64 0, .int .i64 0, .slice none 0 0, .int .i64 0, .int .i64 0, .slice none 0 0, .slice none 0 0, .slice none 0 0] 30 (0, 0))) := ⟨show (w1.alloc (.cells #[.int .i64 0, .int .i64 e2, .int .i64 e3, .int .i64 e4, .slice A4 e5.length c4, .slice A5 e6.length c5] 114)).heap[w.heap.size]? = _ from blk_alloc HX1.out _⟩
  have HB10 : Aside0 (Below w.heap.size w (w1.alloc (.cells #[.int .i64 0, .int .i64 e2, .int .i64 e3, .int .i64 e4, .slice A4 e5.length c4, .slice A5 e6.length c5] 114)).drew) := ⟨below_drew (below_alloc HB1.out _)⟩
  have HR := Aside0.mk (Kd.C_below HR.out HB10.out)
  clear y0 HX1 HB1 HEng
  refine start_ (n := 6) (S := fun w' => True) (ds := [5]) #[false, false, false, false, false, false] (by kernel_rfl) rfl rfl trivial (fun hHeld => ?_)
  generalize (w1.alloc (.cells #[.int .i64 0, .int .i64 e2, .int .i64 e3, .int .i64 e4, .slice A4 e5.length c4, .slice A5 e6.length c5] 114)).drew = W0 at *
  refine pure_ (i := 0) (N := some 15) (v := ?_) (a' := ?_) #[true, false, false, false, false, false] rfl rfl (by kernel_rfl) (fun _ _ _ h => h) (Or.inl ⟨by rfl, ?_⟩) ?_ ?_
  rotate_left
  · intro w'
    go_simp
    with_reducible rfl
  rotate_left
  · simp only [Act.put, List.setIfInBounds_toArray, List.set_cons_zero, List.set_cons_succ, i64_w, i32_w]
    rfl
  refine join_ (σ := Option Addr × Nat × Nat × Nat × Nat) 1 #[true, true, true, true, true, false] (fun s => [(16, .slice s.1 l0.length s.2.1), (17, .slice (some ⟨s.2.2.1, 0, none⟩) 32 s.2.2.2.1), (18, .agg #[.int .i64 2, .int .i64 0, .slice s.1 l0.length s.2.1, .slice (some ⟨s.2.2.1, 0, none⟩) 32 s.2.2.2.1, .slice none 0 0]), (4, .pointer (some ⟨s.2.2.2.2, 0, none⟩))]) (fun s w' => Aside0 (Below W0.heap.size W0 w') ∧ Aside0 (Kd.R k118 118 w' W0.heap.size (fun _ => True) (.slice s.1 l0.length s.2.1) l0) ∧ Aside0 (Kd.R (Kd.int .i64) 2 w' W0.heap.size (fun _ => True) (.slice (some ⟨s.2.2.1, 0, none⟩) 32 s.2.2.2.1) (List.replicate 32 0)) ∧ Aside0 (w'.heap[s.2.2.2.2]? = some (.cells #[.int .i64 0, .int .i64 0, .slice none 0 0, .slice none 0 0, .slice none 0 0] 28 (0, 0))) ∧ Aside0 (W0.heap.size ≤ s.2.2.2.2)) ?_ ?_
  rotate_left
  · intro hCont
    refine three_ (i := 1) (j := 2) (k := 4) (Ni := some 16) (Nj := some 17) (Nk := some 4) #[true, true, false, false, false, false] #[true, false, true, false, false, false] #[true, false, false, false, true, false] rfl rfl rfl rfl rfl rfl (by kernel_rfl) (by decide) (by decide) (by decide) (fun K hK => ?_) (fun K hK => ?_) (fun K hK => ?_)
    · skip
      refine goes_ Try.func55 (by kernel_rfl) rfl #[.slice A0 l0.length c0] (by rfl) rfl rfl (by simp only [List.map_toArray, List.map_cons, List.map_nil]; rfl) ?_
      with_reducible refine (HCl.out W0 (Kd.C_below HR.out HB0.out)).mono ?_
      rintro e W1 ⟨v16, rfl, hr, hb⟩
      obtain ⟨A16, c16, rfl⟩ := Kd.R_slice hr
      refine ⟨_, rfl, ?_⟩
      have HB1 := Aside0.mk (below_step HB0.out hb)
      have HR16 := Aside0.mk (Kd.R_lower hr HB0.out.size)
      clear hr hb
      refine hK.out _ _ trivial (fun hHeld => ?_)
      clear hK K
      refine norm_ (a' := ?_) ?_ ?_
      rotate_left
      · show Act.put _ (some 16) _ = _
        simp only [Act.put, List.setIfInBounds_toArray, List.set_cons_zero, List.set_cons_succ, i64_w, i32_w]
        rfl
      refine two_ (i := 2) (j := 4) (Ni := some 17) (Nj := some 4) #[true, true, true, false, false, false] #[true, true, false, false, true, false] rfl rfl rfl rfl (by kernel_rfl) (by decide) (by decide) (fun K hK => ?_) (fun K hK => ?_)
      · skip
        refine Kd.R_make_step (Kd.int .i64) (w0 := W0) W0.heap.size 2 (by rfl) rfl 25 _ _ rfl 32 rfl rfl Try.underlying25 (.int .i64 0) 8 info2 rfl (by decide) (by omega) 0 (ok := fun _ => True) (okp := fun _ => False) rfl (fun _ h => h.elim) trivial (by omega) (by decide) HB1.out HB1.out.size ?_
        intro v17 W2 hr hb hg hat
        obtain ⟨g17, c17, e17, _⟩ := Kd.R_form hr (by decide)
        rw [show (List.replicate (32 : Int).toNat (0 : Int)).length = 32 from by decide] at e17
        subst e17
        have HB2 := Aside0.mk hb
        have HR17 := Aside0.mk hr
        have n0_ := Aside0.mk (Kd.R_grown HR16.out hg (fun _ _ => by simp))
        clear HR16
        have HR16 := n0_
        clear n0_
        clear hr hb hg hat
        refine hK.out _ _ trivial (fun hHeld => ?_)
        clear hK K
        refine norm_ (a' := ?_) ?_ ?_
        rotate_left
        · show Act.put _ (some 17) _ = _
          simp only [Act.put, List.setIfInBounds_toArray, List.set_cons_zero, List.set_cons_succ, i64_w, i32_w]
          rfl
        refine pure_ (i := 3) (N := some 18) (v := ?_) (a' := ?_) #[true, true, true, true, false, false] rfl rfl (by kernel_rfl) (fun _ _ _ h => h) (Or.inl ⟨by rfl, ?_⟩) ?_ ?_
        rotate_left
        · intro w'
          go_simp
          with_reducible rfl
        rotate_left
        · simp only [Act.put, List.setIfInBounds_toArray, List.set_cons_zero, List.set_cons_succ, i64_w, i32_w]
          rfl
        refine one_ (i := 4) (N := some 4) #[true, true, true, true, true, false] rfl rfl (by kernel_rfl) (by decide) (fun K hK => ?_)
        refine value_ (w1 := ?_) (v := ?_) (by rfl) rfl ?_ ?_
        rotate_left 2
        · go_simp
          constructor
          · rfl
          · rfl
        have HB4 := Aside0.mk (below_alloc HB2.out (.cells #[.int .i64 0, .int .i64 0, .slice none 0 0, .slice none 0 0, .slice none 0 0] 28))
        have HG4 := Aside0.mk (heap_alloc_new W2 (.cells #[.int .i64 0, .int .i64 0, .slice none 0 0, .slice none 0 0, .slice none 0 0] 28))
        have HGe := Aside0.mk HB2.out.size
        have n0_ := Aside0.mk (Kd.R_alloc HR16.out (.cells #[.int .i64 0, .int .i64 0, .slice none 0 0, .slice none 0 0, .slice none 0 0] 28))
        clear HR16
        have HR16 := n0_
        clear n0_
        have n0_ := Aside0.mk (Kd.R_alloc HR17.out (.cells #[.int .i64 0, .int .i64 0, .slice none 0 0, .slice none 0 0, .slice none 0 0] 28))
        clear HR17
        have HR17 := n0_
        clear n0_
        generalize hg4 : W2.alloc (.cells #[.int .i64 0, .int .i64 0, .slice none 0 0, .slice none 0 0, .slice none 0 0] 28) = W4 at HB4 HG4 HR16 HR17 ⊢
        refine hK.out _ _ trivial (fun hHeld => ?_)
        clear hK K
        refine norm_ (a' := ?_) ?_ ?_
        rotate_left
        · show Act.put _ (some 4) _ = _
          simp only [Act.put, List.setIfInBounds_toArray, List.set_cons_zero, List.set_cons_succ, i64_w, i32_w]
          rfl
        exact norm_ (by simp only [putAll, Act.put, List.setIfInBounds_toArray, List.set_cons_zero, List.set_cons_succ]) (hCont (A16, c16, g17, c17, W2.heap.size) _ ⟨HB4, HR16, HR17, HG4, HGe⟩)
      · skip
        refine value_ (w1 := ?_) (v := ?_) (by rfl) rfl ?_ ?_
        rotate_left 2
        · go_simp
          constructor
          · rfl
          · rfl
        have HB4 := Aside0.mk (below_alloc HB1.out (.cells #[.int .i64 0, .int .i64 0, .slice none 0 0, .slice none 0 0, .slice none 0 0] 28))
        have HG4 := Aside0.mk (heap_alloc_new W1 (.cells #[.int .i64 0, .int .i64 0, .slice none 0 0, .slice none 0 0, .slice none 0 0] 28))
        have HGe := Aside0.mk HB1.out.size
        have n0_ := Aside0.mk (Kd.R_alloc HR16.out (.cells #[.int .i64 0, .int .i64 0, .slice none 0 0, .slice none 0 0, .slice none 0 0] 28))
        clear HR16
        have HR16 := n0_
        clear n0_
        generalize hg4 : W1.alloc (.cells #[.int .i64 0, .int .i64 0, .slice none 0 0, .slice none 0 0, .slice none 0 0] 28) = W4 at HB4 HG4 HR16 ⊢
        refine hK.out _ _ trivial (fun hHeld => ?_)
        clear hK K
        refine norm_ (a' := ?_) ?_ ?_
        rotate_left
        · show Act.put _ (some 4) _ = _
          simp only [Act.put, List.setIfInBounds_toArray, List.set_cons_zero, List.set_cons_succ, i64_w, i32_w]
          rfl
        refine one_ (i := 2) (N := some 17) #[true, true, true, false, true, false] rfl rfl (by kernel_rfl) (by decide) (fun K hK => ?_)
        refine Kd.R_make_step (Kd.int .i64) (w0 := W0) W0.heap.size 2 (by rfl) rfl 25 _ _ rfl 32 rfl rfl Try.underlying25 (.int .i64 0) 8 info2 rfl (by decide) (by omega) 0 (ok := fun _ => True) (okp := fun _ => False) rfl (fun _ h => h.elim) trivial (by omega) (by decide) HB4.out HB4.out.size ?_
        intro v17 W2 hr hb hg hat
        obtain ⟨g17, c17, e17, _⟩ := Kd.R_form hr (by decide)
        rw [show (List.replicate (32 : Int).toNat (0 : Int)).length = 32 from by decide] at e17
        subst e17
        have HB2 := Aside0.mk hb
        have HR17 := Aside0.mk hr
        have n0_ := Aside0.mk (Kd.R_grown HR16.out hg (fun _ _ => by simp))
        clear HR16
        have HR16 := n0_
        clear n0_
        have n0_ := Aside0.mk (blk_grown HG4.out hg (by simp))
        clear HG4
        have HG4 := n0_
        clear n0_
        clear hr hb hg hat
        refine hK.out _ _ trivial (fun hHeld => ?_)
        clear hK K
        refine norm_ (a' := ?_) ?_ ?_
        rotate_left
        · show Act.put _ (some 17) _ = _
          simp only [Act.put, List.setIfInBounds_toArray, List.set_cons_zero, List.set_cons_succ, i64_w, i32_w]
          rfl
        refine pure_ (i := 3) (N := some 18) (v := ?_) (a' := ?_) #[true, true, true, true, true, false] rfl rfl (by kernel_rfl) (fun _ _ _ h => h) (Or.inl ⟨by rfl, ?_⟩) ?_ ?_
        rotate_left
        · intro w'
          go_simp
          with_reducible rfl
        rotate_left
        · simp only [Act.put, List.setIfInBounds_toArray, List.set_cons_zero, List.set_cons_succ, i64_w, i32_w]
          rfl
        exact norm_ (by simp only [putAll, Act.put, List.setIfInBounds_toArray, List.set_cons_zero, List.set_cons_succ]) (hCont (A16, c16, g17, c17, W1.heap.size) _ ⟨HB2, HR16, HR17, HG4, HGe⟩)
    · skip
      refine Kd.R_make_step (Kd.int .i64) (w0 := W0) W0.heap.size 2 (by rfl) rfl 25 _ _ rfl 32 rfl rfl Try.underlying25 (.int .i64 0) 8 info2 rfl (by decide) (by omega) 0 (ok := fun _ => True) (okp := fun _ => False) rfl (fun _ h => h.elim) trivial (by omega) (by decide) HB0.out HB0.out.size ?_
      intro v17 W2 hr hb hg hat
      obtain ⟨g17, c17, e17, _⟩ := Kd.R_form hr (by decide)
      rw [show (List.replicate (32 : Int).toNat (0 : Int)).length = 32 from by decide] at e17
      subst e17
      have HB2 := Aside0.mk hb
      have HR17 := Aside0.mk hr
      clear hr hb hg hat
      refine hK.out _ _ trivial (fun hHeld => ?_)
      clear hK K
      refine norm_ (a' := ?_) ?_ ?_
      rotate_left
      · show Act.put _ (some 17) _ = _
        simp only [Act.put, List.setIfInBounds_toArray, List.set_cons_zero, List.set_cons_succ, i64_w, i32_w]
        rfl
      refine two_ (i := 1) (j := 4) (Ni := some 16) (Nj := some 4) #[true, true, true, false, false, false] #[true, false, true, false, true, false] rfl rfl rfl rfl (by kernel_rfl) (by decide) (by decide) (fun K hK => ?_) (fun K hK => ?_)
      · skip
        refine goes_ Try.func55 (by kernel_rfl) rfl #[.slice A0 l0.length c0] (by rfl) rfl rfl (by simp only [List.map_toArray, List.map_cons, List.map_nil]; rfl) ?_
        with_reducible refine (HCl.out W2 (Kd.C_below HR.out HB2.out)).mono ?_
        rintro e W1 ⟨v16, rfl, hr, hb⟩
        obtain ⟨A16, c16, rfl⟩ := Kd.R_slice hr
        refine ⟨_, rfl, ?_⟩
        have HB1 := Aside0.mk (below_step HB2.out hb)
        have HR16 := Aside0.mk (Kd.R_lower hr HB2.out.size)
        have n0_ := Aside0.mk (Kd.R_below HR17.out hb)
        clear HR17
        have HR17 := n0_
        clear n0_
        clear hr hb
        refine hK.out _ _ trivial (fun hHeld => ?_)
        clear hK K
        refine norm_ (a' := ?_) ?_ ?_
        rotate_left
        · show Act.put _ (some 16) _ = _
          simp only [Act.put, List.setIfInBounds_toArray, List.set_cons_zero, List.set_cons_succ, i64_w, i32_w]
          rfl
        refine pure_ (i := 3) (N := some 18) (v := ?_) (a' := ?_) #[true, true, true, true, false, false] rfl rfl (by kernel_rfl) (fun _ _ _ h => h) (Or.inl ⟨by rfl, ?_⟩) ?_ ?_
        rotate_left
        · intro w'
          go_simp
          with_reducible rfl
        rotate_left
        · simp only [Act.put, List.setIfInBounds_toArray, List.set_cons_zero, List.set_cons_succ, i64_w, i32_w]
          rfl
        refine one_ (i := 4) (N := some 4) #[true, true, true, true, true, false] rfl rfl (by kernel_rfl) (by decide) (fun K hK => ?_)
        refine value_ (w1 := ?_) (v := ?_) (by rfl) rfl ?_ ?_
        rotate_left 2
        · go_simp
          constructor
          · rfl
          · rfl
        have HB4 := Aside0.mk (below_alloc HB1.out (.cells #[.int .i64 0, .int .i64 0, .slice none 0 0, .slice none 0 0, .slice none 0 0] 28))
        have HG4 := Aside0.mk (heap_alloc_new W1 (.cells #[.int .i64 0, .int .i64 0, .slice none 0 0, .slice none 0 0, .slice none 0 0] 28))
        have HGe := Aside0.mk HB1.out.size
        have n0_ := Aside0.mk (Kd.R_alloc HR16.out (.cells #[.int .i64 0, .int .i64 0, .slice none 0 0, .slice none 0 0, .slice none 0 0] 28))
        clear HR16
        have HR16 := n0_
        clear n0_
        have n0_ := Aside0.mk (Kd.R_alloc HR17.out (.cells #[.int .i64 0, .int .i64 0, .slice none 0 0, .slice none 0 0, .slice none 0 0] 28))
        clear HR17
        have HR17 := n0_
        clear n0_
        generalize hg4 : W1.alloc (.cells #[.int .i64 0, .int .i64 0, .slice none 0 0, .slice none 0 0, .slice none 0 0] 28) = W4 at HB4 HG4 HR16 HR17 ⊢
        refine hK.out _ _ trivial (fun hHeld => ?_)
        clear hK K
        refine norm_ (a' := ?_) ?_ ?_
        rotate_left
        · show Act.put _ (some 4) _ = _
          simp only [Act.put, List.setIfInBounds_toArray, List.set_cons_zero, List.set_cons_succ, i64_w, i32_w]
          rfl
        exact norm_ (by simp only [putAll, Act.put, List.setIfInBounds_toArray, List.set_cons_zero, List.set_cons_succ]) (hCont (A16, c16, g17, c17, W1.heap.size) _ ⟨HB4, HR16, HR17, HG4, HGe⟩)
      · skip
        refine value_ (w1 := ?_) (v := ?_) (by rfl) rfl ?_ ?_
        rotate_left 2
        · go_simp
          constructor
          · rfl
          · rfl
        have HB4 := Aside0.mk (below_alloc HB2.out (.cells #[.int .i64 0, .int .i64 0, .slice none 0 0, .slice none 0 0, .slice none 0 0] 28))
        have HG4 := Aside0.mk (heap_alloc_new W2 (.cells #[.int .i64 0, .int .i64 0, .slice none 0 0, .slice none 0 0, .slice none 0 0] 28))
        have HGe := Aside0.mk HB2.out.size
        have n0_ := Aside0.mk (Kd.R_alloc HR17.out (.cells #[.int .i64 0, .int .i64 0, .slice none 0 0, .slice none 0 0, .slice none 0 0] 28))
        clear HR17
        have HR17 := n0_
        clear n0_
        generalize hg4 : W2.alloc (.cells #[.int .i64 0, .int .i64 0, .slice none 0 0, .slice none 0 0, .slice none 0 0] 28) = W4 at HB4 HG4 HR17 ⊢
        refine hK.out _ _ trivial (fun hHeld => ?_)
        clear hK K
        refine norm_ (a' := ?_) ?_ ?_
        rotate_left
        · show Act.put _ (some 4) _ = _
          simp only [Act.put, List.setIfInBounds_toArray, List.set_cons_zero, List.set_cons_succ, i64_w, i32_w]
          rfl
        refine one_ (i := 1) (N := some 16) #[true, true, true, false, true, false] rfl rfl (by kernel_rfl) (by decide) (fun K hK => ?_)
        refine goes_ Try.func55 (by kernel_rfl) rfl #[.slice A0 l0.length c0] (by rfl) rfl rfl (by simp only [List.map_toArray, List.map_cons, List.map_nil]; rfl) ?_
        with_reducible refine (HCl.out W4 (Kd.C_below HR.out HB4.out)).mono ?_
        rintro e W1 ⟨v16, rfl, hr, hb⟩
        obtain ⟨A16, c16, rfl⟩ := Kd.R_slice hr
        refine ⟨_, rfl, ?_⟩
        have HB1 := Aside0.mk (below_step HB4.out hb)
        have HR16 := Aside0.mk (Kd.R_lower hr HB4.out.size)
        have n0_ := Aside0.mk (Kd.R_below HR17.out hb)
        clear HR17
        have HR17 := n0_
        clear n0_
        have n0_ := Aside0.mk (blk_below HG4.out hb)
        clear HG4
        have HG4 := n0_
        clear n0_
        clear hr hb
        refine hK.out _ _ trivial (fun hHeld => ?_)
        clear hK K
        refine norm_ (a' := ?_) ?_ ?_
        rotate_left
        · show Act.put _ (some 16) _ = _
          simp only [Act.put, List.setIfInBounds_toArray, List.set_cons_zero, List.set_cons_succ, i64_w, i32_w]
          rfl
        refine pure_ (i := 3) (N := some 18) (v := ?_) (a' := ?_) #[true, true, true, true, true, false] rfl rfl (by kernel_rfl) (fun _ _ _ h => h) (Or.inl ⟨by rfl, ?_⟩) ?_ ?_
        rotate_left
        · intro w'
          go_simp
          with_reducible rfl
        rotate_left
        · simp only [Act.put, List.setIfInBounds_toArray, List.set_cons_zero, List.set_cons_succ, i64_w, i32_w]
          rfl
        exact norm_ (by simp only [putAll, Act.put, List.setIfInBounds_toArray, List.set_cons_zero, List.set_cons_succ]) (hCont (A16, c16, g17, c17, W2.heap.size) _ ⟨HB1, HR16, HR17, HG4, HGe⟩)
    · skip
      refine value_ (w1 := ?_) (v := ?_) (by rfl) rfl ?_ ?_
      rotate_left 2
      · go_simp
        constructor
        · rfl
        · rfl
      have HB4 := Aside0.mk (below_alloc HB0.out (.cells #[.int .i64 0, .int .i64 0, .slice none 0 0, .slice none 0 0, .slice none 0 0] 28))
      have HG4 := Aside0.mk (heap_alloc_new W0 (.cells #[.int .i64 0, .int .i64 0, .slice none 0 0, .slice none 0 0, .slice none 0 0] 28))
      have HGe := Aside0.mk HB0.out.size
      generalize hg4 : W0.alloc (.cells #[.int .i64 0, .int .i64 0, .slice none 0 0, .slice none 0 0, .slice none 0 0] 28) = W4 at HB4 HG4 ⊢
      refine hK.out _ _ trivial (fun hHeld => ?_)
      clear hK K
      refine norm_ (a' := ?_) ?_ ?_
      rotate_left
      · show Act.put _ (some 4) _ = _
        simp only [Act.put, List.setIfInBounds_toArray, List.set_cons_zero, List.set_cons_succ, i64_w, i32_w]
        rfl
      refine two_ (i := 1) (j := 2) (Ni := some 16) (Nj := some 17) #[true, true, false, false, true, false] #[true, false, true, false, true, false] rfl rfl rfl rfl (by kernel_rfl) (by decide) (by decide) (fun K hK => ?_) (fun K hK => ?_)
      · skip
        refine goes_ Try.func55 (by kernel_rfl) rfl #[.slice A0 l0.length c0] (by rfl) rfl rfl (by simp only [List.map_toArray, List.map_cons, List.map_nil]; rfl) ?_
        with_reducible refine (HCl.out W4 (Kd.C_below HR.out HB4.out)).mono ?_
        rintro e W1 ⟨v16, rfl, hr, hb⟩
        obtain ⟨A16, c16, rfl⟩ := Kd.R_slice hr
        refine ⟨_, rfl, ?_⟩
        have HB1 := Aside0.mk (below_step HB4.out hb)
        have HR16 := Aside0.mk (Kd.R_lower hr HB4.out.size)
        have n0_ := Aside0.mk (blk_below HG4.out hb)
        clear HG4
        have HG4 := n0_
        clear n0_
        clear hr hb
        refine hK.out _ _ trivial (fun hHeld => ?_)
        clear hK K
        refine norm_ (a' := ?_) ?_ ?_
        rotate_left
        · show Act.put _ (some 16) _ = _
          simp only [Act.put, List.setIfInBounds_toArray, List.set_cons_zero, List.set_cons_succ, i64_w, i32_w]
          rfl
        refine one_ (i := 2) (N := some 17) #[true, true, true, false, true, false] rfl rfl (by kernel_rfl) (by decide) (fun K hK => ?_)
        refine Kd.R_make_step (Kd.int .i64) (w0 := W0) W0.heap.size 2 (by rfl) rfl 25 _ _ rfl 32 rfl rfl Try.underlying25 (.int .i64 0) 8 info2 rfl (by decide) (by omega) 0 (ok := fun _ => True) (okp := fun _ => False) rfl (fun _ h => h.elim) trivial (by omega) (by decide) HB1.out HB1.out.size ?_
        intro v17 W2 hr hb hg hat
        obtain ⟨g17, c17, e17, _⟩ := Kd.R_form hr (by decide)
        rw [show (List.replicate (32 : Int).toNat (0 : Int)).length = 32 from by decide] at e17
        subst e17
        have HB2 := Aside0.mk hb
        have HR17 := Aside0.mk hr
        have n0_ := Aside0.mk (Kd.R_grown HR16.out hg (fun _ _ => by simp))
        clear HR16
        have HR16 := n0_
        clear n0_
        have n0_ := Aside0.mk (blk_grown HG4.out hg (by simp))
        clear HG4
        have HG4 := n0_
        clear n0_
        clear hr hb hg hat
        refine hK.out _ _ trivial (fun hHeld => ?_)
        clear hK K
        refine norm_ (a' := ?_) ?_ ?_
        rotate_left
        · show Act.put _ (some 17) _ = _
          simp only [Act.put, List.setIfInBounds_toArray, List.set_cons_zero, List.set_cons_succ, i64_w, i32_w]
          rfl
        refine pure_ (i := 3) (N := some 18) (v := ?_) (a' := ?_) #[true, true, true, true, true, false] rfl rfl (by kernel_rfl) (fun _ _ _ h => h) (Or.inl ⟨by rfl, ?_⟩) ?_ ?_
        rotate_left
        · intro w'
          go_simp
          with_reducible rfl
        rotate_left
        · simp only [Act.put, List.setIfInBounds_toArray, List.set_cons_zero, List.set_cons_succ, i64_w, i32_w]
          rfl
        exact norm_ (by simp only [putAll, Act.put, List.setIfInBounds_toArray, List.set_cons_zero, List.set_cons_succ]) (hCont (A16, c16, g17, c17, W0.heap.size) _ ⟨HB2, HR16, HR17, HG4, HGe⟩)
      · skip
        refine Kd.R_make_step (Kd.int .i64) (w0 := W0) W0.heap.size 2 (by rfl) rfl 25 _ _ rfl 32 rfl rfl Try.underlying25 (.int .i64 0) 8 info2 rfl (by decide) (by omega) 0 (ok := fun _ => True) (okp := fun _ => False) rfl (fun _ h => h.elim) trivial (by omega) (by decide) HB4.out HB4.out.size ?_
        intro v17 W2 hr hb hg hat
        obtain ⟨g17, c17, e17, _⟩ := Kd.R_form hr (by decide)
        rw [show (List.replicate (32 : Int).toNat (0 : Int)).length = 32 from by decide] at e17
        subst e17
        have HB2 := Aside0.mk hb
        have HR17 := Aside0.mk hr
        have n0_ := Aside0.mk (blk_grown HG4.out hg (by simp))
        clear HG4
        have HG4 := n0_
        clear n0_
        clear hr hb hg hat
        refine hK.out _ _ trivial (fun hHeld => ?_)
        clear hK K
        refine norm_ (a' := ?_) ?_ ?_
        rotate_left
        · show Act.put _ (some 17) _ = _
          simp only [Act.put, List.setIfInBounds_toArray, List.set_cons_zero, List.set_cons_succ, i64_w, i32_w]
          rfl
        refine one_ (i := 1) (N := some 16) #[true, true, true, false, true, false] rfl rfl (by kernel_rfl) (by decide) (fun K hK => ?_)
        refine goes_ Try.func55 (by kernel_rfl) rfl #[.slice A0 l0.length c0] (by rfl) rfl rfl (by simp only [List.map_toArray, List.map_cons, List.map_nil]; rfl) ?_
        with_reducible refine (HCl.out W2 (Kd.C_below HR.out HB2.out)).mono ?_
        rintro e W1 ⟨v16, rfl, hr, hb⟩
        obtain ⟨A16, c16, rfl⟩ := Kd.R_slice hr
        refine ⟨_, rfl, ?_⟩
        have HB1 := Aside0.mk (below_step HB2.out hb)
        have HR16 := Aside0.mk (Kd.R_lower hr HB2.out.size)
        have n0_ := Aside0.mk (Kd.R_below HR17.out hb)
        clear HR17
        have HR17 := n0_
        clear n0_
        have n0_ := Aside0.mk (blk_below HG4.out hb)
        clear HG4
        have HG4 := n0_
        clear n0_
        clear hr hb
        refine hK.out _ _ trivial (fun hHeld => ?_)
        clear hK K
        refine norm_ (a' := ?_) ?_ ?_
        rotate_left
        · show Act.put _ (some 16) _ = _
          simp only [Act.put, List.setIfInBounds_toArray, List.set_cons_zero, List.set_cons_succ, i64_w, i32_w]
          rfl
        refine pure_ (i := 3) (N := some 18) (v := ?_) (a' := ?_) #[true, true, true, true, true, false] rfl rfl (by kernel_rfl) (fun _ _ _ h => h) (Or.inl ⟨by rfl, ?_⟩) ?_ ?_
        rotate_left
        · intro w'
          go_simp
          with_reducible rfl
        rotate_left
        · simp only [Act.put, List.setIfInBounds_toArray, List.set_cons_zero, List.set_cons_succ, i64_w, i32_w]
          rfl
        exact norm_ (by simp only [putAll, Act.put, List.setIfInBounds_toArray, List.set_cons_zero, List.set_cons_succ]) (hCont (A16, c16, g17, c17, W0.heap.size) _ ⟨HB1, HR16, HR17, HG4, HGe⟩)
  rintro ⟨A16, c16, g17, c17, g4⟩ W5 ⟨HB5, HR16, HR17, HG4, HGe⟩
  dsimp only at HB5 HR16 HR17 HG4 HGe
  have hHeld : True := trivial
  obtain ⟨b0, b1, b2, b3, b4⟩ := cells5 HG4.out
  have hf4_0 := blk_frozen HG4.out 0
  have hf4_1 := blk_frozen HG4.out 1
  have hf4_2 := blk_frozen HG4.out 2
  have hf4_3 := blk_frozen HG4.out 3
  have hf4_4 := blk_frozen HG4.out 4
  refine norm_ (a' := ?_) ?_ ?_
  rotate_left
  · simp only [putAll, Act.put, List.setIfInBounds_toArray, List.set_cons_zero, List.set_cons_succ]
    rfl
  refine last_ (i := 5) (N := none) #[true, true, true, true, true, true] rfl rfl (by kernel_rfl) (by decide) (fun K hK => ?_)
  refine skip_ (w1 := ?_) (by rfl) rfl ?_ ?_
  rotate_left
  · go_simp
    rfl
  refine hK.out _ _ ?_
  clear hK K
  refine done_ (by kernel_rfl) ?_
  have s1 := blk_set HG4.out 0 (.int .i64 2)
  have s2 := blk_set s1 1 (.int .i64 0)
  have s3 := blk_set s2 2 (.slice A16 l0.length c16)
  have s4 := blk_set s3 3 (.slice (some ⟨g17, 0, none⟩) 32 c17)
  have HG6 : Aside0 ((((((W5.setCell ⟨g4, 0, none⟩ (.int .i64 2)).setCell ⟨g4, 1, none⟩ (.int .i64 0)).setCell ⟨g4, 2, none⟩ (.slice A16 l0.length c16)).setCell ⟨g4, 3, none⟩ (.slice (some ⟨g17, 0, none⟩) 32 c17)).setCell ⟨g4, 4, none⟩ (.slice none 0 0)).heap[g4]? = some (.cells #[.int .i64 2, .int .i64 0, .slice A16 l0.length c16, .slice (some ⟨g17, 0, none⟩) 32 c17, .slice none 0 0] 28 (0, 0))) := ⟨by have s5 := blk_set s4 4 (.slice none 0 0); simpa using s5⟩
  have HR16' : Aside0 (Kd.R k118 118 (((((W5.setCell ⟨g4, 0, none⟩ (.int .i64 2)).setCell ⟨g4, 1, none⟩ (.int .i64 0)).setCell ⟨g4, 2, none⟩ (.slice A16 l0.length c16)).setCell ⟨g4, 3, none⟩ (.slice (some ⟨g17, 0, none⟩) 32 c17)).setCell ⟨g4, 4, none⟩ (.slice none 0 0)) W0.heap.size (fun _ => True) (.slice A16 l0.length c16) l0) := ⟨Kd.R_set (Kd.R_set (Kd.R_set (Kd.R_set (Kd.R_set HR16.out HG4.out (by decide) 0 _) s1 (by decide) 1 _) s2 (by decide) 2 _) s3 (by decide) 3 _) s4 (by decide) 4 _⟩
  have HR17' : Aside0 (Kd.R (Kd.int .i64) 2 (((((W5.setCell ⟨g4, 0, none⟩ (.int .i64 2)).setCell ⟨g4, 1, none⟩ (.int .i64 0)).setCell ⟨g4, 2, none⟩ (.slice A16 l0.length c16)).setCell ⟨g4, 3, none⟩ (.slice (some ⟨g17, 0, none⟩) 32 c17)).setCell ⟨g4, 4, none⟩ (.slice none 0 0)) W0.heap.size (fun _ => True) (.slice (some ⟨g17, 0, none⟩) 32 c17) (List.replicate 32 0)) := ⟨Kd.R_set (Kd.R_set (Kd.R_set (Kd.R_set (Kd.R_set HR17.out HG4.out (by decide) 0 _) s1 (by decide) 1 _) s2 (by decide) 2 _) s3 (by decide) 3 _) s4 (by decide) 4 _⟩
  have HB6 : Aside0 (Below W0.heap.size W0 (((((W5.setCell ⟨g4, 0, none⟩ (.int .i64 2)).setCell ⟨g4, 1, none⟩ (.int .i64 0)).setCell ⟨g4, 2, none⟩ (.slice A16 l0.length c16)).setCell ⟨g4, 3, none⟩ (.slice (some ⟨g17, 0, none⟩) 32 c17)).setCell ⟨g4, 4, none⟩ (.slice none 0 0))) := ⟨below_set (below_set (below_set (below_set (below_set HB5.out HGe.out) HGe.out) HGe.out) HGe.out) HGe.out⟩
  have HX6 : Aside0 ((((((W5.setCell ⟨g4, 0, none⟩ (.int .i64 2)).setCell ⟨g4, 1, none⟩ (.int .i64 0)).setCell ⟨g4, 2, none⟩ (.slice A16 l0.length c16)).setCell ⟨g4, 3, none⟩ (.slice (some ⟨g17, 0, none⟩) 32 c17)).setCell ⟨g4, 4, none⟩ (.slice none 0 0)).heap[w.heap.size]? = some (.cells #[.int .i64 0, .int .i64 0, .slice none 0 0, .int .i64 0, .int .i64 0, .slice none 0 0, .slice none 0 0, .slice none 0 0] 30 (0, 0))) := ⟨blk_below HX0.out HB6.out⟩
  clear s1 s2 s3 s4 HG4 HR16 HR17 HB5 b0 b1 b2 b3 b4 hf4_0 hf4_1 hf4_2 hf4_3 hf4_4 HCl
  generalize (((((W5.setCell ⟨g4, 0, none⟩ (.int .i64 2)).setCell ⟨g4, 1, none⟩ (.int .i64 0)).setCell ⟨g4, 2, none⟩ (.slice A16 l0.length c16)).setCell ⟨g4, 3, none⟩ (.slice (some ⟨g17, 0, none⟩) 32 c17)).setCell ⟨g4, 4, none⟩ (.slice none 0 0)) = WW at *
  go_wp2
  go_loopg [21] l0.length (fun gg s21 wr => ∃ kk : Nat, kk ≤ l0.length ∧ l0.length - kk ≤ gg ∧ s21 = .int .i64 kk ∧ Aside0 (Below W0.heap.size W0 wr) ∧ Aside0 (wr.heap[g4]? = some (.cells #[.int .i64 2, .int .i64 (if kk = 0 then 0 else 1), .slice A16 l0.length c16, .slice (some ⟨g17, 0, none⟩) 32 c17, .slice none 0 0] 28 (0, 0))) ∧ Aside0 (Kd.R k118 118 wr W0.heap.size (fun _ => True) (.slice A16 l0.length c16) l0) ∧ Aside0 (Kd.R (Kd.int .i64) 2 wr W0.heap.size (fun _ => True) (.slice (some ⟨g17, 0, none⟩) 32 c17) ((l0.take kk).foldl (fun a c => a.set c.f0.toNat 1) (List.replicate 32 0))))
  case atStart => exact ⟨0, by omega, by omega, rfl, HB6, HG6, HR16', HR17'⟩
  case round =>
    clear HB6 HG6 HR16' HR17' HX6
    obtain ⟨kk, hkk, hgg, rfl, HB, HG, HR16, HR17⟩ := hrel
    by_cases hlt : kk < l0.length
    · have hltz : (kk : Int) < (l0.length : Int) := by omega
      have h0z : (0 : Int) ≤ (kk : Int) := by omega
      have hx : rd_T118 l0 (kk : Int) = l0[kk]'hlt := by show l0.getD kk _ = _; rw [List.getD_eq_getElem?_getD, List.getElem?_eq_getElem hlt]; rfl
      have hmem : rd_T118 l0 (kk : Int) ∈ l0 := by rw [hx]; exact List.getElem_mem _
      obtain ⟨ad, e0, q0, q1⟩ := at_T118 (Kd.C_below HR.out HB.out) (kk : Int) (by omega) (by omega)
      subst e0
      simp only [Int.toNat_natCast] at q0 q1
      have hkin := List.all_eq_true.1 HK.out _ hmem
      have HT : Aside0 ((l0.take (kk + 1)).foldl (fun a c => a.set c.f0.toNat 1) (List.replicate 32 (0 : Int)) = ((l0.take kk).foldl (fun a c => a.set c.f0.toNat 1) (List.replicate 32 0)).set (rd_T118 l0 (kk : Int)).f0.toNat 1) := ⟨by rw [List.take_succ_eq_append_getElem hlt, List.foldl_append, hx]; rfl⟩
      clear hx hmem
      generalize rd_T118 l0 (kk : Int) = x at *
      generalize (l0.take kk).foldl (fun a c => a.set c.f0.toNat 1) (List.replicate 32 (0 : Int)) = ls at *
      obtain ⟨f, v⟩ := x
      dsimp only at q0 q1 hkin HT
      simp only [Bool.and_eq_true, decide_eq_true_eq] at hkin
      obtain ⟨hf0, hf1⟩ := hkin
      have HCd : Aside0 ((wr.alloc (.cells #[.int .i64 f, .int .i64 v] 118)).drew.heap[wr.heap.size]? = some (.cells #[.int .i64 f, .int .i64 v] 118 (0, 0))) := ⟨show (wr.alloc (.cells #[.int .i64 f, .int .i64 v] 118)).heap[wr.heap.size]? = _ from heap_alloc_new wr _⟩
      have HGd : Aside0 ((wr.alloc (.cells #[.int .i64 f, .int .i64 v] 118)).drew.heap[g4]? = some (.cells #[.int .i64 2, .int .i64 (if kk = 0 then 0 else 1), .slice A16 l0.length c16, .slice (some ⟨g17, 0, none⟩) 32 c17, .slice none 0 0] 28 (0, 0))) := ⟨show (wr.alloc (.cells #[.int .i64 f, .int .i64 v] 118)).heap[g4]? = _ from blk_alloc HG.out _⟩
      have HBd : Aside0 (Below W0.heap.size W0 (wr.alloc (.cells #[.int .i64 f, .int .i64 v] 118)).drew) := ⟨below_drew (below_alloc HB.out _)⟩
      have HR16d : Aside0 (Kd.R k118 118 (wr.alloc (.cells #[.int .i64 f, .int .i64 v] 118)).drew W0.heap.size (fun _ => True) (.slice A16 l0.length c16) l0) := ⟨Kd.R_drew (Kd.R_alloc HR16.out _)⟩
      have HR17d : Aside0 (Kd.R (Kd.int .i64) 2 (wr.alloc (.cells #[.int .i64 f, .int .i64 v] 118)).drew W0.heap.size (fun _ => True) (.slice (some ⟨g17, 0, none⟩) 32 c17) ls) := ⟨Kd.R_drew (Kd.R_alloc HR17.out _)⟩
      have d0 := (blk_cell HGd.out 3).trans rfl
      have d1 := (cells2 HCd.out).1
      have df := blk_frozen HGd.out 1
      have dc := (blk_cell HGd.out 1).trans rfl
      clear HG HR16 HR17 HB
      go_upto_region 8 with fail
      refine start_ (n := 8) (S := fun w' => w'.cell? ⟨g4, 3, none⟩ = some (.slice (some ⟨g17, 0, none⟩) 32 c17) ∧ w'.cell? ⟨wr.heap.size, 0, none⟩ = some (.int .i64 f)) (ds := [7]) #[false, false, false, false, false, false, false, false] (by kernel_rfl) rfl rfl ⟨d0, d1⟩ (fun hHeld => ?_)
      generalize (wr.alloc (.cells #[.int .i64 f, .int .i64 v] 118)).drew = Wd at *
      refine pure_ (i := 0) (N := some 25) (v := ?_) (a' := ?_) #[true, false, false, false, false, false, false, false] rfl rfl (by kernel_rfl) (fun _ _ _ h => h) (Or.inl ⟨by rfl, ?_⟩) ?_ ?_
      rotate_left
      · intro w'
        go_simp
        with_reducible rfl
      rotate_left
      · simp only [Act.put, List.setIfInBounds_toArray, List.set_cons_zero, List.set_cons_succ, i64_w, i32_w]
        rfl
      refine pure_ (i := 2) (N := some 27) (v := ?_) (a' := ?_) #[true, false, true, false, false, false, false, false] rfl rfl (by kernel_rfl) (fun _ _ _ h => h) (Or.inl ⟨by rfl, ?_⟩) ?_ ?_
      rotate_left
      · intro w'
        go_simp
        with_reducible rfl
      rotate_left
      · simp only [Act.put, List.setIfInBounds_toArray, List.set_cons_zero, List.set_cons_succ, i64_w, i32_w]
        rfl
      refine take_ (i := 1) (N := some 26) (v := ?_) (a' := ?_) #[true, true, true, false, false, false, false, false] rfl rfl (by kernel_rfl) (fun _ _ _ h => h) (Or.inl ⟨by rfl, ?_⟩) hHeld ?_ ?_
      rotate_left
      · rintro w' ⟨s0, s1⟩
        go_simp
        with_reducible rfl
      rotate_left
      · simp only [Act.put, List.setIfInBounds_toArray, List.set_cons_zero, List.set_cons_succ, i64_w, i32_w]
        rfl
      refine pure_ (i := 4) (N := some 29) (v := ?_) (a' := ?_) #[true, true, true, false, true, false, false, false] rfl rfl (by kernel_rfl) (fun _ _ _ h => h) (Or.inl ⟨by rfl, ?_⟩) ?_ ?_
      rotate_left
      · intro w'
        go_simp
        with_reducible rfl
      rotate_left
      · simp only [Act.put, List.setIfInBounds_toArray, List.set_cons_zero, List.set_cons_succ, i64_w, i32_w]
        rfl
      refine take_ (i := 3) (N := some 28) (v := ?_) (a' := ?_) #[true, true, true, true, true, false, false, false] rfl rfl (by kernel_rfl) (fun _ _ _ h => h) (Or.inl ⟨by rfl, ?_⟩) hHeld ?_ ?_
      rotate_left
      · rintro w' ⟨s0, s1⟩
        go_simp
        with_reducible rfl
      rotate_left
      · simp only [Act.put, List.setIfInBounds_toArray, List.set_cons_zero, List.set_cons_succ, i64_w, i32_w]
        rfl
      refine one_ (i := 5) (N := none) #[true, true, true, true, true, true, false, false] rfl rfl (by kernel_rfl) (by decide) (fun K hK => ?_)
      refine skip_ (w1 := ?_) (by rfl) rfl ?_ ?_
      rotate_left
      · go_simp
        rfl
      refine hK.out _ _ ⟨(blk_cell (blk_set HGd.out 1 (.int .i64 1)) 3).trans rfl, (cells2 (blk_far HCd.out (blk_ne HCd.out HGd.out (by decide)) _)).1⟩ (fun hHeld => ?_)
      clear hK K
      refine pure_ (i := 6) (N := some 30) (v := ?_) (a' := ?_) #[true, true, true, true, true, true, true, false] rfl rfl (by kernel_rfl) (fun _ _ _ h => h) (Or.inl ⟨by rfl, ?_⟩) ?_ ?_
      rotate_left
      · intro w'
        go_simp
        with_reducible rfl
      rotate_left
      · simp only [Act.put, List.setIfInBounds_toArray, List.set_cons_zero, List.set_cons_succ, i64_w, i32_w]
        rfl
      refine last_ (i := 7) (N := none) #[true, true, true, true, true, true, true, true] rfl rfl (by kernel_rfl) (by decide) (fun K hK => ?_)
      have HR17e := Aside0.mk (Kd.R_set HR17d.out HGd.out (by decide) 1 (.int .i64 1))
      obtain ⟨hy_, _⟩ := Kd.R_celln 0 HR17e.out f hf0 (by omega)
      obtain ⟨_, hz_⟩ := Kd.R_celln 0 HR17d.out f hf0 (by omega)
      refine skip_ (w1 := ?_) (by rfl) rfl ?_ ?_
      rotate_left
      · go_simp
        rfl
      refine hK.out _ _ ?_
      clear hK K
      refine done_ (by kernel_rfl) ?_
      go_wp2
      have hGs := blk_set HGd.out 1 (.int .i64 1)
      have hRs := Kd.R_putg HR17e.out f 1
      go_roundg (l0.length - (kk + 1))
      case measure => omega
      case rel =>
        have hge17 : W0.heap.size ≤ g17 := Kd.R_base HR17d.out g17 (by simp [Value.ownBlock])
        have hne : g4 ≠ g17 := fun e => (Kd.R_ne HR17e.out hGs (by decide)) (by rw [e]; simp [Value.ownBlock])
        refine ⟨kk + 1, by omega, by omega, by go_num, ⟨below_set (below_set HBd.out HGe.out) hge17⟩, ⟨by have h := blk_far hGs (p := ⟨g17, f.toNat, none⟩) hne (.int .i64 1); simpa using h⟩, ⟨Kd.R_over (Kd.R_set HR16d.out HGd.out (by decide) 1 (.int .i64 1)) HR17e.out (by decide) (by simpa [Value.ownBlock] using hRs.2)⟩, ⟨by rw [HT.out]; exact hRs.1⟩⟩
    · have hltz : ¬ (kk : Int) < (l0.length : Int) := by omega
      obtain rfl : kk = l0.length := by omega
      have HX := Aside0.mk (blk_below HX0.out HB.out)
      have HG : Aside0 (wr.heap[g4]? = some (.cells #[.int .i64 2, .int .i64 clk, .slice A16 l0.length c16, .slice (some ⟨g17, 0, none⟩) 32 c17, .slice none 0 0] 28 (0, 0))) := ⟨by rw [HCk.out]; exact HG.out⟩
      obtain ⟨b0, b1, b2, b3, b4⟩ := cells5 HG.out
      have hr0 := (blk_cell HX.out 0).trans rfl
      have hf0 := blk_frozen HX.out 0
      have hr1 := (blk_cell HX.out 1).trans rfl
      have hf1 := blk_frozen HX.out 1
      have hr2 := (blk_cell HX.out 2).trans rfl
      have hf2 := blk_frozen HX.out 2
      have hr3 := (blk_cell HX.out 3).trans rfl
      have hf3 := blk_frozen HX.out 3
      have hr4 := (blk_cell HX.out 4).trans rfl
      have hf4 := blk_frozen HX.out 4
      have hr5 := (blk_cell HX.out 5).trans rfl
      have hf5 := blk_frozen HX.out 5
      have hr6 := (blk_cell HX.out 6).trans rfl
      have hf6 := blk_frozen HX.out 6
      have hr7 := (blk_cell HX.out 7).trans rfl
      have hf7 := blk_frozen HX.out 7
      rw [List.take_length] at HR17
      go_wp2
      have t0 := blk_set HX.out 0 (.int .i64 0)
      have t1 := blk_set t0 1 (.int .i64 0)
      have t2 := blk_set t1 2 (.slice none 0 0)
      have t3 := blk_set t2 3 (.int .i64 2)
      have t4 := blk_set t3 4 (.int .i64 clk)
      have t5 := blk_set t4 5 (.slice A16 l0.length c16)
      have t6 := blk_set t5 6 (.slice (some ⟨g17, 0, none⟩) 32 c17)
      have t7 := blk_set t6 7 (.slice none 0 0)
      refine bodyPost_ret (results_cell_row rfl _ _ w.heap.size 30 #[.int .i64 0, .int .i64 0, .slice none 0 0, .int .i64 2, .int .i64 clk, .slice A16 l0.length c16, .slice (some ⟨g17, 0, none⟩) 32 c17, .slice none 0 0] (0, 0) _ rfl (by simpa using t7) Try.underlying30 rfl (by kernel_rfl)) rfl ⟨_, _, _, _, rfl, Kd.R_nil _ _ _ _ _, Kd.R_mono (Kd.R_lower (Kd.R_set (Kd.R_set (Kd.R_set (Kd.R_set (Kd.R_set (Kd.R_set (Kd.R_set (Kd.R_set (HR16.out) HX.out (by decide) 0 _) t0 (by decide) 1 _) t1 (by decide) 2 _) t2 (by decide) 3 _) t3 (by decide) 4 _) t4 (by decide) 5 _) t5 (by decide) 6 _) t6 (by decide) 7 _) HB10.out.size) (fun _ _ => by simp [Value.ownBlock]), Kd.R_lower (Kd.R_set (Kd.R_set (Kd.R_set (Kd.R_set (Kd.R_set (Kd.R_set (Kd.R_set (Kd.R_set (HR17.out) HX.out (by decide) 0 _) t0 (by decide) 1 _) t1 (by decide) 2 _) t2 (by decide) 3 _) t3 (by decide) 4 _) t4 (by decide) 5 _) t5 (by decide) 6 _) t6 (by decide) 7 _) HB10.out.size, Kd.S_nil _ _ _ _ _, below_set (below_set (below_set (below_set (below_set (below_set (below_set (below_set (below_step HB10.out HB.out) (Nat.le_refl _)) (Nat.le_refl _)) (Nat.le_refl _)) (Nat.le_refl _)) (Nat.le_refl _)) (Nat.le_refl _)) (Nat.le_refl _)) (Nat.le_refl _)⟩
set_option maxHeartbeats 4000000 in
set_option maxRecDepth 100000 in
theorem impl_NewCopies.calls (k : Nat) (A0 : Option Addr) (c0 : Nat) (l0 : List S118) (r1 : Int) (r2 : Int) (r3 : List S118) (r4 : Int) (r5 : Int) (r6 : List S118) (r7 : List Int) (r8 : List S135) (w : World) (hr0 : Kd.C k118 w A0 l0.length l0) (hc0 : l0.length ≤ c0) (h : impl_NewCopies.f k l0 = some (r1, r2, r3, r4, r5, r6, r7, r8)) :
    Calls Try.prog 12 #[.slice A0 l0.length c0] w fun e w' => ∃ v2_ v5_ v6_ v7_ : Value, e = .returned (.agg #[.int .i64 r1, .int .i64 r2, v2_, .int .i64 r4, .int .i64 r5, v5_, v6_, v7_]) ∧ Kd.R k118 118 w' w.heap.size (fun k_ => some k_ ≠ (v5_ : Value).ownBlock) v2_ r3 ∧ Kd.R k118 118 w' w.heap.size (fun k_ => some k_ ≠ (v2_ : Value).ownBlock) v5_ r6 ∧ Kd.R (Kd.int .i64) 2 w' w.heap.size (fun _ => True) v6_ r7 ∧ Kd.S k135 135 w' w.heap.size (fun k_ => some k_ ≠ (v2_ : Value).ownBlock ∧ some k_ ≠ (v5_ : Value).ownBlock ∧ some k_ ≠ (v6_ : Value).ownBlock) v7_ r8 ∧ Below w.heap.size w w' := by
  unfold impl_NewCopies.f at h
  obtain ⟨⟨e1, e2, e3, e4, e5, e6⟩, hE, h⟩ := Option.bind_eq_some_iff.1 h
  dsimp only at h
  by_cases hz : e1 = 0
  · subst hz
    rw [if_pos rfl] at h
    by_cases hg : l0.length ≤ 1048576 ∧ keysIn l0 = true
    · rw [if_pos hg] at h
      simp only [Option.some.injEq, Prod.mk.injEq] at h
      obtain ⟨rfl, rfl, rfl, rfl, h5, rfl, rfl, rfl⟩ := h
      exact impl_NewCopies_ok A0 c0 l0 k e2 e3 e4 e5 e6 w hr0 hc0 hE hg.1 hg.2 r5 h5.symm
    · rw [if_neg hg] at h
      exact absurd h (by simp)
  · rw [if_neg hz] at h
    simp only [Option.some.injEq, Prod.mk.injEq] at h
    obtain ⟨rfl, rfl, rfl, rfl, rfl, rfl, rfl, rfl⟩ := h
    have hzb : (e1 != 0) = true := bne_iff_ne.2 hz
    have HEng := Aside0.mk (fun W h => impl_NewEngine.calls k A0 c0 l0 e1 e2 e3 e4 e5 e6 W h hc0 hE)
    have HR := Aside0.mk hr0
    have HB00 : Aside0 (Below w.heap.size w (w.alloc (.cells #[.int .i64 0, .int .i64 0, .slice none 0 0, .int .i64 0, .int .i64 0, .slice none 0 0, .slice none 0 0, .slice none 0 0] 30))) := ⟨below_alloc (Below.refl _ _) _⟩
    clear hr0 hc0 hE hz
    have hu := Try.underlying114
    have hu3 := Try.underlying30
    go_enter Try.func12, Try.ntmps12
    go_upto_region 3 with (go_at_call 54; refine (HEng.out _ (Kd.C_below HR.out HB00.out)).mono ?_; rintro e w1 ⟨v4, v5, rfl, hS4, hS5, hb1⟩; obtain ⟨A4, c4, rfl⟩ := Kd.S_slice hS4; obtain ⟨A5, c5, rfl⟩ := Kd.S_slice hS5; have HX1 := Aside0.mk (blk_below (heap_alloc_new w (.cells #[.int .i64 0, .int .i64 0, .slice none 0 0, .int .i64 0, .int .i64 0, .slice none 0 0, .slice none 0 0, .slice none 0 0] 30)) hb1); have HB1 := Aside0.mk (below_step HB00.out hb1); have y0 := (blk_cell (heap_alloc_new w1 (.cells #[.int .i64 e1, .int .i64 e2, .int .i64 e3, .int .i64 e4, .slice A4 e5.length c4, .slice A5 e6.length c5] 114)) 0).trans rfl; clear hb1 hS4 hS5)
    have HX2 := Aside0.mk (blk_alloc HX1.out (.cells #[.int .i64 e1, .int .i64 e2, .int .i64 e3, .int .i64 e4, .slice A4 e5.length c4, .slice A5 e6.length c5] 114))
    have HB2 := Aside0.mk (below_alloc HB1.out (.cells #[.int .i64 e1, .int .i64 e2, .int .i64 e3, .int .i64 e4, .slice A4 e5.length c4, .slice A5 e6.length c5] 114))
    have hr0 := (blk_cell HX2.out 0).trans rfl
    have hf0 := blk_frozen HX2.out 0
    have hr1 := (blk_cell HX2.out 1).trans rfl
    have hf1 := blk_frozen HX2.out 1
    have hr2 := (blk_cell HX2.out 2).trans rfl
    have hf2 := blk_frozen HX2.out 2
    have hr3 := (blk_cell HX2.out 3).trans rfl
    have hf3 := blk_frozen HX2.out 3
    have hr4 := (blk_cell HX2.out 4).trans rfl
    have hf4 := blk_frozen HX2.out 4
    have hr5 := (blk_cell HX2.out 5).trans rfl
    have hf5 := blk_frozen HX2.out 5
    have hr6 := (blk_cell HX2.out 6).trans rfl
    have hf6 := blk_frozen HX2.out 6
    have hr7 := (blk_cell HX2.out 7).trans rfl
    have hf7 := blk_frozen HX2.out 7
    go_wp2
    have t0 := blk_set HX2.out 0 (.int .i64 e1)
    have t1 := blk_set t0 1 (.int .i64 0)
    have t2 := blk_set t1 2 (.slice none 0 0)
    have t3 := blk_set t2 3 (.int .i64 0)
    have t4 := blk_set t3 4 (.int .i64 0)
    have t5 := blk_set t4 5 (.slice none 0 0)
    have t6 := blk_set t5 6 (.slice none 0 0)
    have t7 := blk_set t6 7 (.slice none 0 0)
    refine bodyPost_ret (results_cell_row rfl _ _ w.heap.size 30 #[.int .i64 e1, .int .i64 0, .slice none 0 0, .int .i64 0, .int .i64 0, .slice none 0 0, .slice none 0 0, .slice none 0 0] (0, 0) _ rfl (by simpa using t7) Try.underlying30 rfl (by kernel_rfl)) rfl ⟨_, _, _, _, rfl, Kd.R_nil _ _ _ _ _, Kd.R_nil _ _ _ _ _, Kd.R_nil _ _ _ _ _, Kd.S_nil _ _ _ _ _, below_set (below_set (below_set (below_set (below_set (below_set (below_set (below_set (HB2.out) (Nat.le_refl _)) (Nat.le_refl _)) (Nat.le_refl _)) (Nat.le_refl _)) (Nat.le_refl _)) (Nat.le_refl _)) (Nat.le_refl _)) (Nat.le_refl _)⟩


/-! ### laws_eqCell: function 56 -/
def laws_eqCell.f (a0_0 : Int) (a0_1 : Int) (a1_0 : Int) (a1_1 : Int) : Option (Bool) := if a0_0 = a1_0 then (if a0_1 = a1_1 then (some true) else (some false)) else (some false)
set_option maxHeartbeats 8000000 in
set_option maxRecDepth 100000 in
theorem laws_eqCell.calls (a0_0 : Int) (a0_1 : Int) (a1_0 : Int) (a1_1 : Int) (r : Bool) (w : World) (h : laws_eqCell.f a0_0 a0_1 a1_0 a1_1 = some r) :
    Calls Try.prog 56 #[.agg #[.int .i64 a0_0, .int .i64 a0_1], .agg #[.int .i64 a1_0, .int .i64 a1_1]] w fun e w' => e = .returned (.bool r) ∧ Below w.heap.size w w' := by
  have hu118 := Try.underlying118
  have HB := Aside0.mk (Below.refl w.heap.size w)
  have H : (if a0_0 = a1_0 then (if a0_1 = a1_1 then (some true) else (some false)) else (some false)) = some r := h
  clear h
  by_cases c3 : a0_0 = a1_0
  · rw [if_pos c3] at H
    have c3b0 : (a0_0 == a1_0) = true := beq_iff_eq.mpr c3
    have c3b1 : (a0_0 != a1_0) = false := bne_eq_false_iff_eq.mpr c3
    clear c3
    by_cases c4 : a0_1 = a1_1
    · rw [if_pos c4] at H
      have c4b0 : (a0_1 == a1_1) = true := beq_iff_eq.mpr c4
      have c4b1 : (a0_1 != a1_1) = false := bne_eq_false_iff_eq.mpr c4
      clear c4
      obtain rfl := Option.some.inj H
      go_enter Try.func56, Try.ntmps56
      go_wp2_with (first | ((with_reducible refine gate_dst (N := 2) rfl ?_); refine box_event ?hg (N := 2) ?hd (cs := #[.int .i64 a0_0, .int .i64 a0_1]) (t := 118) ?hr ?_; (case hd => rfl); (case hg => rfl); (case hr => first | (go_simp; done) | (go_simp; rfl)); intro J0 hg w5 hbox hb; have n0_ := Aside0.mk (below_step bo hb); have n1_ := Aside0.mk (hbox); have n2_ := Aside0.mk ((by rw [hg]; exact (below_size bo) : w.heap.size ≤ J0)); have n3_ := Aside0.mk ((by rw [hg]; exact (below_size bo) : w.heap.size ≤ J0)); clear HB; have HB := n0_; have J1 := n1_; have J8 := n2_; have J3 := n3_; clear n0_ n1_ n2_ n3_; clear hb hbox hg) | ((with_reducible refine gate_dst (N := 3) rfl ?_); refine box_event ?hg (N := 3) ?hd (cs := #[.int .i64 a1_0, .int .i64 a1_1]) (t := 118) ?hr ?_; (case hd => rfl); (case hg => rfl); (case hr => first | (go_simp; done) | (go_simp; rfl)); intro J2 hg w6 hbox hb; have n0_ := Aside0.mk (blk_below (g := J0) (o := .cells #[.int .i64 a0_0, .int .i64 a0_1] 118 (0, 0)) (by (with_reducible repeat (first | refine blk_drewN ?_ _ | refine blk_drew ?_ | refine blk_alloc ?_ _)); exact J1.out) hb); have n1_ := Aside0.mk (below_step (by repeat (first | (with_reducible first | exact HB.out | apply below_alloc | apply pw_below_drewN | apply below_drew1 | refine below_set ?_ J3.out) | exact HB.out)) hb); have n2_ := Aside0.mk (hbox); have n3_ := Aside0.mk ((by rw [hg]; exact (below_size (by repeat (first | (with_reducible first | exact HB.out | apply below_alloc | apply pw_below_drewN | apply below_drew1 | refine below_set ?_ J3.out) | exact HB.out))) : w.heap.size ≤ J2)); have n4_ := Aside0.mk ((by rw [hg]; exact (below_size (by repeat (first | (with_reducible first | exact HB.out | apply below_alloc | apply pw_below_drewN | apply below_drew1 | refine below_set ?_ J3.out) | exact HB.out))) : w.heap.size ≤ J2)); have n5_ := Aside0.mk ((by rw [hg]; exact Nat.ne_of_lt (blk_lt (g := J0) (o := .cells #[.int .i64 a0_0, .int .i64 a0_1] 118 (0, 0)) (by (with_reducible repeat (first | refine blk_drewN ?_ _ | refine blk_drew ?_ | refine blk_alloc ?_ _)); exact J1.out)) : J0 ≠ J2)); have n6_ := Aside0.mk ((by rw [hg]; exact Nat.ne_of_gt (blk_lt (g := J0) (o := .cells #[.int .i64 a0_0, .int .i64 a0_1] 118 (0, 0)) (by (with_reducible repeat (first | refine blk_drewN ?_ _ | refine blk_drew ?_ | refine blk_alloc ?_ _)); exact J1.out)) : J2 ≠ J0)); clear J1; clear HB; have J1 := n0_; have HB := n1_; have J4 := n2_; have J9 := n3_; have J7 := n4_; have J5 := n5_; have J6 := n6_; clear n0_ n1_ n2_ n3_ n4_ n5_ n6_; clear hb hbox hg; have hnb7 := J5.out; have hnc7 := J6.out; have Jq : w6.cell? ⟨J0, 0, none⟩ = some (.int .i64 a0_0) := (blk_cell J1.out 0).trans rfl; have Jr : w6.cell? ⟨J0, 1, none⟩ = some (.int .i64 a0_1) := (blk_cell J1.out 1).trans rfl; have Js := blk_frozen J1.out 0; have Jt := blk_frozen J1.out 1; have Ju : w6.cell? ⟨J2, 0, none⟩ = some (.int .i64 a1_0) := (blk_cell J4.out 0).trans rfl; have Jv : w6.cell? ⟨J2, 1, none⟩ = some (.int .i64 a1_1) := (blk_cell J4.out 1).trans rfl; have Jw := blk_frozen J4.out 0; have Jx := blk_frozen J4.out 1))
      go_ret
      exact ⟨by first | rfl | (simp [errW_none, errW_some] <;> rfl) | (simp [*, errW_none, errW_some] <;> rfl), by repeat (first | (with_reducible first | exact HB.out | apply below_alloc | apply pw_below_drewN | apply below_drew1 | refine below_set ?_ J3.out | refine below_set ?_ J7.out) | exact HB.out)⟩
    · rw [if_neg c4] at H
      have c4b0 : (a0_1 == a1_1) = false := beq_eq_false_iff_ne.mpr c4
      have c4b1 : (a0_1 != a1_1) = true := bne_iff_ne.mpr c4
      obtain rfl := Option.some.inj H
      go_enter Try.func56, Try.ntmps56
      go_wp2_with (first | ((with_reducible refine gate_dst (N := 2) rfl ?_); refine box_event ?hg (N := 2) ?hd (cs := #[.int .i64 a0_0, .int .i64 a0_1]) (t := 118) ?hr ?_; (case hd => rfl); (case hg => rfl); (case hr => first | (go_simp; done) | (go_simp; rfl)); intro J0 hg w10 hbox hb; have n0_ := Aside0.mk (below_step bo hb); have n1_ := Aside0.mk (hbox); have n2_ := Aside0.mk ((by rw [hg]; exact (below_size bo) : w.heap.size ≤ J0)); have n3_ := Aside0.mk ((by rw [hg]; exact (below_size bo) : w.heap.size ≤ J0)); clear HB; have HB := n0_; have J1 := n1_; have J8 := n2_; have J3 := n3_; clear n0_ n1_ n2_ n3_; clear hb hbox hg) | ((with_reducible refine gate_dst (N := 3) rfl ?_); refine box_event ?hg (N := 3) ?hd (cs := #[.int .i64 a1_0, .int .i64 a1_1]) (t := 118) ?hr ?_; (case hd => rfl); (case hg => rfl); (case hr => first | (go_simp; done) | (go_simp; rfl)); intro J2 hg w11 hbox hb; have n0_ := Aside0.mk (blk_below (g := J0) (o := .cells #[.int .i64 a0_0, .int .i64 a0_1] 118 (0, 0)) (by (with_reducible repeat (first | refine blk_drewN ?_ _ | refine blk_drew ?_ | refine blk_alloc ?_ _)); exact J1.out) hb); have n1_ := Aside0.mk (below_step (by repeat (first | (with_reducible first | exact HB.out | apply below_alloc | apply pw_below_drewN | apply below_drew1 | refine below_set ?_ J3.out) | exact HB.out)) hb); have n2_ := Aside0.mk (hbox); have n3_ := Aside0.mk ((by rw [hg]; exact (below_size (by repeat (first | (with_reducible first | exact HB.out | apply below_alloc | apply pw_below_drewN | apply below_drew1 | refine below_set ?_ J3.out) | exact HB.out))) : w.heap.size ≤ J2)); have n4_ := Aside0.mk ((by rw [hg]; exact (below_size (by repeat (first | (with_reducible first | exact HB.out | apply below_alloc | apply pw_below_drewN | apply below_drew1 | refine below_set ?_ J3.out) | exact HB.out))) : w.heap.size ≤ J2)); have n5_ := Aside0.mk ((by rw [hg]; exact Nat.ne_of_lt (blk_lt (g := J0) (o := .cells #[.int .i64 a0_0, .int .i64 a0_1] 118 (0, 0)) (by (with_reducible repeat (first | refine blk_drewN ?_ _ | refine blk_drew ?_ | refine blk_alloc ?_ _)); exact J1.out)) : J0 ≠ J2)); have n6_ := Aside0.mk ((by rw [hg]; exact Nat.ne_of_gt (blk_lt (g := J0) (o := .cells #[.int .i64 a0_0, .int .i64 a0_1] 118 (0, 0)) (by (with_reducible repeat (first | refine blk_drewN ?_ _ | refine blk_drew ?_ | refine blk_alloc ?_ _)); exact J1.out)) : J2 ≠ J0)); clear J1; clear HB; have J1 := n0_; have HB := n1_; have J4 := n2_; have J9 := n3_; have J7 := n4_; have J5 := n5_; have J6 := n6_; clear n0_ n1_ n2_ n3_ n4_ n5_ n6_; clear hb hbox hg; have hnb12 := J5.out; have hnc12 := J6.out; have Ja : w11.cell? ⟨J0, 0, none⟩ = some (.int .i64 a0_0) := (blk_cell J1.out 0).trans rfl; have Jb : w11.cell? ⟨J0, 1, none⟩ = some (.int .i64 a0_1) := (blk_cell J1.out 1).trans rfl; have Jc := blk_frozen J1.out 0; have Jd := blk_frozen J1.out 1; have Je : w11.cell? ⟨J2, 0, none⟩ = some (.int .i64 a1_0) := (blk_cell J4.out 0).trans rfl; have Jf : w11.cell? ⟨J2, 1, none⟩ = some (.int .i64 a1_1) := (blk_cell J4.out 1).trans rfl; have Jg := blk_frozen J4.out 0; have Jh := blk_frozen J4.out 1))
      go_ret
      exact ⟨by first | rfl | (simp [errW_none, errW_some] <;> rfl) | (simp [*, errW_none, errW_some] <;> rfl), by repeat (first | (with_reducible first | exact HB.out | apply below_alloc | apply pw_below_drewN | apply below_drew1 | refine below_set ?_ J3.out | refine below_set ?_ J7.out) | exact HB.out)⟩
  · rw [if_neg c3] at H
    have c3b0 : (a0_0 == a1_0) = false := beq_eq_false_iff_ne.mpr c3
    have c3b1 : (a0_0 != a1_0) = true := bne_iff_ne.mpr c3
    obtain rfl := Option.some.inj H
    go_enter Try.func56, Try.ntmps56
    go_wp2_with (first | ((with_reducible refine gate_dst (N := 2) rfl ?_); refine box_event ?hg (N := 2) ?hd (cs := #[.int .i64 a0_0, .int .i64 a0_1]) (t := 118) ?hr ?_; (case hd => rfl); (case hg => rfl); (case hr => first | (go_simp; done) | (go_simp; rfl)); intro J0 hg w15 hbox hb; have n0_ := Aside0.mk (below_step bo hb); have n1_ := Aside0.mk (hbox); have n2_ := Aside0.mk ((by rw [hg]; exact (below_size bo) : w.heap.size ≤ J0)); have n3_ := Aside0.mk ((by rw [hg]; exact (below_size bo) : w.heap.size ≤ J0)); clear HB; have HB := n0_; have J1 := n1_; have J8 := n2_; have J3 := n3_; clear n0_ n1_ n2_ n3_; clear hb hbox hg) | ((with_reducible refine gate_dst (N := 3) rfl ?_); refine box_event ?hg (N := 3) ?hd (cs := #[.int .i64 a1_0, .int .i64 a1_1]) (t := 118) ?hr ?_; (case hd => rfl); (case hg => rfl); (case hr => first | (go_simp; done) | (go_simp; rfl)); intro J2 hg w16 hbox hb; have n0_ := Aside0.mk (blk_below (g := J0) (o := .cells #[.int .i64 a0_0, .int .i64 a0_1] 118 (0, 0)) (by (with_reducible repeat (first | refine blk_drewN ?_ _ | refine blk_drew ?_ | refine blk_alloc ?_ _)); exact J1.out) hb); have n1_ := Aside0.mk (below_step (by repeat (first | (with_reducible first | exact HB.out | apply below_alloc | apply pw_below_drewN | apply below_drew1 | refine below_set ?_ J3.out) | exact HB.out)) hb); have n2_ := Aside0.mk (hbox); have n3_ := Aside0.mk ((by rw [hg]; exact (below_size (by repeat (first | (with_reducible first | exact HB.out | apply below_alloc | apply pw_below_drewN | apply below_drew1 | refine below_set ?_ J3.out) | exact HB.out))) : w.heap.size ≤ J2)); have n4_ := Aside0.mk ((by rw [hg]; exact (below_size (by repeat (first | (with_reducible first | exact HB.out | apply below_alloc | apply pw_below_drewN | apply below_drew1 | refine below_set ?_ J3.out) | exact HB.out))) : w.heap.size ≤ J2)); have n5_ := Aside0.mk ((by rw [hg]; exact Nat.ne_of_lt (blk_lt (g := J0) (o := .cells #[.int .i64 a0_0, .int .i64 a0_1] 118 (0, 0)) (by (with_reducible repeat (first | refine blk_drewN ?_ _ | refine blk_drew ?_ | refine blk_alloc ?_ _)); exact J1.out)) : J0 ≠ J2)); have n6_ := Aside0.mk ((by rw [hg]; exact Nat.ne_of_gt (blk_lt (g := J0) (o := .cells #[.int .i64 a0_0, .int .i64 a0_1] 118 (0, 0)) (by (with_reducible repeat (first | refine blk_drewN ?_ _ | refine blk_drew ?_ | refine blk_alloc ?_ _)); exact J1.out)) : J2 ≠ J0)); clear J1; clear HB; have J1 := n0_; have HB := n1_; have J4 := n2_; have J9 := n3_; have J7 := n4_; have J5 := n5_; have J6 := n6_; clear n0_ n1_ n2_ n3_ n4_ n5_ n6_; clear hb hbox hg; have hnb17 := J5.out; have hnc17 := J6.out; have Ji : w16.cell? ⟨J0, 0, none⟩ = some (.int .i64 a0_0) := (blk_cell J1.out 0).trans rfl; have Jj : w16.cell? ⟨J0, 1, none⟩ = some (.int .i64 a0_1) := (blk_cell J1.out 1).trans rfl; have Jk := blk_frozen J1.out 0; have Jl := blk_frozen J1.out 1; have Jm : w16.cell? ⟨J2, 0, none⟩ = some (.int .i64 a1_0) := (blk_cell J4.out 0).trans rfl; have Jn : w16.cell? ⟨J2, 1, none⟩ = some (.int .i64 a1_1) := (blk_cell J4.out 1).trans rfl; have Jo := blk_frozen J4.out 0; have Jp := blk_frozen J4.out 1))
    go_ret
    exact ⟨by first | rfl | (simp [errW_none, errW_some] <;> rfl) | (simp [*, errW_none, errW_some] <;> rfl), by repeat (first | (with_reducible first | exact HB.out | apply below_alloc | apply pw_below_drewN | apply below_drew1 | refine below_set ?_ J3.out | refine below_set ?_ J7.out) | exact HB.out)⟩

end Go.Proofs.Ytbppgngfiijclaa.XFnExactNewCopies
