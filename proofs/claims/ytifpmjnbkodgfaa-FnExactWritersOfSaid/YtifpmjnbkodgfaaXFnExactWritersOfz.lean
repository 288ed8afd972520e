/- The law FnExactWritersOf answers true at every input: its plain statement, its plain lemmas and its row; no condition. Written by a program of this session. -/
import Derived.Test.YtifpmjnbkodgfaaXFnExactWritersOfy
import Derived.Test.YtifpmjnbkodgfaaXPure
namespace Go.Proofs.Ytifpmjnbkodgfaa.XFnExactWritersOf
open Go.RowKit Go.Proofs.YtifpmjnbkodgfaaW.PrintWords Go.Proofs.YtifpmjnbkodgfaaW.PrintLast Go.Proofs.YtifpmjnbkodgfaaW.PrintMore
set_option linter.unusedVariables false
set_option linter.unusedSimpArgs false
theorem laws_szHopS.ev (l : List (S72)) (a : Int) (h0 : 0 ≤ a) (h1 : a ≤ 1048576) (hl : l.length ≤ maxLen) : ∃ r, laws_szHopS.f l a = some r ∧ r ≤ a ∧ (0 ≤ r → (l.length ≤ 1048576)) := by
  unfold maxLen at hl
  unfold laws_szHopS.f
  rw [wrap_in (a - (l.length : Int)) (by omega) (by omega)]
  by_cases h : a - (l.length : Int) < 0
  · rw [if_pos h]; exact ⟨-1, rfl, by omega, fun hh => absurd hh (by omega)⟩
  · rw [if_neg h]; exact ⟨_, rfl, by omega, fun _ => by omega⟩
def cv72 (x : S72) : S67 := ⟨x.f0, x.f1, x.f2, x.f3⟩
theorem laws_toHop.ev (x : S72) : Ev (fun k => laws_toHop.f x.f0 x.f1 x.f2 x.f3) ((cv72 x).f0, (cv72 x).f1, (cv72 x).f2, (cv72 x).f3) := Ev.eq rfl
theorem laws_toHopS.ev (l : List (S72)) (h : (l.length ≤ 1048576)) : Ev (fun k => laws_toHopS.f k l) (l.map cv72) := by
  have hl : l.length ≤ 1048576 := h
  have key : ∀ (d i : Nat) (acc : List (S67)), i + d = l.length → acc.length = l.length → (∀ j, j < i → acc[j]? = ((l.map cv72))[j]?) → Ev (fun k => laws_toHopS.l0 k l acc (i : Int)) (l.map cv72) := by
    intro d
    induction d with
    | zero =>
      intro i acc hi ha hj
      refine Ev.step (f := fun _ => some acc) (fun k => ?_) (Ev.val (Ev.now acc) (ext_upto (by simp [ha]) (fun j hjl => hj j (by omega))))
      simp only [laws_toHopS.l0]
      rw [if_neg (by omega)]
    | succ d ih =>
      intro i acc hi ha hj
      have h1 : (i : Int) < (l.length : Int) := by omega
      have h2 : (i : Int) < (acc.length : Int) := by omega
      have h0 : (0 : Int) ≤ (i : Int) := by omega
      have hw := wrap_nat i l.length (by omega) (by omega)
      have hs := ih (i + 1) (acc.set i (cv72 (rd_T72 l (i : Int)))) (by omega) (by simp [ha]) (fun j hjl => ?_)
      · refine Ev.step (f := fun k => (laws_toHop.f (rd_T72 l (i : Int)).f0 (rd_T72 l (i : Int)).f1 (rd_T72 l (i : Int)).f2 (rd_T72 l (i : Int)).f3).bind fun t => laws_toHopS.l0 k l (acc.set i (⟨t.1, t.2.1, t.2.2.1, t.2.2.2⟩ : S67)) ((i + 1 : Nat) : Int)) (fun k => ?_) (Ev.bind (laws_toHop.ev (rd_T72 l (i : Int))) hs)
        simp only [laws_toHopS.l0, if_pos h1, if_pos h0, if_pos h2, hw, Int.toNat_natCast]
      · rcases Nat.lt_or_ge j i with hlt | hge
        · rw [List.getElem?_set_ne (by omega)]; exact hj j hlt
        · obtain rfl : j = i := by omega
          rw [List.getElem?_set_self (by omega)]
          exact (get_map l _ j z72 (by omega)).symm
  unfold laws_toHopS.f
  refine Ev.pos (by omega) (Ev.pos (by omega) ?_)
  refine key l.length 0 _ (by omega) (by simp) (fun j hj => absurd hj (by omega))
theorem laws_eqHop.ev (x0 : Int) (x1 : Int) (x2 : Int) (x3 : Int) : Ev (fun k => laws_eqHop.f x0 x1 x2 x3 x0 x1 x2 x3) true := by
  unfold laws_eqHop.f
  repeat (first | exact Ev.now _ | refine Ev.pos rfl ?_ | (refine Ev.bind (Ev.eq rfl) ?_; try dsimp only))
theorem laws_eqHopS.ev (l : List (S67)) (hl : l.length ≤ 9223372036854775807) : Ev (fun k => laws_eqHopS.f k l l) true := by
  have key : ∀ (d i : Nat), i + d = l.length → Ev (fun k => laws_eqHopS.l0 k l l (i : Int)) true := by
    intro d
    induction d with
    | zero =>
      intro i hi
      refine Ev.step (f := fun _ => some true) (fun k => ?_) (Ev.now _)
      simp only [laws_eqHopS.l0]
      rw [if_neg (by omega)]
    | succ d ih =>
      intro i hi
      have h1 : (i : Int) < (l.length : Int) := by omega
      have h0 : (0 : Int) ≤ (i : Int) := by omega
      have hw := wrap_nat i l.length (by omega) (by omega)
      refine Ev.step (f := fun k => (laws_eqHop.f (rd_T67 l (i : Int)).f0 (rd_T67 l (i : Int)).f1 (rd_T67 l (i : Int)).f2 (rd_T67 l (i : Int)).f3 (rd_T67 l (i : Int)).f0 (rd_T67 l (i : Int)).f1 (rd_T67 l (i : Int)).f2 (rd_T67 l (i : Int)).f3).bind fun t => if t = true then laws_eqHopS.l0 k l l ((i + 1 : Nat) : Int) else some false) (fun k => ?_) (Ev.bind (laws_eqHop.ev (rd_T67 l (i : Int)).f0 (rd_T67 l (i : Int)).f1 (rd_T67 l (i : Int)).f2 (rd_T67 l (i : Int)).f3) (Ev.pos rfl (ih (i + 1) (by omega))))
      simp only [laws_eqHopS.l0, if_pos h1, if_pos h0, hw]
  unfold laws_eqHopS.f
  exact Ev.pos rfl (key l.length 0 (by omega))
theorem laws_eqInt64S.ev (l : List Int) (hl : l.length ≤ 9223372036854775807) : Ev (fun k => laws_eqInt64S.f k l l) true := by
  have key : ∀ (d i : Nat), i + d = l.length → Ev (fun k => laws_eqInt64S.l0 k l l (i : Int)) true := by
    intro d
    induction d with
    | zero =>
      intro i hi
      refine Ev.step (f := fun _ => some true) (fun k => ?_) (Ev.now _)
      simp only [laws_eqInt64S.l0]
      rw [if_neg (by omega)]
    | succ d ih =>
      intro i hi
      have h1 : (i : Int) < (l.length : Int) := by omega
      have h0 : (0 : Int) ≤ (i : Int) := by omega
      have hw := wrap_nat i l.length (by omega) (by omega)
      refine Ev.step (fun k => ?_) (ih (i + 1) (by omega))
      simp only [laws_eqInt64S.l0, if_pos h1, if_pos h0, hw, if_true]
  unfold laws_eqInt64S.f
  exact Ev.pos rfl (key l.length 0 (by omega))
theorem laws_eqIntsResult.ev (x0 : Int) (x1 : List Int) (h1 : x1.length ≤ 9223372036854775807) : Ev (fun k => laws_eqIntsResult.f k x0 x1 x0 x1) true := by
  unfold laws_eqIntsResult.f
  repeat (first | exact Ev.now _ | refine Ev.pos rfl ?_ | (refine Ev.bind (laws_eqInt64S.ev x1 h1) ?_; try dsimp only) | (refine Ev.bind (Ev.eq rfl) ?_; try dsimp only))
theorem laws_markHopS.key : ∀ (d i : Nat) (x : List (S67)) (a : Int), i + d = x.length → 0 ≤ a → a + 4 * (d : Int) ≤ 4611686018427387904 → x.length ≤ 9223372036854775807 → ∃ x', Ev (fun k => laws_markHopS.l0 k x a (i : Int)) (a + 4 * (d : Int), x') ∧ x'.length = x.length ∧ (∀ j, j < i → x'[j]? = x[j]?) := by
  intro d
  induction d with
  | zero =>
    intro i x a hi h0 h1 hl
    refine ⟨x, ?_, rfl, fun _ _ => rfl⟩
    · refine Ev.step (f := fun _ => some (a, x)) (fun k => ?_) (Ev.val (Ev.now _) (by simp))
      simp only [laws_markHopS.l0]
      rw [if_neg (by omega)]
  | succ d ih =>
    intro i x a hi h0 h1 hl
    have g1 : (i : Int) < (x.length : Int) := by omega
    have g0 : (0 : Int) ≤ (i : Int) := by omega
    have hw := wrap_nat i x.length (by omega) (by omega)
    have w1 : wrap64 (a + 1) = a + 1 := by rw [wrap_in _ (by omega) (by omega)]
    have w2 : wrap64 (a + 1 + 1) = a + 2 := by rw [wrap_in _ (by omega) (by omega)]; omega
    have w3 : wrap64 (a + 2 + 1) = a + 3 := by rw [wrap_in _ (by omega) (by omega)]; omega
    have w4 : wrap64 (a + 3 + 1) = a + 4 := by rw [wrap_in _ (by omega) (by omega)]; omega
    obtain ⟨x', h2, h3, h4⟩ := ih (i + 1) (x.set i (⟨a, a + 1, a + 2, a + 3⟩ : S67)) (a + 4) (by simp; omega) (by omega) (by omega) (by simpa using hl)
    have hrd : ∀ (y : List (S67)) (v : S67), y.length = x.length → rd_T67 (y.set i v) (i : Int) = v := fun y v hy => getD_set_self _ _ _ _ (by omega)
    refine ⟨x', ?_, by rw [h3]; simp, fun j hj => ?_⟩
    · refine Ev.step (fun k => ?_) (Ev.val h2 (by rw [show a + 4 + 4 * (d : Int) = a + 4 * ((d + 1 : Nat) : Int) from by omega]))
      simp only [laws_markHopS.l0, if_pos g1, if_pos g0, hw, Int.toNat_natCast, Option.bind_some, w1, w2, w3, w4]
      repeat (first | rw [hrd x _ rfl] | rw [hrd _ _ (by simp)])
      simp only [List.set_set]
    · rw [h4 j (by omega), List.getElem?_set_ne (by omega)]
theorem laws_markHopS.ev (x : List (S67)) (a : Int) (h0 : 0 ≤ a) (h1 : a + 4 * (x.length : Int) ≤ 4611686018427387904) : ∃ x' b, Ev (fun k => laws_markHopS.f k x a) (b, x') ∧ a ≤ b ∧ b = a + 4 * (x.length : Int) := by
  obtain ⟨x', h2, _, _⟩ := laws_markHopS.key x.length 0 x a (by omega) h0 h1 (by omega)
  refine ⟨x', _, (by unfold laws_markHopS.f; exact h2), by omega, rfl⟩
theorem laws_markInt64S.key : ∀ (d i : Nat) (x : List Int) (a : Int), i + d = x.length → 0 ≤ a → a + 1 * (d : Int) ≤ 4611686018427387904 → x.length ≤ 9223372036854775807 → ∃ x', Ev (fun k => laws_markInt64S.l0 k x a (i : Int)) (a + 1 * (d : Int), x') ∧ x'.length = x.length ∧ (∀ j, j < i → x'[j]? = x[j]?) ∧ Ev (fun k => laws_heldInt64S.l0 k x' a (i : Int)) (a + 1 * (d : Int)) := by
  intro d
  induction d with
  | zero =>
    intro i x a hi h0 h1 hl
    refine ⟨x, ?_, rfl, fun _ _ => rfl, ?_⟩
    · refine Ev.step (f := fun _ => some (a, x)) (fun k => ?_) (Ev.val (Ev.now _) (by simp))
      simp only [laws_markInt64S.l0]
      rw [if_neg (by omega)]
    · refine Ev.step (f := fun _ => some a) (fun k => ?_) (Ev.val (Ev.now _) (by simp))
      simp only [laws_heldInt64S.l0]
      rw [if_neg (by omega)]
  | succ d ih =>
    intro i x a hi h0 h1 hl
    have g1 : (i : Int) < (x.length : Int) := by omega
    have g0 : (0 : Int) ≤ (i : Int) := by omega
    have hw := wrap_nat i x.length (by omega) (by omega)
    have w1 : wrap64 (a + 1) = a + 1 := by rw [wrap_in _ (by omega) (by omega)]
    obtain ⟨x', h2, h3, h4, h5⟩ := ih (i + 1) (x.set i a) (a + 1) (by simp; omega) (by omega) (by omega) (by simpa using hl)
    refine ⟨x', ?_, by rw [h3]; simp, fun j hj => ?_, ?_⟩
    · refine Ev.step (fun k => ?_) (Ev.val h2 (by rw [show a + 1 + 1 * (d : Int) = a + 1 * ((d + 1 : Nat) : Int) from by omega]))
      simp only [laws_markInt64S.l0, if_pos g1, if_pos g0, hw, Int.toNat_natCast, w1]
    · rw [h4 j (by omega), List.getElem?_set_ne (by omega)]
    · have hx : rd x' (i : Int) = a := by
        show x'.getD i 0 = a
        rw [getD_of 0 (h4 i (by omega)), getD_set_self _ _ _ _ (by omega)]
      refine Ev.step (fun k => ?_) (Ev.val h5 (by omega))
      have g1' : (i : Int) < (x'.length : Int) := by rw [h3]; simp; omega
      simp only [laws_heldInt64S.l0, if_pos g1', if_pos g0, hx, if_true, hw, w1]
theorem laws_markInt64S.ev (x : List Int) (a : Int) (h0 : 0 ≤ a) (h1 : a + 1 * (x.length : Int) ≤ 4611686018427387904) : ∃ x' b, Ev (fun k => laws_markInt64S.f k x a) (b, x') ∧ a ≤ b ∧ b = a + 1 * (x.length : Int) ∧ Ev (fun k => laws_heldInt64S.f k x' a) b := by
  obtain ⟨x', h2, _, _, h5⟩ := laws_markInt64S.key x.length 0 x a (by omega) h0 h1 (by omega)
  refine ⟨x', _, (by unfold laws_markInt64S.f; exact h2), by omega, rfl, by unfold laws_heldInt64S.f; exact h5⟩
theorem laws_markIntsResult.ev (x0 : Int) (x1 : List Int) (a : Int) (h0 : 0 ≤ a) (h1 : a + 1 * (x1.length : Int) ≤ 4611686018427387904) : ∃ x' b, Ev (fun k => laws_markIntsResult.f k x0 x1 a) (b, x') ∧ a ≤ b ∧ Ev (fun k => laws_heldIntsResult.f k x0 x' a) b := by
  obtain ⟨x', b, e1, e2, _, e3⟩ := laws_markInt64S.ev x1 a h0 h1
  refine ⟨x', b, ?_, by omega, ?_⟩
  · unfold laws_markIntsResult.f
    exact Ev.bind e1 (Ev.now _)
  · unfold laws_heldIntsResult.f
    exact Ev.bind e3 (Ev.neg (by omega) (Ev.now _))
/-! ### plain: committed -/
theorem commL_len (l : List S67) : (commL l).length ≤ l.length := by
  unfold commL; rw [List.length_map]; exact List.length_filter_le _ _
theorem l10Committed_ev (l : List S67) (hl : l.length ≤ 1048576) : Ev (fun k => spec_l10Committed.f k l) (commL l) := by
  have key : ∀ (d i : Nat) (acc : List Int), i + d = l.length → acc.length ≤ i → Ev (fun k => spec_l10Committed.l0 k l acc (i : Int)) (acc ++ commL (l.drop i)) := by
    intro d
    induction d with
    | zero =>
      intro i acc hi ha
      rw [List.drop_eq_nil_of_le (by omega)]
      refine Ev.step (f := fun _ => some acc) (fun k => ?_) (Ev.val (Ev.now _) (by simp [commL]))
      simp only [spec_l10Committed.l0]
      rw [if_neg (by omega)]
    | succ d ih =>
      intro i acc hi ha
      have h1 : (i : Int) < (l.length : Int) := by omega
      have h0 : (0 : Int) ≤ (i : Int) := by omega
      have h3 : acc.length < 17592186044416 := by omega
      have hw := wrap_nat i l.length (by omega) (by omega)
      have hx : rd_T67 l (i : Int) = l[i]'(by omega) := by
        show l.getD i _ = _
        rw [List.getD_eq_getElem?_getD, List.getElem?_eq_getElem (by omega)]; rfl
      rw [List.drop_eq_getElem_cons (by omega), ← hx]
      generalize hX : rd_T67 l (i : Int) = x at *
      by_cases k4 : x.f0 = 4
      · refine Ev.step (fun k => ?_) (Ev.val (ih (i + 1) (acc ++ [x.f1]) (by omega) (by simp; omega)) (by simp [commL, k4]))
        simp only [spec_l10Committed.l0, if_pos h1, if_pos h0, hX, hw, if_pos k4, if_pos h3]
      · refine Ev.step (fun k => ?_) (Ev.val (ih (i + 1) acc (by omega) (by omega)) (by simp [commL, k4]))
        simp only [spec_l10Committed.l0, if_pos h1, if_pos h0, hX, hw, if_neg k4]
  unfold spec_l10Committed.f
  simpa using key l.length 0 [] (by omega) (by simp)

/-! ### plain: writers -/
theorem l10Wrote_ev (l : List S67) (txn key : Int) (hl : l.length ≤ 9223372036854775807) : Ev (fun k => spec_l10Wrote.f k l txn key) (l.any (wroteP txn key)) := by
  have kk : ∀ (d i : Nat), i + d = l.length → Ev (fun k => spec_l10Wrote.l0 k l txn key (i : Int)) ((l.drop i).any (wroteP txn key)) := by
    intro d
    induction d with
    | zero =>
      intro i hi
      rw [List.drop_eq_nil_of_le (by omega)]
      refine Ev.step (f := fun _ => some false) (fun k => ?_) (Ev.now _)
      simp only [spec_l10Wrote.l0]
      rw [if_neg (by omega)]
    | succ d ih =>
      intro i hi
      have h1 : (i : Int) < (l.length : Int) := by omega
      have h0 : (0 : Int) ≤ (i : Int) := by omega
      have hw := wrap_nat i l.length (by omega) (by omega)
      have hx : rd_T67 l (i : Int) = l[i]'(by omega) := by
        show l.getD i _ = _
        rw [List.getD_eq_getElem?_getD, List.getElem?_eq_getElem (by omega)]; rfl
      have hn := ih (i + 1) (by omega)
      rw [List.drop_eq_getElem_cons (by omega), ← hx]
      generalize hX : rd_T67 l (i : Int) = x at *
      simp only [List.any_cons]
      have hp : wroteP txn key x = (x.f0 == 3 && x.f1 == txn && x.f2 == key) := rfl
      by_cases k0 : x.f0 = 3
      · by_cases k1 : x.f1 = txn
        · by_cases k2 : x.f2 = key
          · refine Ev.step (f := fun _ => some true) (fun k => ?_) (Ev.val (Ev.now _) ?_)
            · simp only [spec_l10Wrote.l0, if_pos h1, if_pos h0, hX, if_pos k0, if_pos k1, if_pos k2]
            · rw [hp]; simp [k0, k1, k2]
          · refine Ev.step (fun k => ?_) (Ev.val hn ?_)
            · simp only [spec_l10Wrote.l0, if_pos h1, if_pos h0, hX, if_pos k0, if_pos k1, if_neg k2, hw]
            · rw [hp, beq_eq_false_iff_ne.2 k2]; simp
        · refine Ev.step (fun k => ?_) (Ev.val hn ?_)
          · simp only [spec_l10Wrote.l0, if_pos h1, if_pos h0, hX, if_pos k0, if_neg k1, hw]
          · rw [hp, beq_eq_false_iff_ne.2 k1]; simp
      · refine Ev.step (fun k => ?_) (Ev.val hn ?_)
        · simp only [spec_l10Wrote.l0, if_pos h1, if_pos h0, hX, if_neg k0, hw]
        · rw [hp, beq_eq_false_iff_ne.2 k0]; simp
  unfold spec_l10Wrote.f
  simpa using kk l.length 0 (by omega)
theorem l10Writers_ev (l : List S67) (key : Int) (hl : l.length ≤ 1048576) : Ev (fun k => spec_l10Writers.f k l key) (writersL l key) := by
  have hc := commL_len l
  have kk : ∀ (c : List Int), c.length ≤ 1048576 → ∀ (d i : Nat) (acc : List Int), i + d = c.length → acc.length ≤ i → Ev (fun k => spec_l10Writers.l0 k l key acc c (i : Int)) (acc ++ (c.drop i).filter (fun t => l.any (wroteP t key))) := by
    intro c hcl d
    induction d with
    | zero =>
      intro i acc hi ha
      rw [List.drop_eq_nil_of_le (by omega)]
      refine Ev.step (f := fun _ => some acc) (fun k => ?_) (Ev.val (Ev.now _) (by simp))
      simp only [spec_l10Writers.l0]
      rw [if_neg (by omega)]
    | succ d ih =>
      intro i acc hi ha
      have h1 : (i : Int) < (c.length : Int) := by omega
      have h0 : (0 : Int) ≤ (i : Int) := by omega
      have h3 : acc.length < 17592186044416 := by omega
      have hw := wrap_nat i c.length (by omega) (by omega)
      have hx : rd c (i : Int) = c[i]'(by omega) := by
        show c.getD i _ = _
        rw [List.getD_eq_getElem?_getD, List.getElem?_eq_getElem (by omega)]; rfl
      rw [List.drop_eq_getElem_cons (by omega), ← hx]
      have hwr := l10Wrote_ev l (rd c (i : Int)) key (by omega)
      refine Ev.step (f := fun k => (spec_l10Wrote.f k l (rd c (i : Int)) key).bind fun t => if t = true then spec_l10Writers.l0 k l key (acc ++ [rd c (i : Int)]) c ((i + 1 : Nat) : Int) else spec_l10Writers.l0 k l key acc c ((i + 1 : Nat) : Int)) (fun k => ?_) (Ev.bind hwr ?_)
      · simp only [spec_l10Writers.l0, if_pos h1, if_pos h0, hw, if_pos h3]
      · generalize rd c (i : Int) = x at *
        cases hb : l.any (wroteP x key) with
        | true => exact Ev.pos rfl (Ev.val (ih (i + 1) (acc ++ [x]) (by omega) (by simp; omega)) (by simp [List.filter_cons, hb]))
        | false => exact Ev.neg (by simp) (Ev.val (ih (i + 1) acc (by omega) (by omega)) (by simp [List.filter_cons, hb]))
  unfold spec_l10Writers.f
  refine Ev.bind (l10Committed_ev l hl) ?_
  unfold writersL
  simpa using kk (commL l) (by omega) (commL l).length 0 [] (by omega) (by simp)
theorem writersL_len (l : List S67) (key : Int) : (writersL l key).length ≤ l.length := Nat.le_trans (List.length_filter_le _ _) (commL_len l)
theorem writers_eq (l : List S67) (key : Int) (hl : l.length ≤ 1048576) : impl_writers.f l key = some (writersL l key) := if_pos hl

/-! ### plain: hist -/
theorem l1In_eq (a b c : Int) : spec_l1In.f a b c = some (withinB a b c) := by
  unfold spec_l1In.f withinB
  by_cases h : b ≤ a
  · rw [if_pos h]; simp [h]
  · rw [if_neg h]; simp [h]
theorem l1Key_eq (a : Int) : spec_l1Key.f a = some (withinB a 0 31) := by
  unfold spec_l1Key.f; rw [l1In_eq]; rfl
def stStep (a : Int) (s : Int) (x : S67) : Int := if x.f1 = a then (if x.f0 = 4 then 2 else if x.f0 = 5 then 2 else if x.f0 = 1 then 1 else s) else s
def stOf (l : List S67) (a : Int) : Int := l.foldl (stStep a) 0
theorem stOf_snoc (l : List S67) (x : S67) (a : Int) : stOf (l ++ [x]) a = stStep a (stOf l a) x := by
  unfold stOf; rw [List.foldl_append]; rfl
theorem l10State_ev (l : List S67) (a : Int) (hl : l.length ≤ 9223372036854775807) : Ev (fun k => spec_l10State.f k l a) (stOf l a) := by
  have key : ∀ (d i : Nat) (s : Int), i + d = l.length → Ev (fun k => spec_l10State.l0 k l a s (i : Int)) ((l.drop i).foldl (stStep a) s) := by
    intro d
    induction d with
    | zero =>
      intro i s hi
      rw [List.drop_eq_nil_of_le (by omega)]
      refine Ev.step (f := fun _ => some s) (fun k => ?_) (Ev.now _)
      simp only [spec_l10State.l0]
      rw [if_neg (by omega)]
    | succ d ih =>
      intro i s hi
      have h1 : (i : Int) < (l.length : Int) := by omega
      have h0 : (0 : Int) ≤ (i : Int) := by omega
      have hw := wrap_nat i l.length (by omega) (by omega)
      have hx : rd_T67 l (i : Int) = l[i]'(by omega) := by
        show l.getD i _ = _
        rw [List.getD_eq_getElem?_getD, List.getElem?_eq_getElem (by omega)]; rfl
      rw [List.drop_eq_getElem_cons (by omega), List.foldl_cons, ← hx]
      generalize hX : rd_T67 l (i : Int) = x at *
      refine Ev.step (f := fun k => spec_l10State.l0 k l a (stStep a s x) ((i + 1 : Nat) : Int)) (fun k => ?_) (ih (i + 1) _ (by omega))
      simp only [spec_l10State.l0, if_pos h1, if_pos h0, hX, hw]
      unfold stStep
      by_cases e1 : x.f1 = a
      · simp only [if_pos e1]
        by_cases k1 : x.f0 = 1
        · simp [k1]
        · by_cases k4 : x.f0 = 4
          · simp [k4]
          · by_cases k5 : x.f0 = 5
            · simp [k5]
            · simp [k1, k4, k5]
      · simp only [if_neg e1]
  unfold spec_l10State.f stOf
  exact key l.length 0 0 (by omega)
def hopCodeS (pre : List S67) (x : S67) : Int :=
  if (!withinB x.f0 1 5 || !withinB x.f1 2 999 || !withinB x.f2 0 31 || !withinB x.f3 0 999) = true then 3
  else if ((!(x.f0 == 2 || x.f0 == 3) && x.f2 != 0) || (x.f0 != 2 && x.f3 != 0)) = true then 1
  else if x.f0 = 1 then (if stOf pre x.f1 = 0 then 0 else 10) else (if stOf pre x.f1 = 1 then 0 else 10)
def histGoS : List S67 → List S67 → Int
  | _, [] => 0
  | pre, x :: xs => if hopCodeS pre x = 0 then histGoS (pre ++ [x]) xs else hopCodeS pre x
theorem specHist_ev (l : List S67) (hl : l.length ≤ 9223372036854775807) : Ev (fun k => spec_HistoryFault.f k l) (if 400 < l.length then 2 else histGoS [] l) := by
  have key : ∀ (d i : Nat), i + d = l.length → Ev (fun k => spec_HistoryFault.l0 k l (i : Int)) (histGoS (l.take i) (l.drop i)) := by
    intro d
    induction d with
    | zero =>
      intro i hi
      rw [List.drop_eq_nil_of_le (by omega)]
      refine Ev.step (f := fun _ => some 0) (fun k => ?_) (Ev.now _)
      simp only [spec_HistoryFault.l0]
      rw [if_neg (by omega)]
    | succ d ih =>
      intro i hi
      have h1 : (i : Int) < (l.length : Int) := by omega
      have h0 : (0 : Int) ≤ (i : Int) := by omega
      have h3 : (i : Int) ≤ (l.length : Int) := by omega
      have hw := wrap_nat i l.length (by omega) (by omega)
      have hx : rd_T67 l (i : Int) = l[i]'(by omega) := by
        show l.getD i _ = _
        rw [List.getD_eq_getElem?_getD, List.getElem?_eq_getElem (by omega)]; rfl
      have hn := ih (i + 1) (by omega)
      have hst := fun a => l10State_ev (l.take i) a (by rw [List.length_take]; omega)
      rw [List.drop_eq_getElem_cons (by omega)]
      rw [List.take_succ_eq_append_getElem (by omega)] at hn
      rw [← hx] at hn ⊢
      have hj2 : ∀ b (y : S67), Ev (fun k => spec_HistoryFault.j2 k l (i : Int) b y.f0 y.f1 y.f2 y.f3) (if b = true then 1 else if (if y.f0 = 1 then (if stOf (l.take i) y.f1 = 0 then 0 else 10) else (if stOf (l.take i) y.f1 = 1 then 0 else 10) : Int) = 0 then histGoS (l.take i ++ [rd_T67 l (i : Int)]) (l.drop (i + 1)) else 10) := by
        intro b y
        cases b with
        | true => exact Ev.step (f := fun _ => some 1) (fun k => by simp only [spec_HistoryFault.j2, if_true]) (Ev.now _)
        | false =>
          refine Ev.step (f := fun k => (spec_l10State.f k (l.take i) y.f1).bind fun t => if y.f0 = 1 then (if t = 0 then spec_HistoryFault.l0 k l ((i + 1 : Nat) : Int) else some 10) else (if t = 1 then spec_HistoryFault.l0 k l ((i + 1 : Nat) : Int) else some 10)) (fun k => ?_) (Ev.bind (hst _) ?_)
          · simp only [spec_HistoryFault.j2, if_pos h0, if_pos h3, hw, Int.toNat_natCast, Bool.false_eq_true, if_false]
          · simp only [Bool.false_eq_true, if_false]
            by_cases k1 : y.f0 = 1
            · by_cases s0 : stOf (l.take i) y.f1 = 0
              · simp only [k1, s0, if_true]; exact hn
              · simp only [k1, s0, if_true, if_false]; exact Ev.now _
            · by_cases s0 : stOf (l.take i) y.f1 = 1
              · simp only [k1, s0, if_true, if_false]; exact hn
              · simp only [k1, s0, if_false]; exact Ev.now _
      have hj1 : ∀ b (y : S67), Ev (fun k => spec_HistoryFault.j1 k l (i : Int) b y.f0 y.f1 y.f2 y.f3) (if b = true then 3 else if ((!(y.f0 == 2 || y.f0 == 3) && y.f2 != 0) || (y.f0 != 2 && y.f3 != 0)) = true then 1 else if (if y.f0 = 1 then (if stOf (l.take i) y.f1 = 0 then 0 else 10) else (if stOf (l.take i) y.f1 = 1 then 0 else 10) : Int) = 0 then histGoS (l.take i ++ [rd_T67 l (i : Int)]) (l.drop (i + 1)) else 10) := by
        intro b y
        cases b with
        | true => exact Ev.step (f := fun _ => some 3) (fun k => by simp only [spec_HistoryFault.j1, if_true]) (Ev.now _)
        | false =>
          refine Ev.val (Ev.step (fun k => ?_) (hj2 ((!(y.f0 == 2 || y.f0 == 3) && y.f2 != 0) || (y.f0 != 2 && y.f3 != 0)) y)) (by simp only [Bool.false_eq_true, if_false])
          simp only [spec_HistoryFault.j1, Bool.false_eq_true, if_false]
          by_cases k2 : y.f0 = 2
          · simp [k2]
          · have b2 : (y.f0 == 2) = false := beq_eq_false_iff_ne.2 k2
            have b2' : (y.f0 != 2) = true := bne_iff_ne.2 k2
            by_cases k3 : y.f3 = 0
            · have b3 : (y.f3 != 0) = false := bne_eq_false_iff_eq.2 k3
              by_cases kk : y.f0 = 3
              · have b4 : (y.f0 == 3) = true := beq_iff_eq.2 kk
                simp only [if_neg k2, if_pos k3, if_pos kk, b2, b2', b3, b4]; rfl
              · have b4 : (y.f0 == 3) = false := beq_eq_false_iff_ne.2 kk
                simp only [if_neg k2, if_pos k3, if_neg kk, b2, b2', b3, b4, Bool.or_false, Bool.not_false, Bool.true_and, Bool.and_false]
            · have b3 : (y.f3 != 0) = true := bne_iff_ne.2 k3
              simp only [if_neg k2, if_neg k3, b2', b3, Bool.and_true, Bool.or_true]
      generalize hX : rd_T67 l (i : Int) = x at *
      refine Ev.val (Ev.step (fun k => ?_) (hj1 (!withinB x.f0 1 5 || !withinB x.f1 2 999 || !withinB x.f2 0 31 || !withinB x.f3 0 999) x)) ?_
      · simp only [spec_HistoryFault.l0, if_pos h1, if_pos h0, hX, l1In_eq, l1Key_eq, Option.bind_some]
        cases withinB x.f0 1 5 with
        | false => rfl
        | true =>
          cases withinB x.f1 2 999 with
          | false => rfl
          | true => cases withinB x.f2 0 31 <;> rfl
      · simp only [histGoS, hopCodeS]
        by_cases c1 : (!withinB x.f0 1 5 || !withinB x.f1 2 999 || !withinB x.f2 0 31 || !withinB x.f3 0 999) = true
        · simp only [if_pos c1]; rfl
        · by_cases c2 : ((!(x.f0 == 2 || x.f0 == 3) && x.f2 != 0) || (x.f0 != 2 && x.f3 != 0)) = true
          · simp only [if_neg c1, if_pos c2]; rfl
          · simp only [if_neg c1, if_neg c2]
            by_cases k1 : x.f0 = 1
            · by_cases s0 : stOf (l.take i) x.f1 = 0 <;> simp [k1, s0]
            · by_cases s0 : stOf (l.take i) x.f1 = 1 <;> simp [k1, s0]
  unfold spec_HistoryFault.f
  by_cases hb : 400 < l.length
  · rw [if_pos hb]; exact Ev.pos (by omega) (Ev.now _)
  · rw [if_neg hb]; exact Ev.neg (by omega) (by simpa using key l.length 0 (by omega))
/-- What is known of the hops ahead: who ended has done so for good. -/
def HistInv (pre : List S67) : Prop := ∀ t, pre.any (impl_has.p t [4, 5]) = true → stOf pre t = 2
theorem st_zero (pre : List S67) (t : Int) : stOf pre t = 0 ↔ pre.any (impl_has.p t [1]) = false ∧ pre.any (impl_has.p t [4, 5]) = false := by
  have h : ∀ (l : List S67) (s : Int), 0 ≤ s → (0 ≤ l.foldl (stStep t) s ∧ (l.foldl (stStep t) s = 0 ↔ s = 0 ∧ l.any (impl_has.p t [1]) = false ∧ l.any (impl_has.p t [4, 5]) = false)) := by
    intro l
    induction l with
    | nil => intro s hs; simp [hs]
    | cons x xs ih =>
      intro s hs
      have hs2 : 0 ≤ stStep t s x := by unfold stStep; repeat (first | omega | split)
      obtain ⟨i1, i2⟩ := ih (stStep t s x) hs2
      refine ⟨by simpa using i1, ?_⟩
      simp only [List.foldl_cons, List.any_cons]
      rw [i2]
      have hp1 : impl_has.p t [1] x = (x.f1 == t && x.f0 == 1) := by unfold impl_has.p; simp only [List.contains_cons, List.contains_nil, Bool.or_false]
      have hp2 : impl_has.p t [4, 5] x = (x.f1 == t && (x.f0 == 4 || x.f0 == 5)) := by unfold impl_has.p; simp only [List.contains_cons, List.contains_nil, Bool.or_false]
      rw [hp1, hp2]
      unfold stStep
      by_cases e1 : x.f1 = t
      · by_cases k4 : x.f0 = 4
        · simp [e1, k4]
        · by_cases k5 : x.f0 = 5
          · simp [e1, k5]
          · by_cases k1 : x.f0 = 1
            · simp [e1, k1]
            · simp [e1, k1, k4, k5]
      · simp [e1]
  simpa [stOf] using (h pre 0 (by omega)).2
theorem st_two (pre : List S67) (t : Int) : stOf pre t = 2 → pre.any (impl_has.p t [4, 5]) = true := by
  have h : ∀ (l : List S67) (s : Int), l.foldl (stStep t) s = 2 → s = 2 ∨ l.any (impl_has.p t [4, 5]) = true := by
    intro l
    induction l with
    | nil => intro s hs; exact .inl (by simpa using hs)
    | cons x xs ih =>
      intro s hs
      simp only [List.foldl_cons] at hs
      rcases ih _ hs with h1 | h1
      · unfold stStep at h1
        by_cases e1 : x.f1 = t
        · by_cases k4 : x.f0 = 4
          · right; simp [impl_has.p, e1, k4]
          · by_cases k5 : x.f0 = 5
            · right; simp [impl_has.p, e1, k5]
            · by_cases k1 : x.f0 = 1
              · simp [e1, k1] at h1
              · left; simpa [e1, k1, k4, k5] using h1
        · left; simpa [e1] using h1
      · right; simp [h1]
  intro h2
  rcases h pre 0 h2 with h3 | h3
  · omega
  · exact h3
theorem st_cases (pre : List S67) (t : Int) : stOf pre t = 0 ∨ stOf pre t = 1 ∨ stOf pre t = 2 := by
  have h : ∀ (l : List S67) (s : Int), (s = 0 ∨ s = 1 ∨ s = 2) → (l.foldl (stStep t) s = 0 ∨ l.foldl (stStep t) s = 1 ∨ l.foldl (stStep t) s = 2) := by
    intro l
    induction l with
    | nil => intro s hs; simpa using hs
    | cons x xs ih =>
      intro s hs
      refine ih _ ?_
      unfold stStep
      repeat (first | omega | split)
  exact h pre 0 (.inl rfl)
theorem hopCode_eq (pre : List S67) (x : S67) (hi : HistInv pre) : hopCode pre x = hopCodeS pre x := by
  unfold hopCode hopCodeS
  rw [idxP_any, idxP_any]
  by_cases c1 : (!withinB x.f0 1 5 || !withinB x.f1 2 999 || !withinB x.f2 0 31 || !withinB x.f3 0 999) = true
  · simp only [if_pos c1]
  · by_cases c2 : ((!(x.f0 == 2 || x.f0 == 3) && x.f2 != 0) || (x.f0 != 2 && x.f3 != 0)) = true
    · simp only [if_neg c1, if_pos c2]
    · simp only [if_neg c1, if_neg c2]
      have z := st_zero pre x.f1
      have t2 := st_two pre x.f1
      have i2 := hi x.f1
      have c3 := st_cases pre x.f1
      generalize stOf pre x.f1 = s at *
      generalize pre.any (impl_has.p x.f1 [1]) = b1 at *
      generalize pre.any (impl_has.p x.f1 [4, 5]) = b2 at *
      by_cases k1 : x.f0 = 1
      · cases b1 <;> cases b2 <;> simp_all
      · cases b1 <;> cases b2 <;> simp_all
theorem histInv_step (pre : List S67) (x : S67) (hi : HistInv pre) (h : hopCode pre x = 0) : HistInv (pre ++ [x]) := by
  intro t ht
  rw [stOf_snoc]
  rw [List.any_append] at ht
  simp only [List.any_cons, List.any_nil, Bool.or_false, Bool.or_eq_true] at ht
  rcases ht with ht | ht
  · have := hi t ht
    unfold stStep
    rw [this]
    by_cases e1 : x.f1 = t
    · exfalso
      subst e1
      unfold hopCode at h
      rw [idxP_any, idxP_any, ht] at h
      simp only [Bool.or_true, if_true] at h
      split at h
      · omega
      · split at h <;> omega
    · simp [e1]
  · have hp2 : impl_has.p t [4, 5] x = (x.f1 == t && (x.f0 == 4 || x.f0 == 5)) := by unfold impl_has.p; simp only [List.contains_cons, List.contains_nil, Bool.or_false]
    rw [hp2] at ht
    unfold stStep
    simp only [Bool.and_eq_true, beq_iff_eq, Bool.or_eq_true] at ht
    obtain ⟨e1, k | k⟩ := ht <;> simp [e1, k]
theorem histGo_eq : ∀ (l pre : List S67), HistInv pre → histGo pre l = histGoS pre l
  | [], pre, _ => rfl
  | x :: xs, pre, hi => by
    unfold histGo histGoS
    rw [← hopCode_eq pre x hi]
    by_cases h : hopCode pre x = 0
    · rw [if_pos h, if_pos h]; exact histGo_eq xs _ (histInv_step pre x hi h)
    · rw [if_neg h, if_neg h]
def histCode (l : List S67) : Int := if 400 < l.length then 2 else histGo [] l
theorem specHist (l : List S67) (hl : l.length ≤ 9223372036854775807) : Ev (fun k => spec_HistoryFault.f k l) (histCode l) := by
  have h := specHist_ev l hl
  rw [← histGo_eq l [] (fun t ht => by simp at ht)] at h
  exact h
theorem implHist (l : List S67) : impl_HistoryFault.f l = some (histCode l) := rfl

theorem FnExactWritersOf_of (l0 : List (S72)) (a1 : Int) (h0 : (l0.length ≤ maxLen ∧ ∀ y ∈ l0, ok72 y)) (h1 : (Lit.int .i64 a1).wf = true) (r_0 : Int) (r_1 : List Int) (hs : (l0.length ≤ 1048576) → Ev (fun k => spec_WritersOf.f k (l0.map cv72) a1) (r_0, r_1)) (hi : (l0.length ≤ 1048576) → Ev (fun k => impl_WritersOf.f k (l0.map cv72) a1) (r_0, r_1)) (hb1 : (l0.length ≤ 1048576) → r_1.length ≤ 1099511627776) : ∃ k, laws_FnExactWritersOf.f k l0 a1 = some true := by
  refine Ev.rounds ?_
  unfold laws_FnExactWritersOf.f
  obtain ⟨q0, e0, m0, b0⟩ := laws_szHopS.ev l0 1048576 (by omega) (by omega) h0.1
  refine Ev.bind (Ev.eq e0) ?_
  by_cases c0 : q0 < 0
  · exact Ev.pos c0 (Ev.now _)
  refine Ev.neg c0 ?_
  have d0 := b0 (by omega)
  have hbd : (l0.length ≤ 1048576) := d0
  have fs := hs hbd
  have fi := hi hbd
  have t0 := laws_toHopS.ev l0 d0
  have u0 : (l0.map cv72).length ≤ 1048576 := by have := d0; simp only [List.length_map]; exact this
  have v0 := laws_eqHopS.ev (l0.map cv72) (by omega)
  have w1 := hb1 hbd
  have eR := laws_eqIntsResult.ev r_0 r_1 (by omega)
  obtain ⟨y_, b_, mR, lR, kR⟩ := laws_markIntsResult.ev r_0 r_1 1 (by omega) (by omega)
  obtain ⟨z0, k0, p0, o0, _⟩ := laws_markHopS.ev (l0.map cv72) 1 (by omega) (by omega)
  repeat (first | exact Ev.now _ | (with_reducible refine Ev.bind fs ?_) | (with_reducible refine Ev.bind fi ?_) | (with_reducible refine Ev.bind t0 ?_) | (with_reducible refine Ev.bind v0 ?_) | (with_reducible refine Ev.bind eR ?_) | (with_reducible refine Ev.bind mR ?_) | (with_reducible refine Ev.bind kR ?_) | (with_reducible refine Ev.bind p0 ?_) | (with_reducible refine Ev.pos rfl ?_) | (refine Ev.neg (by omega) ?_) | (refine Ev.neg (by decide) ?_) | (refine Ev.neg (by simp; done) ?_) | (refine Ev.step (fun k => by rw [laws_FnExactWritersOf.j0]) ?_))
end Go.Proofs.Ytifpmjnbkodgfaa.XFnExactWritersOf
