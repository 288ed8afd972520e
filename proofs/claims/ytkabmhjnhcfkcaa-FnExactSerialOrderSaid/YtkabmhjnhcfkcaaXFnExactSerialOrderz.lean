/- The law FnExactSerialOrder answers true at every input: its plain statement, its plain lemmas and its row; no condition. Written by a program of this session. -/
import Derived.Test.YtkabmhjnhcfkcaaXFnExactSerialOrdery
import Derived.Test.YtkabmhjnhcfkcaaVXPure
namespace Go.Proofs.Ytkabmhjnhcfkcaa.XFnExactSerialOrder
open Go.RowKit Go.Proofs.YtkabmhjnhcfkcaaW.PrintWords Go.Proofs.YtkabmhjnhcfkcaaW.PrintLast Go.Proofs.YtkabmhjnhcfkcaaW.PrintMore
set_option linter.unusedVariables false
set_option linter.unusedSimpArgs false
theorem laws_szHopS.ev (l : List (S50)) (a : Int) (h0 : 0 ≤ a) (h1 : a ≤ 1048576) (hl : l.length ≤ maxLen) : ∃ r, laws_szHopS.f l a = some r ∧ r ≤ a ∧ (0 ≤ r → (l.length ≤ 1048576)) := by
  unfold maxLen at hl
  unfold laws_szHopS.f
  rw [wrap_in (a - (l.length : Int)) (by omega) (by omega)]
  by_cases h : a - (l.length : Int) < 0
  · rw [if_pos h]; exact ⟨-1, rfl, by omega, fun hh => absurd hh (by omega)⟩
  · rw [if_neg h]; exact ⟨_, rfl, by omega, fun _ => by omega⟩
def cv50 (x : S50) : S48 := ⟨x.f0, x.f1, x.f2, x.f3⟩
theorem laws_toHop.ev (x : S50) : Ev (fun k => laws_toHop.f x.f0 x.f1 x.f2 x.f3) ((cv50 x).f0, (cv50 x).f1, (cv50 x).f2, (cv50 x).f3) := Ev.eq rfl
theorem laws_toHopS.ev (l : List (S50)) (h : (l.length ≤ 1048576)) : Ev (fun k => laws_toHopS.f k l) (l.map cv50) := by
  have hl : l.length ≤ 1048576 := h
  have key : ∀ (d i : Nat) (acc : List (S48)), i + d = l.length → acc.length = l.length → (∀ j, j < i → acc[j]? = ((l.map cv50))[j]?) → Ev (fun k => laws_toHopS.l0 k l acc (i : Int)) (l.map cv50) := by
    intro d
    induction d with
    | zero =>
      intro i acc hi ha hj
      refine Ev.step (f := fun _ => some acc) (fun k => ?_) (Ev.val (Ev.now acc) (ext_upto (by simp [ha]) (fun j hjl => hj j (by omega))))
      simp only [laws_toHopS.l0]
      rw [if_neg (by omega)]
    | succ d ih =>
      intro i acc hi ha hj
      have h1 : (i : Int) < (l.length : Int) := by omega
      have h2 : (i : Int) < (acc.length : Int) := by omega
      have h0 : (0 : Int) ≤ (i : Int) := by omega
      have hw := wrap_nat i l.length (by omega) (by omega)
      have hs := ih (i + 1) (acc.set i (cv50 (rd_T50 l (i : Int)))) (by omega) (by simp [ha]) (fun j hjl => ?_)
      · refine Ev.step (f := fun k => (laws_toHop.f (rd_T50 l (i : Int)).f0 (rd_T50 l (i : Int)).f1 (rd_T50 l (i : Int)).f2 (rd_T50 l (i : Int)).f3).bind fun t => laws_toHopS.l0 k l (acc.set i (⟨t.1, t.2.1, t.2.2.1, t.2.2.2⟩ : S48)) ((i + 1 : Nat) : Int)) (fun k => ?_) (Ev.bind (laws_toHop.ev (rd_T50 l (i : Int))) hs)
        simp only [laws_toHopS.l0, if_pos h1, if_pos h0, if_pos h2, hw, Int.toNat_natCast]
      · rcases Nat.lt_or_ge j i with hlt | hge
        · rw [List.getElem?_set_ne (by omega)]; exact hj j hlt
        · obtain rfl : j = i := by omega
          rw [List.getElem?_set_self (by omega)]
          exact (get_map l _ j z50 (by omega)).symm
  unfold laws_toHopS.f
  refine Ev.pos (by omega) (Ev.pos (by omega) ?_)
  refine key l.length 0 _ (by omega) (by simp) (fun j hj => absurd hj (by omega))
theorem laws_eqHop.ev (x0 : Int) (x1 : Int) (x2 : Int) (x3 : Int) : Ev (fun k => laws_eqHop.f x0 x1 x2 x3 x0 x1 x2 x3) true := by
  unfold laws_eqHop.f
  repeat (first | exact Ev.now _ | refine Ev.pos rfl ?_ | (refine Ev.bind (Ev.eq rfl) ?_; try dsimp only))
theorem laws_eqHopS.ev (l : List (S48)) (hl : l.length ≤ 9223372036854775807) : Ev (fun k => laws_eqHopS.f k l l) true := by
  have key : ∀ (d i : Nat), i + d = l.length → Ev (fun k => laws_eqHopS.l0 k l l (i : Int)) true := by
    intro d
    induction d with
    | zero =>
      intro i hi
      refine Ev.step (f := fun _ => some true) (fun k => ?_) (Ev.now _)
      simp only [laws_eqHopS.l0]
      rw [if_neg (by omega)]
    | succ d ih =>
      intro i hi
      have h1 : (i : Int) < (l.length : Int) := by omega
      have h0 : (0 : Int) ≤ (i : Int) := by omega
      have hw := wrap_nat i l.length (by omega) (by omega)
      refine Ev.step (f := fun k => (laws_eqHop.f (rd_T48 l (i : Int)).f0 (rd_T48 l (i : Int)).f1 (rd_T48 l (i : Int)).f2 (rd_T48 l (i : Int)).f3 (rd_T48 l (i : Int)).f0 (rd_T48 l (i : Int)).f1 (rd_T48 l (i : Int)).f2 (rd_T48 l (i : Int)).f3).bind fun t => if t = true then laws_eqHopS.l0 k l l ((i + 1 : Nat) : Int) else some false) (fun k => ?_) (Ev.bind (laws_eqHop.ev (rd_T48 l (i : Int)).f0 (rd_T48 l (i : Int)).f1 (rd_T48 l (i : Int)).f2 (rd_T48 l (i : Int)).f3) (Ev.pos rfl (ih (i + 1) (by omega))))
      simp only [laws_eqHopS.l0, if_pos h1, if_pos h0, hw]
  unfold laws_eqHopS.f
  exact Ev.pos rfl (key l.length 0 (by omega))
theorem laws_eqInt64S.ev (l : List Int) (hl : l.length ≤ 9223372036854775807) : Ev (fun k => laws_eqInt64S.f k l l) true := by
  have key : ∀ (d i : Nat), i + d = l.length → Ev (fun k => laws_eqInt64S.l0 k l l (i : Int)) true := by
    intro d
    induction d with
    | zero =>
      intro i hi
      refine Ev.step (f := fun _ => some true) (fun k => ?_) (Ev.now _)
      simp only [laws_eqInt64S.l0]
      rw [if_neg (by omega)]
    | succ d ih =>
      intro i hi
      have h1 : (i : Int) < (l.length : Int) := by omega
      have h0 : (0 : Int) ≤ (i : Int) := by omega
      have hw := wrap_nat i l.length (by omega) (by omega)
      refine Ev.step (fun k => ?_) (ih (i + 1) (by omega))
      simp only [laws_eqInt64S.l0, if_pos h1, if_pos h0, hw, if_true]
  unfold laws_eqInt64S.f
  exact Ev.pos rfl (key l.length 0 (by omega))
theorem laws_eqIntsResult.ev (x0 : Int) (x1 : List Int) (h1 : x1.length ≤ 9223372036854775807) : Ev (fun k => laws_eqIntsResult.f k x0 x1 x0 x1) true := by
  unfold laws_eqIntsResult.f
  repeat (first | exact Ev.now _ | refine Ev.pos rfl ?_ | (refine Ev.bind (laws_eqInt64S.ev x1 h1) ?_; try dsimp only) | (refine Ev.bind (Ev.eq rfl) ?_; try dsimp only))
theorem laws_markHopS.key : ∀ (d i : Nat) (x : List (S48)) (a : Int), i + d = x.length → 0 ≤ a → a + 4 * (d : Int) ≤ 4611686018427387904 → x.length ≤ 9223372036854775807 → ∃ x', Ev (fun k => laws_markHopS.l0 k x a (i : Int)) (a + 4 * (d : Int), x') ∧ x'.length = x.length ∧ (∀ j, j < i → x'[j]? = x[j]?) := by
  intro d
  induction d with
  | zero =>
    intro i x a hi h0 h1 hl
    refine ⟨x, ?_, rfl, fun _ _ => rfl⟩
    · refine Ev.step (f := fun _ => some (a, x)) (fun k => ?_) (Ev.val (Ev.now _) (by simp))
      simp only [laws_markHopS.l0]
      rw [if_neg (by omega)]
  | succ d ih =>
    intro i x a hi h0 h1 hl
    have g1 : (i : Int) < (x.length : Int) := by omega
    have g0 : (0 : Int) ≤ (i : Int) := by omega
    have hw := wrap_nat i x.length (by omega) (by omega)
    have w1 : wrap64 (a + 1) = a + 1 := by rw [wrap_in _ (by omega) (by omega)]
    have w2 : wrap64 (a + 1 + 1) = a + 2 := by rw [wrap_in _ (by omega) (by omega)]; omega
    have w3 : wrap64 (a + 2 + 1) = a + 3 := by rw [wrap_in _ (by omega) (by omega)]; omega
    have w4 : wrap64 (a + 3 + 1) = a + 4 := by rw [wrap_in _ (by omega) (by omega)]; omega
    obtain ⟨x', h2, h3, h4⟩ := ih (i + 1) (x.set i (⟨a, a + 1, a + 2, a + 3⟩ : S48)) (a + 4) (by simp; omega) (by omega) (by omega) (by simpa using hl)
    have hrd : ∀ (y : List (S48)) (v : S48), y.length = x.length → rd_T48 (y.set i v) (i : Int) = v := fun y v hy => getD_set_self _ _ _ _ (by omega)
    refine ⟨x', ?_, by rw [h3]; simp, fun j hj => ?_⟩
    · refine Ev.step (fun k => ?_) (Ev.val h2 (by rw [show a + 4 + 4 * (d : Int) = a + 4 * ((d + 1 : Nat) : Int) from by omega]))
      simp only [laws_markHopS.l0, if_pos g1, if_pos g0, hw, Int.toNat_natCast, Option.bind_some, w1, w2, w3, w4]
      repeat (first | rw [hrd x _ rfl] | rw [hrd _ _ (by simp)])
      simp only [List.set_set]
    · rw [h4 j (by omega), List.getElem?_set_ne (by omega)]
theorem laws_markHopS.ev (x : List (S48)) (a : Int) (h0 : 0 ≤ a) (h1 : a + 4 * (x.length : Int) ≤ 4611686018427387904) : ∃ x' b, Ev (fun k => laws_markHopS.f k x a) (b, x') ∧ a ≤ b ∧ b = a + 4 * (x.length : Int) := by
  obtain ⟨x', h2, _, _⟩ := laws_markHopS.key x.length 0 x a (by omega) h0 h1 (by omega)
  refine ⟨x', _, (by unfold laws_markHopS.f; exact h2), by omega, rfl⟩
theorem laws_markInt64S.key : ∀ (d i : Nat) (x : List Int) (a : Int), i + d = x.length → 0 ≤ a → a + 1 * (d : Int) ≤ 4611686018427387904 → x.length ≤ 9223372036854775807 → ∃ x', Ev (fun k => laws_markInt64S.l0 k x a (i : Int)) (a + 1 * (d : Int), x') ∧ x'.length = x.length ∧ (∀ j, j < i → x'[j]? = x[j]?) ∧ Ev (fun k => laws_heldInt64S.l0 k x' a (i : Int)) (a + 1 * (d : Int)) := by
  intro d
  induction d with
  | zero =>
    intro i x a hi h0 h1 hl
    refine ⟨x, ?_, rfl, fun _ _ => rfl, ?_⟩
    · refine Ev.step (f := fun _ => some (a, x)) (fun k => ?_) (Ev.val (Ev.now _) (by simp))
      simp only [laws_markInt64S.l0]
      rw [if_neg (by omega)]
    · refine Ev.step (f := fun _ => some a) (fun k => ?_) (Ev.val (Ev.now _) (by simp))
      simp only [laws_heldInt64S.l0]
      rw [if_neg (by omega)]
  | succ d ih =>
    intro i x a hi h0 h1 hl
    have g1 : (i : Int) < (x.length : Int) := by omega
    have g0 : (0 : Int) ≤ (i : Int) := by omega
    have hw := wrap_nat i x.length (by omega) (by omega)
    have w1 : wrap64 (a + 1) = a + 1 := by rw [wrap_in _ (by omega) (by omega)]
    obtain ⟨x', h2, h3, h4, h5⟩ := ih (i + 1) (x.set i a) (a + 1) (by simp; omega) (by omega) (by omega) (by simpa using hl)
    refine ⟨x', ?_, by rw [h3]; simp, fun j hj => ?_, ?_⟩
    · refine Ev.step (fun k => ?_) (Ev.val h2 (by rw [show a + 1 + 1 * (d : Int) = a + 1 * ((d + 1 : Nat) : Int) from by omega]))
      simp only [laws_markInt64S.l0, if_pos g1, if_pos g0, hw, Int.toNat_natCast, w1]
    · rw [h4 j (by omega), List.getElem?_set_ne (by omega)]
    · have hx : rd x' (i : Int) = a := by
        show x'.getD i 0 = a
        rw [getD_of 0 (h4 i (by omega)), getD_set_self _ _ _ _ (by omega)]
      refine Ev.step (fun k => ?_) (Ev.val h5 (by omega))
      have g1' : (i : Int) < (x'.length : Int) := by rw [h3]; simp; omega
      simp only [laws_heldInt64S.l0, if_pos g1', if_pos g0, hx, if_true, hw, w1]
theorem laws_markInt64S.ev (x : List Int) (a : Int) (h0 : 0 ≤ a) (h1 : a + 1 * (x.length : Int) ≤ 4611686018427387904) : ∃ x' b, Ev (fun k => laws_markInt64S.f k x a) (b, x') ∧ a ≤ b ∧ b = a + 1 * (x.length : Int) ∧ Ev (fun k => laws_heldInt64S.f k x' a) b := by
  obtain ⟨x', h2, _, _, h5⟩ := laws_markInt64S.key x.length 0 x a (by omega) h0 h1 (by omega)
  refine ⟨x', _, (by unfold laws_markInt64S.f; exact h2), by omega, rfl, by unfold laws_heldInt64S.f; exact h5⟩
theorem laws_markIntsResult.ev (x0 : Int) (x1 : List Int) (a : Int) (h0 : 0 ≤ a) (h1 : a + 1 * (x1.length : Int) ≤ 4611686018427387904) : ∃ x' b, Ev (fun k => laws_markIntsResult.f k x0 x1 a) (b, x') ∧ a ≤ b ∧ Ev (fun k => laws_heldIntsResult.f k x0 x' a) b := by
  obtain ⟨x', b, e1, e2, _, e3⟩ := laws_markInt64S.ev x1 a h0 h1
  refine ⟨x', b, ?_, by omega, ?_⟩
  · unfold laws_markIntsResult.f
    exact Ev.bind e1 (Ev.now _)
  · unfold laws_heldIntsResult.f
    exact Ev.bind e3 (Ev.neg (by omega) (Ev.now _))
/-! ### plain: committed -/
theorem commL_len (l : List S48) : (commL l).length ≤ l.length := by
  unfold commL; rw [List.length_map]; exact List.length_filter_le _ _
theorem l10Committed_ev (l : List S48) (hl : l.length ≤ 1048576) : Ev (fun k => spec_l10Committed.f k l) (commL l) := by
  have key : ∀ (d i : Nat) (acc : List Int), i + d = l.length → acc.length ≤ i → Ev (fun k => spec_l10Committed.l0 k l acc (i : Int)) (acc ++ commL (l.drop i)) := by
    intro d
    induction d with
    | zero =>
      intro i acc hi ha
      rw [List.drop_eq_nil_of_le (by omega)]
      refine Ev.step (f := fun _ => some acc) (fun k => ?_) (Ev.val (Ev.now _) (by simp [commL]))
      simp only [spec_l10Committed.l0]
      rw [if_neg (by omega)]
    | succ d ih =>
      intro i acc hi ha
      have h1 : (i : Int) < (l.length : Int) := by omega
      have h0 : (0 : Int) ≤ (i : Int) := by omega
      have h3 : acc.length < 17592186044416 := by omega
      have hw := wrap_nat i l.length (by omega) (by omega)
      have hx : rd_T48 l (i : Int) = l[i]'(by omega) := by
        show l.getD i _ = _
        rw [List.getD_eq_getElem?_getD, List.getElem?_eq_getElem (by omega)]; rfl
      rw [List.drop_eq_getElem_cons (by omega), ← hx]
      generalize hX : rd_T48 l (i : Int) = x at *
      by_cases k4 : x.f0 = 4
      · refine Ev.step (fun k => ?_) (Ev.val (ih (i + 1) (acc ++ [x.f1]) (by omega) (by simp; omega)) (by simp [commL, k4]))
        simp only [spec_l10Committed.l0, if_pos h1, if_pos h0, hX, hw, if_pos k4, if_pos h3]
      · refine Ev.step (fun k => ?_) (Ev.val (ih (i + 1) acc (by omega) (by omega)) (by simp [commL, k4]))
        simp only [spec_l10Committed.l0, if_pos h1, if_pos h0, hX, hw, if_neg k4]
  unfold spec_l10Committed.f
  simpa using key l.length 0 [] (by omega) (by simp)

/-! ### plain: writers -/
theorem l10Wrote_ev (l : List S48) (txn key : Int) (hl : l.length ≤ 9223372036854775807) : Ev (fun k => spec_l10Wrote.f k l txn key) (l.any (wroteP txn key)) := by
  have kk : ∀ (d i : Nat), i + d = l.length → Ev (fun k => spec_l10Wrote.l0 k l txn key (i : Int)) ((l.drop i).any (wroteP txn key)) := by
    intro d
    induction d with
    | zero =>
      intro i hi
      rw [List.drop_eq_nil_of_le (by omega)]
      refine Ev.step (f := fun _ => some false) (fun k => ?_) (Ev.now _)
      simp only [spec_l10Wrote.l0]
      rw [if_neg (by omega)]
    | succ d ih =>
      intro i hi
      have h1 : (i : Int) < (l.length : Int) := by omega
      have h0 : (0 : Int) ≤ (i : Int) := by omega
      have hw := wrap_nat i l.length (by omega) (by omega)
      have hx : rd_T48 l (i : Int) = l[i]'(by omega) := by
        show l.getD i _ = _
        rw [List.getD_eq_getElem?_getD, List.getElem?_eq_getElem (by omega)]; rfl
      have hn := ih (i + 1) (by omega)
      rw [List.drop_eq_getElem_cons (by omega), ← hx]
      generalize hX : rd_T48 l (i : Int) = x at *
      simp only [List.any_cons]
      have hp : wroteP txn key x = (x.f0 == 3 && x.f1 == txn && x.f2 == key) := rfl
      by_cases k0 : x.f0 = 3
      · by_cases k1 : x.f1 = txn
        · by_cases k2 : x.f2 = key
          · refine Ev.step (f := fun _ => some true) (fun k => ?_) (Ev.val (Ev.now _) ?_)
            · simp only [spec_l10Wrote.l0, if_pos h1, if_pos h0, hX, if_pos k0, if_pos k1, if_pos k2]
            · rw [hp]; simp [k0, k1, k2]
          · refine Ev.step (fun k => ?_) (Ev.val hn ?_)
            · simp only [spec_l10Wrote.l0, if_pos h1, if_pos h0, hX, if_pos k0, if_pos k1, if_neg k2, hw]
            · rw [hp, beq_eq_false_iff_ne.2 k2]; simp
        · refine Ev.step (fun k => ?_) (Ev.val hn ?_)
          · simp only [spec_l10Wrote.l0, if_pos h1, if_pos h0, hX, if_pos k0, if_neg k1, hw]
          · rw [hp, beq_eq_false_iff_ne.2 k1]; simp
      · refine Ev.step (fun k => ?_) (Ev.val hn ?_)
        · simp only [spec_l10Wrote.l0, if_pos h1, if_pos h0, hX, if_neg k0, hw]
        · rw [hp, beq_eq_false_iff_ne.2 k0]; simp
  unfold spec_l10Wrote.f
  simpa using kk l.length 0 (by omega)
theorem l10Writers_ev (l : List S48) (key : Int) (hl : l.length ≤ 1048576) : Ev (fun k => spec_l10Writers.f k l key) (writersL l key) := by
  have hc := commL_len l
  have kk : ∀ (c : List Int), c.length ≤ 1048576 → ∀ (d i : Nat) (acc : List Int), i + d = c.length → acc.length ≤ i → Ev (fun k => spec_l10Writers.l0 k l key acc c (i : Int)) (acc ++ (c.drop i).filter (fun t => l.any (wroteP t key))) := by
    intro c hcl d
    induction d with
    | zero =>
      intro i acc hi ha
      rw [List.drop_eq_nil_of_le (by omega)]
      refine Ev.step (f := fun _ => some acc) (fun k => ?_) (Ev.val (Ev.now _) (by simp))
      simp only [spec_l10Writers.l0]
      rw [if_neg (by omega)]
    | succ d ih =>
      intro i acc hi ha
      have h1 : (i : Int) < (c.length : Int) := by omega
      have h0 : (0 : Int) ≤ (i : Int) := by omega
      have h3 : acc.length < 17592186044416 := by omega
      have hw := wrap_nat i c.length (by omega) (by omega)
      have hx : rd c (i : Int) = c[i]'(by omega) := by
        show c.getD i _ = _
        rw [List.getD_eq_getElem?_getD, List.getElem?_eq_getElem (by omega)]; rfl
      rw [List.drop_eq_getElem_cons (by omega), ← hx]
      have hwr := l10Wrote_ev l (rd c (i : Int)) key (by omega)
      refine Ev.step (f := fun k => (spec_l10Wrote.f k l (rd c (i : Int)) key).bind fun t => if t = true then spec_l10Writers.l0 k l key (acc ++ [rd c (i : Int)]) c ((i + 1 : Nat) : Int) else spec_l10Writers.l0 k l key acc c ((i + 1 : Nat) : Int)) (fun k => ?_) (Ev.bind hwr ?_)
      · simp only [spec_l10Writers.l0, if_pos h1, if_pos h0, hw, if_pos h3]
      · generalize rd c (i : Int) = x at *
        cases hb : l.any (wroteP x key) with
        | true => exact Ev.pos rfl (Ev.val (ih (i + 1) (acc ++ [x]) (by omega) (by simp; omega)) (by simp [List.filter_cons, hb]))
        | false => exact Ev.neg (by simp) (Ev.val (ih (i + 1) acc (by omega) (by omega)) (by simp [List.filter_cons, hb]))
  unfold spec_l10Writers.f
  refine Ev.bind (l10Committed_ev l hl) ?_
  unfold writersL
  simpa using kk (commL l) (by omega) (commL l).length 0 [] (by omega) (by simp)
theorem writersL_len (l : List S48) (key : Int) : (writersL l key).length ≤ l.length := Nat.le_trans (List.length_filter_le _ _) (commL_len l)
theorem writers_eq (l : List S48) (key : Int) (hl : l.length ≤ 1048576) : impl_writers.f l key = some (writersL l key) := if_pos hl

/-! ### plain: hist -/
theorem l1In_eq (a b c : Int) : spec_l1In.f a b c = some (withinB a b c) := by
  unfold spec_l1In.f withinB
  by_cases h : b ≤ a
  · rw [if_pos h]; simp [h]
  · rw [if_neg h]; simp [h]
theorem l1Key_eq (a : Int) : spec_l1Key.f a = some (withinB a 0 31) := by
  unfold spec_l1Key.f; rw [l1In_eq]; rfl
def stStep (a : Int) (s : Int) (x : S48) : Int := if x.f1 = a then (if x.f0 = 4 then 2 else if x.f0 = 5 then 2 else if x.f0 = 1 then 1 else s) else s
def stOf (l : List S48) (a : Int) : Int := l.foldl (stStep a) 0
theorem stOf_snoc (l : List S48) (x : S48) (a : Int) : stOf (l ++ [x]) a = stStep a (stOf l a) x := by
  unfold stOf; rw [List.foldl_append]; rfl
theorem l10State_ev (l : List S48) (a : Int) (hl : l.length ≤ 9223372036854775807) : Ev (fun k => spec_l10State.f k l a) (stOf l a) := by
  have key : ∀ (d i : Nat) (s : Int), i + d = l.length → Ev (fun k => spec_l10State.l0 k l a s (i : Int)) ((l.drop i).foldl (stStep a) s) := by
    intro d
    induction d with
    | zero =>
      intro i s hi
      rw [List.drop_eq_nil_of_le (by omega)]
      refine Ev.step (f := fun _ => some s) (fun k => ?_) (Ev.now _)
      simp only [spec_l10State.l0]
      rw [if_neg (by omega)]
    | succ d ih =>
      intro i s hi
      have h1 : (i : Int) < (l.length : Int) := by omega
      have h0 : (0 : Int) ≤ (i : Int) := by omega
      have hw := wrap_nat i l.length (by omega) (by omega)
      have hx : rd_T48 l (i : Int) = l[i]'(by omega) := by
        show l.getD i _ = _
        rw [List.getD_eq_getElem?_getD, List.getElem?_eq_getElem (by omega)]; rfl
      rw [List.drop_eq_getElem_cons (by omega), List.foldl_cons, ← hx]
      generalize hX : rd_T48 l (i : Int) = x at *
      refine Ev.step (f := fun k => spec_l10State.l0 k l a (stStep a s x) ((i + 1 : Nat) : Int)) (fun k => ?_) (ih (i + 1) _ (by omega))
      simp only [spec_l10State.l0, if_pos h1, if_pos h0, hX, hw]
      unfold stStep
      by_cases e1 : x.f1 = a
      · simp only [if_pos e1]
        by_cases k1 : x.f0 = 1
        · simp [k1]
        · by_cases k4 : x.f0 = 4
          · simp [k4]
          · by_cases k5 : x.f0 = 5
            · simp [k5]
            · simp [k1, k4, k5]
      · simp only [if_neg e1]
  unfold spec_l10State.f stOf
  exact key l.length 0 0 (by omega)
def hopCodeS (pre : List S48) (x : S48) : Int :=
  if (!withinB x.f0 1 5 || !withinB x.f1 2 999 || !withinB x.f2 0 31 || !withinB x.f3 0 999) = true then 3
  else if ((!(x.f0 == 2 || x.f0 == 3) && x.f2 != 0) || (x.f0 != 2 && x.f3 != 0)) = true then 1
  else if x.f0 = 1 then (if stOf pre x.f1 = 0 then 0 else 10) else (if stOf pre x.f1 = 1 then 0 else 10)
def histGoS : List S48 → List S48 → Int
  | _, [] => 0
  | pre, x :: xs => if hopCodeS pre x = 0 then histGoS (pre ++ [x]) xs else hopCodeS pre x
theorem specHist_ev (l : List S48) (hl : l.length ≤ 9223372036854775807) : Ev (fun k => spec_HistoryFault.f k l) (if 400 < l.length then 2 else histGoS [] l) := by
  have key : ∀ (d i : Nat), i + d = l.length → Ev (fun k => spec_HistoryFault.l0 k l (i : Int)) (histGoS (l.take i) (l.drop i)) := by
    intro d
    induction d with
    | zero =>
      intro i hi
      rw [List.drop_eq_nil_of_le (by omega)]
      refine Ev.step (f := fun _ => some 0) (fun k => ?_) (Ev.now _)
      simp only [spec_HistoryFault.l0]
      rw [if_neg (by omega)]
    | succ d ih =>
      intro i hi
      have h1 : (i : Int) < (l.length : Int) := by omega
      have h0 : (0 : Int) ≤ (i : Int) := by omega
      have h3 : (i : Int) ≤ (l.length : Int) := by omega
      have hw := wrap_nat i l.length (by omega) (by omega)
      have hx : rd_T48 l (i : Int) = l[i]'(by omega) := by
        show l.getD i _ = _
        rw [List.getD_eq_getElem?_getD, List.getElem?_eq_getElem (by omega)]; rfl
      have hn := ih (i + 1) (by omega)
      have hst := fun a => l10State_ev (l.take i) a (by rw [List.length_take]; omega)
      rw [List.drop_eq_getElem_cons (by omega)]
      rw [List.take_succ_eq_append_getElem (by omega)] at hn
      rw [← hx] at hn ⊢
      have hj2 : ∀ b (y : S48), Ev (fun k => spec_HistoryFault.j2 k l (i : Int) b y.f0 y.f1 y.f2 y.f3) (if b = true then 1 else if (if y.f0 = 1 then (if stOf (l.take i) y.f1 = 0 then 0 else 10) else (if stOf (l.take i) y.f1 = 1 then 0 else 10) : Int) = 0 then histGoS (l.take i ++ [rd_T48 l (i : Int)]) (l.drop (i + 1)) else 10) := by
        intro b y
        cases b with
        | true => exact Ev.step (f := fun _ => some 1) (fun k => by simp only [spec_HistoryFault.j2, if_true]) (Ev.now _)
        | false =>
          refine Ev.step (f := fun k => (spec_l10State.f k (l.take i) y.f1).bind fun t => if y.f0 = 1 then (if t = 0 then spec_HistoryFault.l0 k l ((i + 1 : Nat) : Int) else some 10) else (if t = 1 then spec_HistoryFault.l0 k l ((i + 1 : Nat) : Int) else some 10)) (fun k => ?_) (Ev.bind (hst _) ?_)
          · simp only [spec_HistoryFault.j2, if_pos h0, if_pos h3, hw, Int.toNat_natCast, Bool.false_eq_true, if_false]
          · simp only [Bool.false_eq_true, if_false]
            by_cases k1 : y.f0 = 1
            · by_cases s0 : stOf (l.take i) y.f1 = 0
              · simp only [k1, s0, if_true]; exact hn
              · simp only [k1, s0, if_true, if_false]; exact Ev.now _
            · by_cases s0 : stOf (l.take i) y.f1 = 1
              · simp only [k1, s0, if_true, if_false]; exact hn
              · simp only [k1, s0, if_false]; exact Ev.now _
      have hj1 : ∀ b (y : S48), Ev (fun k => spec_HistoryFault.j1 k l (i : Int) b y.f0 y.f1 y.f2 y.f3) (if b = true then 3 else if ((!(y.f0 == 2 || y.f0 == 3) && y.f2 != 0) || (y.f0 != 2 && y.f3 != 0)) = true then 1 else if (if y.f0 = 1 then (if stOf (l.take i) y.f1 = 0 then 0 else 10) else (if stOf (l.take i) y.f1 = 1 then 0 else 10) : Int) = 0 then histGoS (l.take i ++ [rd_T48 l (i : Int)]) (l.drop (i + 1)) else 10) := by
        intro b y
        cases b with
        | true => exact Ev.step (f := fun _ => some 3) (fun k => by simp only [spec_HistoryFault.j1, if_true]) (Ev.now _)
        | false =>
          refine Ev.val (Ev.step (fun k => ?_) (hj2 ((!(y.f0 == 2 || y.f0 == 3) && y.f2 != 0) || (y.f0 != 2 && y.f3 != 0)) y)) (by simp only [Bool.false_eq_true, if_false])
          simp only [spec_HistoryFault.j1, Bool.false_eq_true, if_false]
          by_cases k2 : y.f0 = 2
          · simp [k2]
          · have b2 : (y.f0 == 2) = false := beq_eq_false_iff_ne.2 k2
            have b2' : (y.f0 != 2) = true := bne_iff_ne.2 k2
            by_cases k3 : y.f3 = 0
            · have b3 : (y.f3 != 0) = false := bne_eq_false_iff_eq.2 k3
              by_cases kk : y.f0 = 3
              · have b4 : (y.f0 == 3) = true := beq_iff_eq.2 kk
                simp only [if_neg k2, if_pos k3, if_pos kk, b2, b2', b3, b4]; rfl
              · have b4 : (y.f0 == 3) = false := beq_eq_false_iff_ne.2 kk
                simp only [if_neg k2, if_pos k3, if_neg kk, b2, b2', b3, b4, Bool.or_false, Bool.not_false, Bool.true_and, Bool.and_false]
            · have b3 : (y.f3 != 0) = true := bne_iff_ne.2 k3
              simp only [if_neg k2, if_neg k3, b2', b3, Bool.and_true, Bool.or_true]
      generalize hX : rd_T48 l (i : Int) = x at *
      refine Ev.val (Ev.step (fun k => ?_) (hj1 (!withinB x.f0 1 5 || !withinB x.f1 2 999 || !withinB x.f2 0 31 || !withinB x.f3 0 999) x)) ?_
      · simp only [spec_HistoryFault.l0, if_pos h1, if_pos h0, hX, l1In_eq, l1Key_eq, Option.bind_some]
        cases withinB x.f0 1 5 with
        | false => rfl
        | true =>
          cases withinB x.f1 2 999 with
          | false => rfl
          | true => cases withinB x.f2 0 31 <;> rfl
      · simp only [histGoS, hopCodeS]
        by_cases c1 : (!withinB x.f0 1 5 || !withinB x.f1 2 999 || !withinB x.f2 0 31 || !withinB x.f3 0 999) = true
        · simp only [if_pos c1]; rfl
        · by_cases c2 : ((!(x.f0 == 2 || x.f0 == 3) && x.f2 != 0) || (x.f0 != 2 && x.f3 != 0)) = true
          · simp only [if_neg c1, if_pos c2]; rfl
          · simp only [if_neg c1, if_neg c2]
            by_cases k1 : x.f0 = 1
            · by_cases s0 : stOf (l.take i) x.f1 = 0 <;> simp [k1, s0]
            · by_cases s0 : stOf (l.take i) x.f1 = 1 <;> simp [k1, s0]
  unfold spec_HistoryFault.f
  by_cases hb : 400 < l.length
  · rw [if_pos hb]; exact Ev.pos (by omega) (Ev.now _)
  · rw [if_neg hb]; exact Ev.neg (by omega) (by simpa using key l.length 0 (by omega))
/-- What is known of the hops ahead: who ended has done so for good. -/
def HistInv (pre : List S48) : Prop := ∀ t, pre.any (impl_has.p t [4, 5]) = true → stOf pre t = 2
theorem st_zero (pre : List S48) (t : Int) : stOf pre t = 0 ↔ pre.any (impl_has.p t [1]) = false ∧ pre.any (impl_has.p t [4, 5]) = false := by
  have h : ∀ (l : List S48) (s : Int), 0 ≤ s → (0 ≤ l.foldl (stStep t) s ∧ (l.foldl (stStep t) s = 0 ↔ s = 0 ∧ l.any (impl_has.p t [1]) = false ∧ l.any (impl_has.p t [4, 5]) = false)) := by
    intro l
    induction l with
    | nil => intro s hs; simp [hs]
    | cons x xs ih =>
      intro s hs
      have hs2 : 0 ≤ stStep t s x := by unfold stStep; repeat (first | omega | split)
      obtain ⟨i1, i2⟩ := ih (stStep t s x) hs2
      refine ⟨by simpa using i1, ?_⟩
      simp only [List.foldl_cons, List.any_cons]
      rw [i2]
      have hp1 : impl_has.p t [1] x = (x.f1 == t && x.f0 == 1) := by unfold impl_has.p; simp only [List.contains_cons, List.contains_nil, Bool.or_false]
      have hp2 : impl_has.p t [4, 5] x = (x.f1 == t && (x.f0 == 4 || x.f0 == 5)) := by unfold impl_has.p; simp only [List.contains_cons, List.contains_nil, Bool.or_false]
      rw [hp1, hp2]
      unfold stStep
      by_cases e1 : x.f1 = t
      · by_cases k4 : x.f0 = 4
        · simp [e1, k4]
        · by_cases k5 : x.f0 = 5
          · simp [e1, k5]
          · by_cases k1 : x.f0 = 1
            · simp [e1, k1]
            · simp [e1, k1, k4, k5]
      · simp [e1]
  simpa [stOf] using (h pre 0 (by omega)).2
theorem st_two (pre : List S48) (t : Int) : stOf pre t = 2 → pre.any (impl_has.p t [4, 5]) = true := by
  have h : ∀ (l : List S48) (s : Int), l.foldl (stStep t) s = 2 → s = 2 ∨ l.any (impl_has.p t [4, 5]) = true := by
    intro l
    induction l with
    | nil => intro s hs; exact .inl (by simpa using hs)
    | cons x xs ih =>
      intro s hs
      simp only [List.foldl_cons] at hs
      rcases ih _ hs with h1 | h1
      · unfold stStep at h1
        by_cases e1 : x.f1 = t
        · by_cases k4 : x.f0 = 4
          · right; simp [impl_has.p, e1, k4]
          · by_cases k5 : x.f0 = 5
            · right; simp [impl_has.p, e1, k5]
            · by_cases k1 : x.f0 = 1
              · simp [e1, k1] at h1
              · left; simpa [e1, k1, k4, k5] using h1
        · left; simpa [e1] using h1
      · right; simp [h1]
  intro h2
  rcases h pre 0 h2 with h3 | h3
  · omega
  · exact h3
theorem st_cases (pre : List S48) (t : Int) : stOf pre t = 0 ∨ stOf pre t = 1 ∨ stOf pre t = 2 := by
  have h : ∀ (l : List S48) (s : Int), (s = 0 ∨ s = 1 ∨ s = 2) → (l.foldl (stStep t) s = 0 ∨ l.foldl (stStep t) s = 1 ∨ l.foldl (stStep t) s = 2) := by
    intro l
    induction l with
    | nil => intro s hs; simpa using hs
    | cons x xs ih =>
      intro s hs
      refine ih _ ?_
      unfold stStep
      repeat (first | omega | split)
  exact h pre 0 (.inl rfl)
theorem hopCode_eq (pre : List S48) (x : S48) (hi : HistInv pre) : hopCode pre x = hopCodeS pre x := by
  unfold hopCode hopCodeS
  rw [idxP_any, idxP_any]
  by_cases c1 : (!withinB x.f0 1 5 || !withinB x.f1 2 999 || !withinB x.f2 0 31 || !withinB x.f3 0 999) = true
  · simp only [if_pos c1]
  · by_cases c2 : ((!(x.f0 == 2 || x.f0 == 3) && x.f2 != 0) || (x.f0 != 2 && x.f3 != 0)) = true
    · simp only [if_neg c1, if_pos c2]
    · simp only [if_neg c1, if_neg c2]
      have z := st_zero pre x.f1
      have t2 := st_two pre x.f1
      have i2 := hi x.f1
      have c3 := st_cases pre x.f1
      generalize stOf pre x.f1 = s at *
      generalize pre.any (impl_has.p x.f1 [1]) = b1 at *
      generalize pre.any (impl_has.p x.f1 [4, 5]) = b2 at *
      by_cases k1 : x.f0 = 1
      · cases b1 <;> cases b2 <;> simp_all
      · cases b1 <;> cases b2 <;> simp_all
theorem histInv_step (pre : List S48) (x : S48) (hi : HistInv pre) (h : hopCode pre x = 0) : HistInv (pre ++ [x]) := by
  intro t ht
  rw [stOf_snoc]
  rw [List.any_append] at ht
  simp only [List.any_cons, List.any_nil, Bool.or_false, Bool.or_eq_true] at ht
  rcases ht with ht | ht
  · have := hi t ht
    unfold stStep
    rw [this]
    by_cases e1 : x.f1 = t
    · exfalso
      subst e1
      unfold hopCode at h
      rw [idxP_any, idxP_any, ht] at h
      simp only [Bool.or_true, if_true] at h
      split at h
      · omega
      · split at h <;> omega
    · simp [e1]
  · have hp2 : impl_has.p t [4, 5] x = (x.f1 == t && (x.f0 == 4 || x.f0 == 5)) := by unfold impl_has.p; simp only [List.contains_cons, List.contains_nil, Bool.or_false]
    rw [hp2] at ht
    unfold stStep
    simp only [Bool.and_eq_true, beq_iff_eq, Bool.or_eq_true] at ht
    obtain ⟨e1, k | k⟩ := ht <;> simp [e1, k]
theorem histGo_eq : ∀ (l pre : List S48), HistInv pre → histGo pre l = histGoS pre l
  | [], pre, _ => rfl
  | x :: xs, pre, hi => by
    unfold histGo histGoS
    rw [← hopCode_eq pre x hi]
    by_cases h : hopCode pre x = 0
    · rw [if_pos h, if_pos h]; exact histGo_eq xs _ (histInv_step pre x hi h)
    · rw [if_neg h, if_neg h]
theorem specHist (l : List S48) (hl : l.length ≤ 9223372036854775807) : Ev (fun k => spec_HistoryFault.f k l) (histCode l) := by
  have h := specHist_ev l hl
  rw [← histGo_eq l [] (fun t ht => by simp at ht)] at h
  exact h

/-! ### plain: rise -/
def riseL : List Int → Int → List Int
  | [], v => [v]
  | x :: xs, v => if x < v then x :: riseL xs v else if x = v then x :: xs else v :: x :: xs
theorem riseL_len (l : List Int) (v : Int) : (riseL l v).length ≤ l.length + 1 := by
  induction l with
  | nil => simp [riseL]
  | cons x xs ih =>
    unfold riseL
    split
    · simp only [List.length_cons]; omega
    · split <;> simp
theorem riseL_ev (l : List Int) (v : Int) (hl : l.length ≤ 1048576) : Ev (fun k => spec_l1Rise.f k l v) (riseL l v) := by
  have key : ∀ (d i : Nat), i + d = l.length → Ev (fun k => spec_l1Rise.l0 k l v (i : Int)) (l.take i ++ riseL (l.drop i) v) := by
    intro d
    induction d with
    | zero =>
      intro i hi
      have h0 : (0 : Int) ≤ (i : Int) := by omega
      have h2 : (i : Int) ≤ (l.length : Int) := by omega
      have h1 : ¬ (i : Int) < (l.length : Int) := by omega
      have et : l.take i = l := List.take_of_length_le (by omega)
      have ed : l.drop i = [] := List.drop_eq_nil_of_le (by omega)
      refine Ev.step (f := fun _ => some (l ++ [v])) (fun k => ?_) (Ev.val (Ev.now _) (by rw [et, ed]; rfl))
      simp only [spec_l1Rise.l0, if_neg h1, if_pos h0, if_pos h2, Option.bind_some, Int.toNat_natCast, et, ed, List.nil_append, List.append_nil]
      repeat rw [if_pos (by simp only [List.length_append, List.length_cons, List.length_nil]; omega)]
    | succ d ih =>
      intro i hi
      have h1 : (i : Int) < (l.length : Int) := by omega
      have h0 : (0 : Int) ≤ (i : Int) := by omega
      have h2 : (i : Int) ≤ (l.length : Int) := by omega
      have hw := wrap_nat i l.length (by omega) (by omega)
      have hx : rd l (i : Int) = l[i]'(by omega) := by
        show l.getD i _ = _
        rw [List.getD_eq_getElem?_getD, List.getElem?_eq_getElem (by omega)]; rfl
      have hn := ih (i + 1) (by omega)
      have ed : l.drop i = l[i]'(by omega) :: l.drop (i + 1) := List.drop_eq_getElem_cons (by omega)
      rw [List.take_succ_eq_append_getElem (by omega), ← hx] at hn
      rw [← hx] at ed
      have etd : l.take i ++ (rd l (i : Int) :: l.drop (i + 1)) = l := by rw [← ed, List.take_append_drop]
      generalize hX : rd l (i : Int) = x at *
      rw [ed]
      by_cases k1 : x < v
      · refine Ev.step (fun k => ?_) (Ev.val hn (by simp [riseL, k1]))
        simp only [spec_l1Rise.l0, if_pos h1, if_pos h0, hX, if_pos k1, hw]
      · by_cases k2 : x = v
        · refine Ev.step (f := fun _ => some l) (fun k => ?_) (Ev.val (Ev.now _) (by simp only [riseL, if_neg k1, if_pos k2]; exact etd.symm))
          simp only [spec_l1Rise.l0, if_pos h1, if_pos h0, hX, if_neg k1, if_pos k2]
        · refine Ev.step (f := fun _ => some (l.take i ++ [v] ++ l.drop i)) (fun k => ?_) (Ev.val (Ev.now _) (by simp only [riseL, if_neg k1, if_neg k2]; rw [ed]; simp))
          simp only [spec_l1Rise.l0, if_pos h1, if_pos h0, if_pos h2, hX, if_neg k1, if_neg k2, Option.bind_some, Int.toNat_natCast, List.nil_append]
          repeat rw [if_pos (by simp only [List.length_append, List.length_cons, List.length_nil, List.length_take, List.length_drop]; omega)]
  unfold spec_l1Rise.f
  simpa using key l.length 0 (by omega)
theorem riseL_last (b : List Int) (v : Int) (h : ∀ x ∈ b, x < v) (s : Bool) : riseL (b ++ if s = true then [v] else []) v = b ++ [v] := by
  induction b with
  | nil => cases s <;> simp [riseL]
  | cons x xs ih =>
    have hx := h x (by simp)
    rw [List.cons_append]
    unfold riseL
    rw [if_pos hx, ih (fun y hy => h y (by simp [hy]))]
    rfl

/-! ### plain: l1Has -/
theorem getD_elem {α : Type} (l : List α) (i : Nat) (d : α) (h : i < l.length) : l.getD i d = l[i] := by
  rw [List.getD_eq_getElem?_getD, List.getElem?_eq_getElem h]; rfl
theorem l1Has_ev (l : List Int) (a : Int) (hl : l.length ≤ 1048576) : Ev (fun k => spec_l1Has.f k l a) (l.contains a) := by
  have key : ∀ (d i : Nat), i + d = l.length → Ev (fun k => spec_l1Has.l0 k l a (i : Int)) ((l.drop i).contains a) := by
    intro d
    induction d with
    | zero =>
      intro i hi
      rw [List.drop_eq_nil_of_le (by omega)]
      refine Ev.step (f := fun _ => some false) (fun k => ?_) (Ev.val (Ev.now _) (by simp))
      simp only [spec_l1Has.l0]
      rw [if_neg (by omega)]
    | succ d ih =>
      intro i hi
      have h1 : (i : Int) < (l.length : Int) := by omega
      have h0 : (0 : Int) ≤ (i : Int) := by omega
      have hw := wrap_nat i l.length (by omega) (by omega)
      have hx : rd l (i : Int) = l[i]'(by omega) := getD_elem l i _ (by omega)
      rw [List.drop_eq_getElem_cons (by omega), ← hx]
      have hn := ih (i + 1) (by omega)
      generalize hX : rd l (i : Int) = x at *
      by_cases hq : x = a
      · refine Ev.step (f := fun _ => some true) (fun k => ?_) (Ev.val (Ev.now _) (by simp [hq]))
        simp only [spec_l1Has.l0, if_pos h1, if_pos h0, hX, if_pos hq]
      · refine Ev.step (fun k => ?_) (Ev.val hn (by rw [List.contains_cons, show (a == x) = false from beq_eq_false_iff_ne.2 (fun e => hq e.symm)]; simp))
        simp only [spec_l1Has.l0, if_pos h1, if_pos h0, hX, if_neg hq, hw]
  exact key l.length 0 (by omega)

/-! ### plain: edges -/
def addU (l : List S45) (f t k : Int) : List S45 := if edgeIn l f t k = true then l else l ++ [⟨f, t, k⟩]
theorem addE_ne (l : List S45) (f t k : Int) (h : f ≠ t) : addE l f t k = addU l f t k := by unfold addE addU; rw [if_neg h]
theorem l11Add_ev (l : List S45) (f t c : Int) (hl : l.length ≤ 1048576) : Ev (fun k => spec_l11Add.f k l f t c) (addU l f t c) := by
  have key : ∀ (d i : Nat), i + d = l.length → Ev (fun k => spec_l11Add.l0 k l (i : Int) f t c) (if edgeIn (l.drop i) f t c = true then l else l ++ [⟨f, t, c⟩]) := by
    intro d
    induction d with
    | zero =>
      intro i hi
      rw [List.drop_eq_nil_of_le (by omega)]
      refine Ev.step (f := fun _ => some (l ++ [⟨f, t, c⟩])) (fun k => ?_) (Ev.val (Ev.now _) (by simp [edgeIn]))
      simp only [spec_l11Add.l0]
      rw [if_neg (by omega), if_pos (by omega)]
    | succ d ih =>
      intro i hi
      have h1 : (i : Int) < (l.length : Int) := by omega
      have h0 : (0 : Int) ≤ (i : Int) := by omega
      have hw := wrap_nat i l.length (by omega) (by omega)
      have hx : rd_T45 l (i : Int) = l[i]'(by omega) := getD_elem l i _ (by omega)
      rw [List.drop_eq_getElem_cons (by omega), ← hx]
      have hn := ih (i + 1) (by omega)
      generalize hX : rd_T45 l (i : Int) = x at *
      have he : edgeIn (x :: l.drop (i + 1)) f t c = ((x.f0 == f && (x.f1 == t && x.f2 == c)) || edgeIn (l.drop (i + 1)) f t c) := by
        unfold edgeIn
        rw [List.any_cons, show (f == x.f0) = (x.f0 == f) from BEq.comm, show (t == x.f1) = (x.f1 == t) from BEq.comm, show (c == x.f2) = (x.f2 == c) from BEq.comm]
      rw [he]
      cases hq : (x.f0 == f && (x.f1 == t && x.f2 == c)) with
      | true =>
        refine Ev.step (f := fun _ => some l) (fun k => ?_) (Ev.val (Ev.now _) (by simp))
        simp only [spec_l11Add.l0, if_pos h1, if_pos h0, hX, hq, if_true]
      | false =>
        refine Ev.step (fun k => ?_) (Ev.val hn (by rw [Bool.false_or]))
        simp only [spec_l11Add.l0, if_pos h1, if_pos h0, hX, hq, Bool.false_eq_true, if_false, hw]
  have h := key l.length 0 (by omega)
  rw [List.drop_zero] at h
  exact h
def nextL (ws : List Int) (o : Int) : Int :=
  if idxP (fun y => o == y) ws < 0 then (if o ≤ 1 then (if 0 < ws.length then rd ws 0 else 0) else 0) else (if idxP (fun y => o == y) ws + 1 < ws.length then rd ws (idxP (fun y => o == y) ws + 1) else 0)
theorem l11Next_ev (ws : List Int) (o : Int) (hl : ws.length ≤ 1048576) : Ev (fun k => spec_l11Next.f k ws o) (nextL ws o) := by
  have key : ∀ (d i : Nat), i + d = ws.length → idxP (fun y => o == y) ws = (if idxP (fun y => o == y) (ws.drop i) < 0 then -1 else idxP (fun y => o == y) (ws.drop i) + i) → Ev (fun k => spec_l11Next.l0 k ws o (i : Int)) (nextL ws o) := by
    intro d
    induction d with
    | zero =>
      intro i hi hq
      rw [List.drop_eq_nil_of_le (by omega)] at hq
      have hq : idxP (fun y => o == y) ws = -1 := by rw [hq]; simp [idxP]
      refine Ev.step (f := fun _ => some (nextL ws o)) (fun k => ?_) (Ev.now _)
      simp only [spec_l11Next.l0, nextL, hq]
      rw [if_neg (by omega), if_pos (show (-1 : Int) < 0 by decide)]
      by_cases h1 : o ≤ 1
      · rw [if_pos h1, if_pos h1]
        by_cases h2 : 0 < ws.length
        · rw [if_pos (by omega), if_pos (by omega), if_pos h2]
        · rw [if_neg (by omega), if_neg h2]
      · rw [if_neg h1, if_neg h1]
    | succ d ih =>
      intro i hi hq
      have h1 : (i : Int) < (ws.length : Int) := by omega
      have h0 : (0 : Int) ≤ (i : Int) := by omega
      have hw := wrap_nat i ws.length (by omega) (by omega)
      have hx : rd ws (i : Int) = ws[i]'(by omega) := getD_elem ws i _ (by omega)
      rw [List.drop_eq_getElem_cons (by omega), ← hx, idxP_shift] at hq
      have hn := fun h => ih (i + 1) (by omega) h
      generalize hX : rd ws (i : Int) = x at *
      by_cases hqx : x = o
      · rw [if_pos (by simp [hqx])] at hq
        refine Ev.step (f := fun _ => some (nextL ws o)) (fun k => ?_) (Ev.now _)
        simp only [spec_l11Next.l0, if_pos h1, if_pos h0, hX, if_pos hqx, hw, nextL, hq]
        rw [if_neg (show ¬ (i : Int) < 0 by omega)]
        by_cases h2 : (i : Int) + 1 < ws.length
        · rw [if_pos (by omega), if_pos (by omega), if_pos h2]; rfl
        · rw [if_neg (by omega), if_neg h2]
      · rw [if_neg (by simp only [beq_iff_eq]; exact fun e => hqx e.symm)] at hq
        refine Ev.step (fun k => ?_) (hn (by rw [hq]; push_cast; rfl))
        simp only [spec_l11Next.l0, if_pos h1, if_pos h0, hX, if_neg hqx, hw]
  refine key ws.length 0 (by omega) ?_
  have hg := (idxP_ge (fun y => o == y) ws).1
  rw [List.drop_zero]
  split
  · omega
  · simp
theorem histGo_comm : ∀ (suf pre : List S48), histGo pre suf = 0 → (commL pre).Nodup → (∀ t ∈ commL pre, 2 ≤ t) → (commL (pre ++ suf)).Nodup ∧ ∀ t ∈ commL (pre ++ suf), 2 ≤ t
  | [], pre, _, hn, hp => by rw [List.append_nil]; exact ⟨hn, hp⟩
  | x :: xs, pre, h, hn, hp => by
    unfold histGo at h
    by_cases hx : hopCode pre x = 0
    · rw [if_pos hx] at h
      have e : pre ++ x :: xs = (pre ++ [x]) ++ xs := by simp
      rw [e]
      unfold hopCode at hx
      have hc : commL (pre ++ [x]) = commL pre ++ (if x.f0 == 4 then [x.f1] else []) := by
        unfold commL
        rw [List.filter_append, List.map_append]
        congr 1
        cases hh : (x.f0 == 4) with
        | true => rw [List.filter_cons_of_pos (by simpa using hh)]; rfl
        | false => rw [List.filter_cons_of_neg (by simp [hh])]; rfl
      by_cases h1 : (!withinB x.f0 1 5 || !withinB x.f1 2 999 || !withinB x.f2 0 31 || !withinB x.f3 0 999) = true
      · rw [if_pos h1] at hx; omega
      · rw [if_neg h1] at hx
        by_cases h2 : ((!(x.f0 == 2 || x.f0 == 3) && x.f2 != 0) || (x.f0 != 2 && x.f3 != 0)) = true
        · rw [if_pos h2] at hx; omega
        · rw [if_neg h2] at hx
          by_cases h3 : ((decide (0 ≤ idxP (impl_has.p x.f1 [1]) pre) == (x.f0 == 1)) || decide (0 ≤ idxP (impl_has.p x.f1 [4, 5]) pre)) = true
          · rw [if_pos h3] at hx; omega
          · have h4 : decide (0 ≤ idxP (impl_has.p x.f1 [4, 5]) pre) = false := by
              cases hh : decide (0 ≤ idxP (impl_has.p x.f1 [4, 5]) pre) with
              | false => rfl
              | true => rw [hh, Bool.or_true] at h3; exact absurd rfl h3
            have h5 : 2 ≤ x.f1 := by
              have : withinB x.f1 2 999 = true := by
                cases hh : withinB x.f1 2 999 with
                | true => rfl
                | false => rw [hh] at h1; simp at h1
              unfold withinB at this
              simp only [Bool.and_eq_true, decide_eq_true_eq] at this
              omega
            have h6 : x.f1 ∉ commL pre := by
              intro hm
              unfold commL at hm
              obtain ⟨y, hy, e⟩ := List.mem_map.1 hm
              obtain ⟨hy1, hy2⟩ := List.mem_filter.1 hy
              rw [idxP_any] at h4
              have := List.any_eq_false.1 h4 y hy1
              apply this
              unfold impl_has.p
              rw [e, eq_of_beq hy2]
              simp
            refine histGo_comm xs (pre ++ [x]) h ?_ ?_
            · rw [hc]
              split
              · rw [List.nodup_append]
                refine ⟨hn, by simp, ?_⟩
                intro a ha b hb
                rw [List.mem_singleton.1 hb]
                exact fun e => h6 (e ▸ ha)
              · simpa using hn
            · rw [hc]
              intro t ht
              rcases List.mem_append.1 ht with ht | ht
              · exact hp t ht
              · split at ht
                · rw [List.mem_singleton.1 ht]; exact h5
                · simp at ht
    · rw [if_neg hx] at h; exact absurd h hx
theorem histCode_comm (l : List S48) (h : histCode l = 0) : (commL l).Nodup ∧ ∀ t ∈ commL l, 2 ≤ t := by
  have hl := histCode_len l h
  unfold histCode at h
  rw [if_neg (by omega)] at h
  simpa using histGo_comm l [] h (by simp [commL]) (by simp [commL])
theorem nextL_mem (ws : List Int) (o : Int) : nextL ws o = 0 ∨ nextL ws o ∈ ws := by
  have hg := idxP_ge (fun y => o == y) ws
  have hm : ∀ i : Int, 0 ≤ i → i < ws.length → rd ws i ∈ ws := fun i h0 h1 => by
    rw [show rd ws i = ws[i.toNat]'(by omega) from getD_elem ws _ _ (by omega)]
    exact List.getElem_mem _
  unfold nextL
  repeat' split
  all_goals first | exact .inl rfl | (refine .inr (hm _ ?_ ?_) <;> omega)
theorem tailT_eq (ws : List Int) (a : List S45) (x1 x3 : Int) (h2 : ∀ t ∈ ws, 2 ≤ t) : tailT ws a x1 x3 (idxP (fun y => x3 == y) ws) = if nextL ws x3 = 0 then a else if nextL ws x3 = x1 then a else addU a x1 (nextL ws x3) 4 := by
  have hm := nextL_mem ws x3
  have hA : ∀ t, t ∈ ws → addE a x1 t 4 = if t = 0 then a else if t = x1 then a else addU a x1 t 4 := fun t ht => by
    have := h2 t ht
    rw [if_neg (by omega)]
    unfold addE addU
    by_cases h : x1 = t
    · rw [if_pos h, if_pos h.symm]
    · rw [if_neg h, if_neg (show ¬ t = x1 from fun e => h e.symm)]
  have hr : ∀ i : Int, 0 ≤ i → i < ws.length → rd ws i ∈ ws := fun i h0 h1 => by
    rw [show rd ws i = ws[i.toNat]'(by omega) from getD_elem ws _ _ (by omega)]
    exact List.getElem_mem _
  have hg := idxP_ge (fun y => x3 == y) ws
  unfold tailT nextL
  generalize idxP (fun y => x3 == y) ws = q at hg ⊢
  by_cases hq : q < 0
  · obtain rfl : q = -1 := by omega
    simp only [if_pos hq, show (-1 : Int) + 1 = 0 from rfl, Int.lt_irrefl, if_false, if_true]
    by_cases h1 : x3 ≤ 1
    · simp only [if_pos h1]
      by_cases h3 : 0 < ws.length
      · simp only [if_pos h3]; exact hA _ (hr 0 (by omega) (by omega))
      · simp only [if_neg h3, if_true]
    · simp only [if_neg h1, if_true]
  · simp only [if_neg hq, if_pos (show (0 : Int) < q + 1 by omega)]
    by_cases h1 : q + 1 < ws.length
    · simp only [if_pos h1]; exact hA _ (hr (q + 1) (by omega) h1)
    · simp only [if_neg h1, if_true]
theorem edges_hops (l : List S48) (hl : l.length ≤ 400) (hp : ∀ t ∈ commL l, 2 ≤ t) (key : Int) (hk : key ≤ 31) (hk0 : 0 ≤ key) (r : List S45) :
    ∀ (d i : Nat) (acc : List S45), i + d = l.length → acc.length ≤ 100000 + 2 * i → Ev (fun k => spec_l11Edges.l0 k l ((l.drop i).foldl (hopE (commL l) (writersL l key) key) acc) (commL l) (key + 1)) r → Ev (fun k => spec_l11Edges.l2 k l acc (commL l) key (writersL l key) (i : Int)) r := by
  have hcl := commL_le l
  have hwl := writersL_le l key
  have hpw : ∀ t ∈ writersL l key, 2 ≤ t := fun t ht => hp t (List.mem_filter.1 ht).1
  intro d
  induction d with
  | zero =>
    intro i acc hi ha h
    rw [List.drop_eq_nil_of_le (by omega)] at h
    refine Ev.step (fun k => ?_) h
    simp only [spec_l11Edges.l2]
    rw [if_neg (by omega), wrap_in _ (by omega) (by omega)]
    rfl
  | succ d ih =>
    intro i acc hi ha h
    have h1 : (i : Int) < (l.length : Int) := by omega
    have h0 : (0 : Int) ≤ (i : Int) := by omega
    have hw := wrap_nat i l.length (by omega) (by omega)
    have hx : rd_T48 l (i : Int) = l[i]'(by omega) := getD_elem l i _ (by omega)
    rw [List.drop_eq_getElem_cons (by omega), ← hx, List.foldl_cons] at h
    have hle := hopE_le (commL l) (writersL l key) key acc (rd_T48 l (i : Int))
    have hn := ih (i + 1) _ (by omega) (by omega) h
    clear h ih
    generalize hX : rd_T48 l (i : Int) = x at *
    have hskip : (hopE (commL l) (writersL l key) key acc x = acc) → Ev (fun k => spec_l11Edges.j3 k l acc (commL l) key (writersL l key) (i : Int) true x.f0 x.f1 x.f2 x.f3) r := fun e => by
      rw [e] at hn
      refine Ev.step (fun k => ?_) hn
      simp only [spec_l11Edges.j3, if_true, hw]
    by_cases c0 : x.f0 = 2
    · by_cases c2 : x.f2 = key
      · refine Ev.step (f := fun k => (spec_l1Has.f k (commL l) x.f1).bind fun t => spec_l11Edges.j3 k l acc (commL l) key (writersL l key) (i : Int) (!t) x.f0 x.f1 x.f2 x.f3) (fun k => ?_) (Ev.bind (l1Has_ev _ _ (by omega)) ?_)
        · simp only [spec_l11Edges.l2, if_pos h1, if_pos h0, hX, if_pos c0, if_pos c2]
        · cases c3 : (commL l).contains x.f1 with
          | false => exact hskip (by unfold hopE; rw [if_pos c0, if_pos c2, if_neg (by rw [c3]; decide)])
          | true =>
            have e : hopE (commL l) (writersL l key) key acc x = hopT (commL l) (writersL l key) acc x.f1 x.f3 := by unfold hopE; rw [if_pos c0, if_pos c2, if_pos c3]
            rw [e] at hn
            unfold hopT at hn
            rw [tailT_eq _ _ _ _ hpw] at hn
            have hj5 : ∀ a : List S45, a.length ≤ acc.length + 1 → Ev (fun k => spec_l11Edges.l2 k l (if nextL (writersL l key) x.f3 = 0 then a else if nextL (writersL l key) x.f3 = x.f1 then a else addU a x.f1 (nextL (writersL l key) x.f3) 4) (commL l) key (writersL l key) ((i + 1 : Nat) : Int)) r → Ev (fun k => spec_l11Edges.j5 k l a (commL l) key (writersL l key) (i : Int) x.f0 x.f1 x.f2 x.f3) r := fun a hla hh => by
              refine Ev.step (fun k => by rw [spec_l11Edges.j5]) (Ev.bind (l11Next_ev _ _ (by omega)) ?_)
              rw [hw]
              by_cases n0 : nextL (writersL l key) x.f3 = 0
              · rw [if_pos n0] at hh; exact Ev.pos n0 hh
              · rw [if_neg n0] at hh
                refine Ev.neg n0 ?_
                by_cases n1 : nextL (writersL l key) x.f3 = x.f1
                · rw [if_pos n1] at hh; exact Ev.pos n1 hh
                · rw [if_neg n1] at hh
                  exact Ev.neg n1 (Ev.bind (l11Add_ev _ _ _ _ (by omega)) hh)
            refine Ev.step (fun k => by rw [spec_l11Edges.j3]) ?_
            refine Ev.neg (by decide) ?_
            have hadd := addE_le acc x.f3 x.f1 2
            by_cases c4 : x.f3 = x.f1
            · refine Ev.pos c4 (Ev.step (fun k => by rw [spec_l11Edges.j4]) (Ev.neg (by decide) (hj5 acc (by omega) ?_)))
              have ea : (if (commL l).contains x.f3 = true then addE acc x.f3 x.f1 2 else acc) = acc := by
                split
                · unfold addE; rw [if_pos c4]
                · rfl
              rw [ea] at hn
              exact hn
            · refine Ev.neg c4 (Ev.bind (l1Has_ev _ _ (by omega)) ?_)
              refine Ev.step (fun k => by rw [spec_l11Edges.j4]) ?_
              cases c5 : (commL l).contains x.f3 with
              | true =>
                rw [c5, if_pos rfl, addE_ne _ _ _ _ c4] at hn
                rw [addE_ne _ _ _ _ c4] at hadd
                exact Ev.pos rfl (Ev.bind (l11Add_ev _ _ _ _ (by omega)) (hj5 _ hadd hn))
              | false =>
                rw [c5] at hn
                simp only [Bool.false_eq_true, if_false] at hn
                exact Ev.neg (by decide) (hj5 acc (by omega) hn)
      · refine Ev.step (fun k => ?_) (hskip (by unfold hopE; rw [if_pos c0, if_neg c2]))
        simp only [spec_l11Edges.l2, if_pos h1, if_pos h0, hX, if_pos c0, if_neg c2]
    · refine Ev.step (fun k => ?_) (hskip (by unfold hopE; rw [if_neg c0]))
      simp only [spec_l11Edges.l2, if_pos h1, if_pos h0, hX, if_neg c0]
theorem chain_last (ws : List Int) (j : Nat) (acc : List S45) (h : ¬ j + 1 < ws.length) : chainE (ws.drop j) acc = acc := by
  have hl : (ws.drop j).length ≤ 1 := by rw [List.length_drop]; omega
  cases hd : ws.drop j with
  | nil => rfl
  | cons x r =>
    cases r with
    | nil => rfl
    | cons y r => rw [hd] at hl; simp at hl
theorem chain_one (ws : List Int) (j : Nat) (acc : List S45) (h2 : j + 1 < ws.length) : chainE (ws.drop j) acc = chainE (ws.drop (j + 1)) (addE acc (rd ws (j : Int)) (rd ws ((j : Int) + 1)) 1) := by
  rw [show rd ws (j : Int) = ws[j]'(by omega) from getD_elem ws j _ (by omega), show rd ws ((j : Int) + 1) = ws[j + 1]'(by omega) from getD_elem ws (j + 1) _ (by omega), List.drop_eq_getElem_cons (i := j) (by omega), List.drop_eq_getElem_cons (i := j + 1) h2]
  rfl
theorem edges_chain (l : List S48) (hl : l.length ≤ 400) (hn : (commL l).Nodup) (key : Int) (r : List S45) :
    ∀ (d j : Nat) (acc : List S45), (writersL l key).length ≤ j + 1 + d → acc.length ≤ 50000 + j → Ev (fun k => spec_l11Edges.l2 k l (chainE ((writersL l key).drop j) acc) (commL l) key (writersL l key) ((0 : Nat) : Int)) r → Ev (fun k => spec_l11Edges.l1 k l acc (commL l) key (writersL l key) ((j + 1 : Nat) : Int)) r := by
  have hwl := writersL_le l key
  have hnw : (writersL l key).Nodup := hn.filter _
  generalize writersL l key = ws at *
  intro d
  induction d with
  | zero =>
    intro j acc hj ha h
    rw [chain_last ws j _ (by omega)] at h
    refine Ev.step (fun k => ?_) h
    simp only [spec_l11Edges.l1]
    rw [if_neg (by omega)]
    rfl
  | succ d ih =>
    intro j acc hj ha h
    by_cases hlt : j + 1 < ws.length
    · rw [chain_one ws j acc hlt] at h
      have hadd := addE_le acc (rd ws (j : Int)) (rd ws ((j : Int) + 1)) 1
      have hne : rd ws (j : Int) ≠ rd ws ((j : Int) + 1) := by
        rw [show rd ws (j : Int) = ws[j]'(by omega) from getD_elem ws j _ (by omega), show rd ws ((j : Int) + 1) = ws[j + 1]'(by omega) from getD_elem ws (j + 1) _ (by omega)]
        intro e
        exact List.pairwise_iff_getElem.1 hnw j (j + 1) (by omega) (by omega) (by omega) e
      rw [addE_ne _ _ _ _ hne] at h hadd
      have hn2 := ih (j + 1) _ (by omega) (by omega) h
      have h1 : ((j + 1 : Nat) : Int) < (ws.length : Int) := by omega
      have hw1 : wrap64 (((j + 1 : Nat) : Int) - 1) = (j : Int) := by rw [wrap_in _ (by omega) (by omega)]; omega
      have hw2 : wrap64 (((j + 1 : Nat) : Int) + 1) = ((j + 1 + 1 : Nat) : Int) := by rw [wrap_in _ (by omega) (by omega)]; omega
      have h2 : (0 : Int) ≤ (j : Int) := by omega
      have h3 : (j : Int) < (ws.length : Int) := by omega
      have h4 : (0 : Int) ≤ ((j + 1 : Nat) : Int) := by omega
      refine Ev.step (f := fun k => (spec_l11Add.f k acc (rd ws (j : Int)) (rd ws ((j : Int) + 1)) 1).bind fun t => spec_l11Edges.l1 k l t (commL l) key ws ((j + 1 + 1 : Nat) : Int)) (fun k => ?_) (Ev.bind (l11Add_ev _ _ _ _ (by omega)) hn2)
      simp only [spec_l11Edges.l1, if_pos h1, hw1, hw2, if_pos h2, if_pos h3, if_pos h4]
      rfl
    · rw [chain_last ws j _ hlt] at h
      refine Ev.step (fun k => ?_) h
      simp only [spec_l11Edges.l1]
      rw [if_neg (by omega)]
      rfl
theorem edges_l0 (l : List S48) (hl : l.length ≤ 400) (hn : (commL l).Nodup) (hp : ∀ t ∈ commL l, 2 ≤ t) : ∀ (d n : Nat), n + d = 32 → Ev (fun k => spec_l11Edges.l0 k l (edgesL l n) (commL l) (n : Int)) (edgesL l 32) := by
  intro d
  induction d with
  | zero =>
    intro n h
    obtain rfl : n = 32 := by omega
    refine Ev.step (f := fun _ => some (edgesL l 32)) (fun k => ?_) (Ev.now _)
    simp only [spec_l11Edges.l0]
    rw [if_neg (by omega)]
  | succ d ih =>
    intro n h
    have h1 : (n : Int) ≤ 31 := by omega
    have hih := ih (n + 1) (by omega)
    rw [edgesL_succ] at hih
    unfold keyE at hih
    have hel := edgesL_le l n
    have hmul : n * (3 * l.length) ≤ 31 * 1200 := Nat.mul_le_mul (by omega) (by omega)
    have hwl := writersL_le l (n : Int)
    have hce := chainE_le (writersL l (n : Int)) (edgesL l n)
    refine Ev.step (f := fun k => (spec_l10Writers.f k l (n : Int)).bind fun t => spec_l11Edges.l1 k l (edgesL l n) (commL l) (n : Int) t ((0 + 1 : Nat) : Int)) (fun k => ?_) (Ev.bind (l10Writers_ev l _ (by omega)) ?_)
    · simp only [spec_l11Edges.l0, if_pos h1]; rfl
    · refine edges_chain l hl hn (n : Int) _ (writersL l (n : Int)).length 0 _ (by omega) (by omega) ?_
      rw [List.drop_zero]
      refine edges_hops l hl hp (n : Int) h1 (by omega) _ l.length 0 _ (by omega) (by omega) ?_
      rw [List.drop_zero]
      exact hih
theorem l11Edges_ev (l : List S48) (h : histCode l = 0) : Ev (fun k => spec_l11Edges.f k l) (edgesL l 32) := by
  have hl := histCode_len l h
  obtain ⟨hn, hp⟩ := histCode_comm l h
  unfold spec_l11Edges.f
  exact Ev.bind (l10Committed_ev l (by omega)) (edges_l0 l hl hn hp 32 0 (by omega))

/-! ### plain: rises -/
theorem incr_ext : ∀ (l m : List Int), l.Pairwise (· < ·) → m.Pairwise (· < ·) → (∀ x, x ∈ l ↔ x ∈ m) → l = m
  | [], [], _, _, _ => rfl
  | [], b :: m, _, _, h => by have := (h b).2 (by simp); simp at this
  | a :: l, [], _, _, h => by have := (h a).1 (by simp); simp at this
  | a :: l, b :: m, hl, hm, h => by
    obtain ⟨ha, hl2⟩ := List.pairwise_cons.1 hl
    obtain ⟨hb, hm2⟩ := List.pairwise_cons.1 hm
    have hab : a = b := by
      have h1 := (h a).1 (by simp)
      have h2 := (h b).2 (by simp)
      rcases List.mem_cons.1 h1 with e | h1
      · exact e
      · rcases List.mem_cons.1 h2 with e | h2
        · exact e.symm
        · have := hb a h1; have := ha b h2; omega
    subst hab
    rw [incr_ext l m hl2 hm2 (fun x => by
      constructor
      · intro hx
        rcases List.mem_cons.1 ((h x).1 (List.mem_cons_of_mem _ hx)) with e | k
        · have := ha x hx; omega
        · exact k
      · intro hx
        rcases List.mem_cons.1 ((h x).2 (List.mem_cons_of_mem _ hx)) with e | k
        · have := hb x hx; omega
        · exact k)]
theorem compactUpTo_incr (d : Array Int) (hs : ∀ i j, i < j → j < d.size → d[i]! ≤ d[j]!) : ∀ m, m ≤ d.size → (Lib.compactUpTo d m).Pairwise (· < ·) ∧ (∀ x, x ∈ Lib.compactUpTo d m ↔ ∃ i, i < m ∧ d[i]! = x) ∧ (0 < m → ∀ x ∈ Lib.compactUpTo d m, x ≤ d[m - 1]!)
  | 0, _ => by simp [Lib.compactUpTo]
  | m + 1, hm => by
    obtain ⟨h1, h2, h3⟩ := compactUpTo_incr d hs m (by omega)
    have hle : ∀ x ∈ Lib.compactUpTo d m, x ≤ d[m]! := fun x hx => by
      obtain ⟨i, hi, rfl⟩ := (h2 x).1 hx
      exact hs i m hi (by omega)
    rw [Lib.compactUpTo_succ]
    cases hk : Lib.keeps d m with
    | true =>
      have hlt : ∀ x ∈ Lib.compactUpTo d m, x < d[m]! := fun x hx => by
        unfold Lib.keeps at hk
        rw [decide_eq_true_eq] at hk
        rcases hk with rfl | hne
        · obtain ⟨i, hi, _⟩ := (h2 x).1 hx; omega
        · have hm0 : 0 < m := by
            obtain ⟨i, hi, _⟩ := (h2 x).1 hx; omega
          have := h3 hm0 x hx
          have := hs (m - 1) m (by omega) (by omega)
          omega
      simp only [if_true]
      refine ⟨?_, ?_, ?_⟩
      · rw [List.pairwise_append]
        exact ⟨h1, by simp, fun a ha b hb => by rw [List.mem_singleton.1 hb]; exact hlt a ha⟩
      · intro x
        rw [List.mem_append, h2, List.mem_singleton]
        constructor
        · rintro (⟨i, hi, e⟩ | rfl)
          · exact ⟨i, by omega, e⟩
          · exact ⟨m, by omega, rfl⟩
        · rintro ⟨i, hi, rfl⟩
          by_cases him : i = m
          · exact .inr (by rw [him])
          · exact .inl ⟨i, by omega, rfl⟩
      · intro _ x hx
        rcases List.mem_append.1 hx with hx | hx
        · exact hle x hx
        · rw [List.mem_singleton.1 hx]; exact Int.le_refl _
    | false =>
      unfold Lib.keeps at hk
      have hk := of_decide_eq_false hk
      have hm0 : m ≠ 0 := fun e => hk (.inl e)
      have he : d[m]! = d[m - 1]! := Decidable.byContradiction (fun e => hk (.inr e))
      simp only [Bool.false_eq_true, if_false, List.append_nil]
      refine ⟨h1, ?_, fun _ x hx => hle x hx⟩
      intro x
      rw [h2]
      constructor
      · rintro ⟨i, hi, e⟩; exact ⟨i, by omega, e⟩
      · rintro ⟨i, hi, rfl⟩
        by_cases him : i = m
        · exact ⟨m - 1, by omega, by rw [him, he]⟩
        · exact ⟨i, by omega, rfl⟩
theorem compact_sort (l : List Int) : (Lib.compact (l.mergeSort fun x y => decide (x ≤ y))).Pairwise (· < ·) ∧ ∀ x, x ∈ Lib.compact (l.mergeSort fun x y => decide (x ≤ y)) ↔ x ∈ l := by
  have hp := List.pairwise_mergeSort (le := fun x y : Int => decide (x ≤ y)) (fun a b c h1 h2 => by simp only [decide_eq_true_eq] at *; omega) (fun a b => by simp only [Bool.or_eq_true, decide_eq_true_eq]; omega) l
  have hmem := fun x => (List.mergeSort_perm l (fun x y : Int => decide (x ≤ y))).mem_iff (a := x)
  generalize (l.mergeSort fun x y => decide (x ≤ y)) = s at hp hmem ⊢
  have hg : ∀ i (h : i < s.length), s.toArray[i]! = s[i] := fun i h => by simp [h]
  have hk := compactUpTo_incr s.toArray (fun i j hij hj => by
    have hj' : j < s.length := by simpa using hj
    rw [hg i (by omega), hg j hj']
    have := List.pairwise_iff_getElem.1 hp i j (by omega) hj' hij
    simpa using this) s.length (by simp)
  refine ⟨hk.1, fun x => ?_⟩
  show x ∈ Lib.compactUpTo s.toArray s.length ↔ _
  rw [hk.2.1 x, ← hmem x]
  constructor
  · rintro ⟨i, hi, rfl⟩
    rw [hg i hi]; exact List.getElem_mem _
  · intro hx
    obtain ⟨i, hi, rfl⟩ := List.mem_iff_getElem.1 hx
    exact ⟨i, hi, hg i hi⟩
theorem riseL_incr (l : List Int) (v : Int) (h : l.Pairwise (· < ·)) : (riseL l v).Pairwise (· < ·) ∧ ∀ x, x ∈ riseL l v ↔ x = v ∨ x ∈ l := by
  induction l with
  | nil => simp [riseL]
  | cons a l ih =>
    obtain ⟨ha, hl⟩ := List.pairwise_cons.1 h
    obtain ⟨i1, i2⟩ := ih hl
    unfold riseL
    by_cases c1 : a < v
    · rw [if_pos c1]
      refine ⟨List.pairwise_cons.2 ⟨fun x hx => ?_, i1⟩, fun x => ?_⟩
      · rcases (i2 x).1 hx with rfl | k
        · exact c1
        · exact ha x k
      · rw [List.mem_cons, i2, List.mem_cons]
        constructor
        · rintro (e | e | e)
          · exact .inr (.inl e)
          · exact .inl e
          · exact .inr (.inr e)
        · rintro (e | e | e)
          · exact .inr (.inl e)
          · exact .inl e
          · exact .inr (.inr e)
    · rw [if_neg c1]
      by_cases c2 : a = v
      · rw [if_pos c2]
        refine ⟨h, fun x => ⟨fun k => .inr k, ?_⟩⟩
        rintro (rfl | k)
        · rw [c2]; exact List.mem_cons_self
        · exact k
      · rw [if_neg c2]
        refine ⟨List.pairwise_cons.2 ⟨fun x hx => ?_, h⟩, fun x => by rw [List.mem_cons]⟩
        rcases List.mem_cons.1 hx with rfl | k
        · omega
        · have := ha x k; omega
theorem rises_incr : ∀ (l acc : List Int), acc.Pairwise (· < ·) → (l.foldl riseL acc).Pairwise (· < ·) ∧ ∀ x, x ∈ l.foldl riseL acc ↔ x ∈ acc ∨ x ∈ l
  | [], acc, h => ⟨h, fun x => by simp⟩
  | v :: l, acc, h => by
    obtain ⟨h1, h2⟩ := riseL_incr acc v h
    obtain ⟨h3, h4⟩ := rises_incr l (riseL acc v) h1
    refine ⟨h3, fun x => ?_⟩
    rw [List.foldl_cons, h4, h2, List.mem_cons]
    constructor
    · rintro ((e | e) | e)
      · exact .inr (.inl e)
      · exact .inl e
      · exact .inr (.inr e)
    · rintro (e | e | e)
      · exact .inl (.inr e)
      · exact .inl (.inl e)
      · exact .inr e
theorem rises_eq (l : List Int) : l.foldl riseL [] = Lib.compact (l.mergeSort fun x y => decide (x ≤ y)) := by
  obtain ⟨h1, h2⟩ := rises_incr l [] List.Pairwise.nil
  obtain ⟨h3, h4⟩ := compact_sort l
  exact incr_ext _ _ h1 h3 (fun x => by rw [h2, h4]; simp)
theorem rises_len : ∀ (l acc : List Int), (l.foldl riseL acc).length ≤ acc.length + l.length
  | [], acc => by simp
  | v :: l, acc => by
    have h := rises_len l (riseL acc v)
    have h1 := riseL_len acc v
    simp only [List.foldl_cons, List.length_cons] at h ⊢
    omega

/-! ### plain: serial -/
theorem l11Free_ev (es : List S45) (ll : List Int) (txn : Int) (he : es.length ≤ 1048576) (hl : ll.length ≤ 1048576) : Ev (fun k => spec_l11Free.f k es ll txn) (freeB es ll txn) := by
  have key : ∀ (d i : Nat), i + d = es.length → Ev (fun k => spec_l11Free.l0 k es ll txn (i : Int)) (!((es.drop i).any (edgeB ll txn))) := by
    intro d
    induction d with
    | zero =>
      intro i hi
      rw [List.drop_eq_nil_of_le (by omega)]
      refine Ev.step (f := fun _ => some true) (fun k => ?_) (Ev.val (Ev.now _) (by simp))
      simp only [spec_l11Free.l0]
      rw [if_neg (by omega)]
    | succ d ih =>
      intro i hi
      have h1 : (i : Int) < (es.length : Int) := by omega
      have h0 : (0 : Int) ≤ (i : Int) := by omega
      have hw := wrap_nat i es.length (by omega) (by omega)
      have hx : rd_T45 es (i : Int) = es[i]'(by omega) := getD_elem es i _ (by omega)
      rw [List.drop_eq_getElem_cons (by omega), ← hx, List.any_cons]
      have hn := ih (i + 1) (by omega)
      generalize hX : rd_T45 es (i : Int) = x at *
      by_cases c1 : x.f1 = txn
      · by_cases c0 : x.f0 = txn
        · refine Ev.step (fun k => ?_) (Ev.val hn (by rw [show edgeB ll txn x = false from by unfold edgeB; simp [c0], Bool.false_or]))
          simp only [spec_l11Free.l0, if_pos h1, if_pos h0, hX, if_pos c1, if_pos c0, hw]
        · have hb : edgeB ll txn x = ll.contains x.f0 := by unfold edgeB; rw [beq_iff_eq.2 c1, bne_iff_ne.2 c0, Bool.true_and, Bool.true_and]
          refine Ev.step (f := fun k => (spec_l1Has.f k ll x.f0).bind fun t => if t = true then some false else spec_l11Free.l0 k es ll txn ((i + 1 : Nat) : Int)) (fun k => ?_) (Ev.bind (l1Has_ev ll x.f0 hl) ?_)
          · simp only [spec_l11Free.l0, if_pos h1, if_pos h0, hX, if_pos c1, if_neg c0, hw]
          · rw [hb]
            cases ll.contains x.f0 with
            | true => exact Ev.pos rfl (Ev.val (Ev.now _) (by simp))
            | false => exact Ev.neg (by decide) (Ev.val hn (by rw [Bool.false_or]))
      · refine Ev.step (fun k => ?_) (Ev.val hn (by rw [show edgeB ll txn x = false from by unfold edgeB; rw [beq_eq_false_iff_ne.2 c1, Bool.false_and], Bool.false_or]))
        simp only [spec_l11Free.l0, if_pos h1, if_pos h0, hX, if_neg c1, hw]
  have h := key es.length 0 (by omega)
  rw [List.drop_zero] at h
  exact h
theorem ser_l2 (es : List S45) (ll : List Int) (out : List Int) (he : es.length ≤ 1048576) (hl : ll.length ≤ 1048576) (R : Int × List Int) (hR : ∀ i : Int, Ev (fun k => spec_SerialOrder.j3 k es ll (idxP (freeB es ll) ll) i false 0 out) R) :
    ∀ (d i : Nat), i + d = ll.length → idxP (freeB es ll) ll = (if idxP (freeB es ll) (ll.drop i) < 0 then -1 else idxP (freeB es ll) (ll.drop i) + i) → Ev (fun k => spec_SerialOrder.l2 k es ll (-1) (i : Int) 0 out) R := by
  have hend : ∀ i : Int, 0 ≤ idxP (freeB es ll) ll → Ev (fun k => spec_SerialOrder.l2 k es ll (idxP (freeB es ll) ll) i 0 out) R := fun i h0 => by
    by_cases h : i < (ll.length : Int)
    · refine Ev.step (fun k => ?_) (hR i)
      simp only [spec_SerialOrder.l2]
      rw [if_pos h, decide_eq_false (by omega)]
    · refine Ev.step (fun k => ?_) (hR i)
      simp only [spec_SerialOrder.l2]
      rw [if_neg h]
  intro d
  induction d with
  | zero =>
    intro i hi hq
    rw [List.drop_eq_nil_of_le (by omega)] at hq
    have hq : idxP (freeB es ll) ll = -1 := by rw [hq]; simp [idxP]
    rw [hq] at hR
    refine Ev.step (fun k => ?_) (hR i)
    simp only [spec_SerialOrder.l2]
    rw [if_neg (by omega)]
  | succ d ih =>
    intro i hi hq
    have h1 : (i : Int) < (ll.length : Int) := by omega
    have h0 : (0 : Int) ≤ (i : Int) := by omega
    have hw := wrap_nat i ll.length (by omega) (by omega)
    have hx : rd ll (i : Int) = ll[i]'(by omega) := getD_elem ll i _ (by omega)
    rw [List.drop_eq_getElem_cons (by omega), ← hx, idxP_shift] at hq
    have hn := fun h => ih (i + 1) (by omega) h
    refine Ev.step (f := fun k => spec_SerialOrder.j3 k es ll (-1) (i : Int) true 0 out) (fun k => ?_) ?_
    · simp only [spec_SerialOrder.l2]
      rw [if_pos h1]; rfl
    · refine Ev.step (f := fun k => (spec_l11Free.f k es ll (rd ll (i : Int))).bind fun t => if t = true then spec_SerialOrder.l2 k es ll (i : Int) ((i + 1 : Nat) : Int) 0 out else spec_SerialOrder.l2 k es ll (-1) ((i + 1 : Nat) : Int) 0 out) (fun k => ?_) (Ev.bind (l11Free_ev es ll _ he hl) ?_)
      · simp only [spec_SerialOrder.j3, if_true, if_pos h1, if_pos h0, hw]
      · cases hf : freeB es ll (rd ll (i : Int)) with
        | true =>
          rw [hf, if_pos rfl] at hq
          rw [hq] at hend
          exact Ev.pos rfl (hend _ h0)
        | false =>
          rw [hf, if_neg (by decide)] at hq
          exact Ev.neg (by decide) (hn (by rw [hq]; push_cast; rfl))
theorem serGo_step (es : List S45) (n : Nat) (ll out : List Int) (m : Nat) (h : idxP (freeB es ll) ll = (m : Int)) : serGo es (n + 1) ll out = serGo es n (ll.take m ++ ll.drop (m + 1)) (out ++ [rd ll (m : Int)]) := by
  show (if idxP (freeB es ll) ll < 0 then ((9 : Int), ([] : List Int)) else _) = _
  rw [if_neg (show ¬ idxP (freeB es ll) ll < 0 by omega), h, Int.toNat_natCast]
theorem ser_l1 (es : List S45) (he : es.length ≤ 1048576) : ∀ (n : Nat) (ll out : List Int), ll.length = n → n + out.length ≤ 1048576 → Ev (fun k => spec_SerialOrder.l1 k es ll 0 out) (serGo es n ll out) := by
  intro n
  induction n with
  | zero =>
    intro ll out hl hb
    refine Ev.step (f := fun _ => some (0, out)) (fun k => ?_) (Ev.now _)
    simp only [spec_SerialOrder.l1]
    rw [if_neg (by omega)]
  | succ n ih =>
    intro ll out hl hb
    refine Ev.step (f := fun k => spec_SerialOrder.l2 k es ll (-1) ((0 : Nat) : Int) 0 out) (fun k => ?_) ?_
    · simp only [spec_SerialOrder.l1]
      rw [if_pos (by omega)]; rfl
    · have hg := idxP_ge (freeB es ll) ll
      refine ser_l2 es ll out he (by omega) _ (fun i => ?_) ll.length 0 (by omega) ?_
      · by_cases hk : idxP (freeB es ll) ll < 0
        · refine Ev.step (f := fun _ => some ((9 : Int), ([] : List Int))) (fun k => ?_) (Ev.val (Ev.now _) (if_pos hk).symm)
          simp only [spec_SerialOrder.j3, Bool.false_eq_true, if_false, if_pos hk]
        · obtain ⟨m, hm⟩ : ∃ m : Nat, idxP (freeB es ll) ll = (m : Int) := ⟨(idxP (freeB es ll) ll).toNat, by omega⟩
          rw [serGo_step es n ll out m hm]
          rw [hm] at hk hg ⊢
          have hw := wrap_nat m ll.length (by omega) (by omega)
          have g0 : (0 : Int) ≤ (m : Int) := by omega
          have g1 : (m : Int) < (ll.length : Int) := by omega
          have g2 : (m : Int) ≤ (ll.length : Int) := by omega
          have g3 : (0 : Int) ≤ ((m + 1 : Nat) : Int) := by omega
          have g4 : ((m + 1 : Nat) : Int) ≤ (ll.length : Int) := by omega
          have g5 : out.length < 17592186044416 := by omega
          have hlt : (ll.take m).length ≤ ll.length := by rw [List.length_take]; omega
          have hld : (ll.drop (m + 1)).length ≤ ll.length := by rw [List.length_drop]; omega
          have hsum : (ll.take m ++ ll.drop (m + 1)).length = n := by rw [List.length_append, List.length_take, List.length_drop]; omega
          refine Ev.step (fun k => ?_) (ih (ll.take m ++ ll.drop (m + 1)) (out ++ [rd ll (m : Int)]) hsum (by rw [List.length_append, List.length_singleton]; omega))
          simp only [spec_SerialOrder.j3, Bool.false_eq_true, if_false, if_neg hk, if_pos g0, if_pos g1, if_pos g2, if_pos g5, hw, if_pos g3, if_pos g4, Option.bind_some, Int.toNat_natCast, List.nil_append, List.length_nil]
          rw [if_pos (by omega), if_pos (by omega)]
      · rw [List.drop_zero]
        split
        · omega
        · simp
theorem rises_sort (l : List Int) (h : l.Nodup) : l.foldl riseL [] = l.mergeSort fun x y => decide (x ≤ y) := by
  obtain ⟨h1, h2⟩ := rises_incr l [] List.Pairwise.nil
  have hp := List.pairwise_mergeSort (le := fun x y : Int => decide (x ≤ y)) (fun a b c h1 h2 => by simp only [decide_eq_true_eq] at *; omega) (fun a b => by simp only [Bool.or_eq_true, decide_eq_true_eq]; omega) l
  have hperm := List.mergeSort_perm l (fun x y : Int => decide (x ≤ y))
  have hn : (l.mergeSort fun x y => decide (x ≤ y)).Nodup := hperm.nodup_iff.2 h
  refine incr_ext _ _ h1 ((hp.and hn).imp (fun hab => ?_)) (fun x => by rw [h2, hperm.mem_iff]; simp)
  obtain ⟨ha, hb⟩ := hab
  simp only [decide_eq_true_eq] at ha
  omega
theorem ser_l0 (es : List S45) (cl : List Int) (hcl : cl.length ≤ 400) (R : Int × List Int) (hR : Ev (fun k => spec_SerialOrder.l1 k es (cl.foldl riseL []) 0 []) R) :
    ∀ (d i : Nat) (acc : List Int), i + d = cl.length → acc.length ≤ i → (cl.drop i).foldl riseL acc = cl.foldl riseL [] → Ev (fun k => spec_SerialOrder.l0 k es acc cl (i : Int)) R := by
  intro d
  induction d with
  | zero =>
    intro i acc hi ha hq
    rw [List.drop_eq_nil_of_le (by omega), List.foldl_nil] at hq
    subst hq
    refine Ev.step (fun k => ?_) hR
    simp only [spec_SerialOrder.l0]
    rw [if_neg (by omega)]
  | succ d ih =>
    intro i acc hi ha hq
    have h1 : (i : Int) < (cl.length : Int) := by omega
    have h0 : (0 : Int) ≤ (i : Int) := by omega
    have hw := wrap_nat i cl.length (by omega) (by omega)
    have hx : rd cl (i : Int) = cl[i]'(by omega) := getD_elem cl i _ (by omega)
    rw [List.drop_eq_getElem_cons (by omega), ← hx, List.foldl_cons] at hq
    have hr := riseL_len acc (rd cl (i : Int))
    refine Ev.step (f := fun k => (spec_l1Rise.f k acc (rd cl (i : Int))).bind fun t => spec_SerialOrder.l0 k es t cl ((i + 1 : Nat) : Int)) (fun k => ?_) (Ev.bind (riseL_ev acc _ (by omega)) (ih (i + 1) _ (by omega) (by omega) hq))
    simp only [spec_SerialOrder.l0, if_pos h1, if_pos h0, hw]
theorem serGo_len (es : List S45) : ∀ (n : Nat) (ll out : List Int), (serGo es n ll out).2.length ≤ n + out.length
  | 0, ll, out => by simp [serGo]
  | n + 1, ll, out => by
    unfold serGo
    split
    · simp
    · have := serGo_len es n (ll.take (idxP (freeB es ll) ll).toNat ++ ll.drop ((idxP (freeB es ll) ll).toNat + 1)) (out ++ [rd ll (idxP (freeB es ll) ll)])
      rw [List.length_append, List.length_singleton] at this
      omega

theorem FnExactSerialOrder_of (l0 : List (S50)) (h0 : (l0.length ≤ maxLen ∧ ∀ y ∈ l0, ok50 y)) (r_0 : Int) (r_1 : List Int) (hs : (l0.length ≤ 1048576) → Ev (fun k => spec_SerialOrder.f k (l0.map cv50)) (r_0, r_1)) (hi : (l0.length ≤ 1048576) → Ev (fun k => impl_SerialOrder.f (l0.map cv50)) (r_0, r_1)) (hb1 : (l0.length ≤ 1048576) → r_1.length ≤ 1099511627776) : ∃ k, laws_FnExactSerialOrder.f k l0 = some true := by
  refine Ev.rounds ?_
  unfold laws_FnExactSerialOrder.f
  obtain ⟨q0, e0, m0, b0⟩ := laws_szHopS.ev l0 1048576 (by omega) (by omega) h0.1
  refine Ev.bind (Ev.eq e0) ?_
  by_cases c0 : q0 < 0
  · exact Ev.pos c0 (Ev.now _)
  refine Ev.neg c0 ?_
  have d0 := b0 (by omega)
  have hbd : (l0.length ≤ 1048576) := d0
  have fs := hs hbd
  have fi := hi hbd
  have t0 := laws_toHopS.ev l0 d0
  have u0 : (l0.map cv50).length ≤ 1048576 := by have := d0; simp only [List.length_map]; exact this
  have v0 := laws_eqHopS.ev (l0.map cv50) (by omega)
  have w1 := hb1 hbd
  have eR := laws_eqIntsResult.ev r_0 r_1 (by omega)
  obtain ⟨y_, b_, mR, lR, kR⟩ := laws_markIntsResult.ev r_0 r_1 1 (by omega) (by omega)
  obtain ⟨z0, k0, p0, o0, _⟩ := laws_markHopS.ev (l0.map cv50) 1 (by omega) (by omega)
  repeat (first | exact Ev.now _ | (with_reducible refine Ev.bind fs ?_) | (with_reducible refine Ev.bind fi ?_) | (with_reducible refine Ev.bind t0 ?_) | (with_reducible refine Ev.bind v0 ?_) | (with_reducible refine Ev.bind eR ?_) | (with_reducible refine Ev.bind mR ?_) | (with_reducible refine Ev.bind kR ?_) | (with_reducible refine Ev.bind p0 ?_) | (with_reducible refine Ev.pos rfl ?_) | (refine Ev.neg (by omega) ?_) | (refine Ev.neg (by decide) ?_) | (refine Ev.neg (by simp; done) ?_) | (refine Ev.step (fun k => by rw [laws_FnExactSerialOrder.j0]) ?_))
end Go.Proofs.Ytkabmhjnhcfkcaa.XFnExactSerialOrder
