/- The law FnExactNewCopies answers true at every input: its plain statement, its plain lemmas and its row; no condition. Written by a program of this session. -/
import Derived.Test.YtbppgngfiijclaaXFnExactNewCopiesy
import Derived.Test.YtbppgngfiijclaaVXPure
namespace Go.Proofs.Ytbppgngfiijclaa.XFnExactNewCopies
open Go.RowKit Go.Proofs.YtbppgngfiijclaaW.PrintWords Go.Proofs.YtbppgngfiijclaaW.PrintLast Go.Proofs.YtbppgngfiijclaaW.PrintMore
set_option linter.unusedVariables false
set_option linter.unusedSimpArgs false
theorem laws_szCellS.ev (l : List (S120)) (a : Int) (h0 : 0 ≤ a) (h1 : a ≤ 1048576) (hl : l.length ≤ maxLen) : ∃ r, laws_szCellS.f l a = some r ∧ r ≤ a ∧ (0 ≤ r → (l.length ≤ 1048576)) := by
  unfold maxLen at hl
  unfold laws_szCellS.f
  rw [wrap_in (a - (l.length : Int)) (by omega) (by omega)]
  by_cases h : a - (l.length : Int) < 0
  · rw [if_pos h]; exact ⟨-1, rfl, by omega, fun hh => absurd hh (by omega)⟩
  · rw [if_neg h]; exact ⟨_, rfl, by omega, fun _ => by omega⟩
def cv120 (x : S120) : S118 := ⟨x.f0, x.f1⟩
theorem laws_toCell.ev (x : S120) : Ev (fun k => laws_toCell.f x.f0 x.f1) ((cv120 x).f0, (cv120 x).f1) := Ev.eq rfl
theorem laws_toCellS.ev (l : List (S120)) (h : (l.length ≤ 1048576)) : Ev (fun k => laws_toCellS.f k l) (l.map cv120) := by
  have hl : l.length ≤ 1048576 := h
  have key : ∀ (d i : Nat) (acc : List (S118)), i + d = l.length → acc.length = l.length → (∀ j, j < i → acc[j]? = ((l.map cv120))[j]?) → Ev (fun k => laws_toCellS.l0 k l acc (i : Int)) (l.map cv120) := by
    intro d
    induction d with
    | zero =>
      intro i acc hi ha hj
      refine Ev.step (f := fun _ => some acc) (fun k => ?_) (Ev.val (Ev.now acc) (ext_upto (by simp [ha]) (fun j hjl => hj j (by omega))))
      simp only [laws_toCellS.l0]
      rw [if_neg (by omega)]
    | succ d ih =>
      intro i acc hi ha hj
      have h1 : (i : Int) < (l.length : Int) := by omega
      have h2 : (i : Int) < (acc.length : Int) := by omega
      have h0 : (0 : Int) ≤ (i : Int) := by omega
      have hw := wrap_nat i l.length (by omega) (by omega)
      have hs := ih (i + 1) (acc.set i (cv120 (rd_T120 l (i : Int)))) (by omega) (by simp [ha]) (fun j hjl => ?_)
      · refine Ev.step (f := fun k => (laws_toCell.f (rd_T120 l (i : Int)).f0 (rd_T120 l (i : Int)).f1).bind fun t => laws_toCellS.l0 k l (acc.set i (⟨t.1, t.2⟩ : S118)) ((i + 1 : Nat) : Int)) (fun k => ?_) (Ev.bind (laws_toCell.ev (rd_T120 l (i : Int))) hs)
        simp only [laws_toCellS.l0, if_pos h1, if_pos h0, if_pos h2, hw, Int.toNat_natCast]
      · rcases Nat.lt_or_ge j i with hlt | hge
        · rw [List.getElem?_set_ne (by omega)]; exact hj j hlt
        · obtain rfl : j = i := by omega
          rw [List.getElem?_set_self (by omega)]
          exact (get_map l _ j z120 (by omega)).symm
  unfold laws_toCellS.f
  refine Ev.pos (by omega) (Ev.pos (by omega) ?_)
  refine key l.length 0 _ (by omega) (by simp) (fun j hj => absurd hj (by omega))
theorem laws_eqCell.ev (x0 : Int) (x1 : Int) : Ev (fun k => laws_eqCell.f x0 x1 x0 x1) true := by
  unfold laws_eqCell.f
  repeat (first | exact Ev.now _ | refine Ev.pos rfl ?_ | (refine Ev.bind (Ev.eq rfl) ?_; try dsimp only))
theorem laws_eqCellS.ev (l : List (S118)) (hl : l.length ≤ 9223372036854775807) : Ev (fun k => laws_eqCellS.f k l l) true := by
  have key : ∀ (d i : Nat), i + d = l.length → Ev (fun k => laws_eqCellS.l0 k l l (i : Int)) true := by
    intro d
    induction d with
    | zero =>
      intro i hi
      refine Ev.step (f := fun _ => some true) (fun k => ?_) (Ev.now _)
      simp only [laws_eqCellS.l0]
      rw [if_neg (by omega)]
    | succ d ih =>
      intro i hi
      have h1 : (i : Int) < (l.length : Int) := by omega
      have h0 : (0 : Int) ≤ (i : Int) := by omega
      have hw := wrap_nat i l.length (by omega) (by omega)
      refine Ev.step (f := fun k => (laws_eqCell.f (rd_T118 l (i : Int)).f0 (rd_T118 l (i : Int)).f1 (rd_T118 l (i : Int)).f0 (rd_T118 l (i : Int)).f1).bind fun t => if t = true then laws_eqCellS.l0 k l l ((i + 1 : Nat) : Int) else some false) (fun k => ?_) (Ev.bind (laws_eqCell.ev (rd_T118 l (i : Int)).f0 (rd_T118 l (i : Int)).f1) (Ev.pos rfl (ih (i + 1) (by omega))))
      simp only [laws_eqCellS.l0, if_pos h1, if_pos h0, hw]
  unfold laws_eqCellS.f
  exact Ev.pos rfl (key l.length 0 (by omega))
theorem laws_eqInt64S.ev (l : List Int) (hl : l.length ≤ 9223372036854775807) : Ev (fun k => laws_eqInt64S.f k l l) true := by
  have key : ∀ (d i : Nat), i + d = l.length → Ev (fun k => laws_eqInt64S.l0 k l l (i : Int)) true := by
    intro d
    induction d with
    | zero =>
      intro i hi
      refine Ev.step (f := fun _ => some true) (fun k => ?_) (Ev.now _)
      simp only [laws_eqInt64S.l0]
      rw [if_neg (by omega)]
    | succ d ih =>
      intro i hi
      have h1 : (i : Int) < (l.length : Int) := by omega
      have h0 : (0 : Int) ≤ (i : Int) := by omega
      have hw := wrap_nat i l.length (by omega) (by omega)
      refine Ev.step (fun k => ?_) (ih (i + 1) (by omega))
      simp only [laws_eqInt64S.l0, if_pos h1, if_pos h0, hw, if_true]
  unfold laws_eqInt64S.f
  exact Ev.pos rfl (key l.length 0 (by omega))
theorem laws_eqCopied.ev (x0 : Int) (x1 : Int) (x2 : Int) (x3 : List (S118)) (x4 : List (S118)) (x5 : List Int) (h3 : x3.length ≤ 9223372036854775807) (h4 : x4.length ≤ 9223372036854775807) (h5 : x5.length ≤ 9223372036854775807) : Ev (fun k => laws_eqCopied.f k x0 x1 x2 x3 x4 x5 x0 x1 x2 x3 x4 x5) true := by
  unfold laws_eqCopied.f
  repeat (first | exact Ev.now _ | refine Ev.pos rfl ?_ | (refine Ev.bind (laws_eqCellS.ev x3 h3) ?_; try dsimp only) | (refine Ev.bind (laws_eqCellS.ev x4 h4) ?_; try dsimp only) | (refine Ev.bind (laws_eqInt64S.ev x5 h5) ?_; try dsimp only) | (refine Ev.bind (Ev.eq rfl) ?_; try dsimp only))
theorem laws_eqCopiedS.ev (l : List (S135)) (hl' : (l.length ≤ 1048576 ∧ ∀ y ∈ l, ((y.f3.length ≤ 1048576) ∧ (y.f4.length ≤ 1048576) ∧ (y.f5.length ≤ 1048576)))) : Ev (fun k => laws_eqCopiedS.f k l l) true := by
  have hl := hl'.1
  have key : ∀ (d i : Nat), i + d = l.length → Ev (fun k => laws_eqCopiedS.l0 k l l (i : Int)) true := by
    intro d
    induction d with
    | zero =>
      intro i hi
      refine Ev.step (f := fun _ => some true) (fun k => ?_) (Ev.now _)
      simp only [laws_eqCopiedS.l0]
      rw [if_neg (by omega)]
    | succ d ih =>
      intro i hi
      have h1 : (i : Int) < (l.length : Int) := by omega
      have h0 : (0 : Int) ≤ (i : Int) := by omega
      have hw := wrap_nat i l.length (by omega) (by omega)
      refine Ev.step (f := fun k => (laws_eqCopied.f k (rd_T135 l (i : Int)).f0 (rd_T135 l (i : Int)).f1 (rd_T135 l (i : Int)).f2 (rd_T135 l (i : Int)).f3 (rd_T135 l (i : Int)).f4 (rd_T135 l (i : Int)).f5 (rd_T135 l (i : Int)).f0 (rd_T135 l (i : Int)).f1 (rd_T135 l (i : Int)).f2 (rd_T135 l (i : Int)).f3 (rd_T135 l (i : Int)).f4 (rd_T135 l (i : Int)).f5).bind fun t => if t = true then laws_eqCopiedS.l0 k l l ((i + 1 : Nat) : Int) else some false) (fun k => ?_) (Ev.bind (laws_eqCopied.ev (rd_T135 l (i : Int)).f0 (rd_T135 l (i : Int)).f1 (rd_T135 l (i : Int)).f2 (rd_T135 l (i : Int)).f3 (rd_T135 l (i : Int)).f4 (rd_T135 l (i : Int)).f5 (Nat.le_trans (hl'.2 _ (getD_mem_ _ _ _ (by omega))).1 (by decide)) (Nat.le_trans (hl'.2 _ (getD_mem_ _ _ _ (by omega))).2.1 (by decide)) (Nat.le_trans (hl'.2 _ (getD_mem_ _ _ _ (by omega))).2.2 (by decide))) (Ev.pos rfl (ih (i + 1) (by omega))))
      simp only [laws_eqCopiedS.l0, if_pos h1, if_pos h0, hw]
  unfold laws_eqCopiedS.f
  exact Ev.pos rfl (key l.length 0 (by omega))
theorem laws_eqCopies.ev (x0 : Int) (x1 : Int) (x2 : List (S118)) (x3 : List Int) (x4 : List (S135)) (h2 : x2.length ≤ 9223372036854775807) (h3 : x3.length ≤ 9223372036854775807) (h4 : (x4.length ≤ 1048576 ∧ ∀ y ∈ x4, ((y.f3.length ≤ 1048576) ∧ (y.f4.length ≤ 1048576) ∧ (y.f5.length ≤ 1048576)))) : Ev (fun k => laws_eqCopies.f k x0 x1 x2 x3 x4 x0 x1 x2 x3 x4) true := by
  unfold laws_eqCopies.f
  repeat (first | exact Ev.now _ | refine Ev.pos rfl ?_ | (refine Ev.bind (laws_eqCellS.ev x2 h2) ?_; try dsimp only) | (refine Ev.bind (laws_eqInt64S.ev x3 h3) ?_; try dsimp only) | (refine Ev.bind (laws_eqCopiedS.ev x4 h4) ?_; try dsimp only) | (refine Ev.bind (Ev.eq rfl) ?_; try dsimp only))
theorem laws_eqCopiesResult.ev (x0 : Int) (x1 : Int) (x2 : List (S118)) (x3 : Int) (x4 : Int) (x5 : List (S118)) (x6 : List Int) (x7 : List (S135)) (h2 : x2.length ≤ 9223372036854775807) (h5 : x5.length ≤ 9223372036854775807) (h6 : x6.length ≤ 9223372036854775807) (h7 : (x7.length ≤ 1048576 ∧ ∀ y ∈ x7, ((y.f3.length ≤ 1048576) ∧ (y.f4.length ≤ 1048576) ∧ (y.f5.length ≤ 1048576)))) : Ev (fun k => laws_eqCopiesResult.f k x0 x1 x2 x3 x4 x5 x6 x7 x0 x1 x2 x3 x4 x5 x6 x7) true := by
  unfold laws_eqCopiesResult.f
  repeat (first | exact Ev.now _ | refine Ev.pos rfl ?_ | (refine Ev.bind (laws_eqCellS.ev x2 h2) ?_; try dsimp only) | (refine Ev.bind (laws_eqCopies.ev x3 x4 x5 x6 x7 h5 h6 h7) ?_; try dsimp only) | (refine Ev.bind (Ev.eq rfl) ?_; try dsimp only))
theorem laws_markCellS.key : ∀ (d i : Nat) (x : List (S118)) (a : Int), i + d = x.length → 0 ≤ a → a + 2 * (d : Int) ≤ 4611686018427387904 → x.length ≤ 9223372036854775807 → ∃ x', Ev (fun k => laws_markCellS.l0 k x a (i : Int)) (a + 2 * (d : Int), x') ∧ x'.length = x.length ∧ (∀ j, j < i → x'[j]? = x[j]?) ∧ Ev (fun k => laws_heldCellS.l0 k x' a (i : Int)) (a + 2 * (d : Int)) := by
  intro d
  induction d with
  | zero =>
    intro i x a hi h0 h1 hl
    refine ⟨x, ?_, rfl, fun _ _ => rfl, ?_⟩
    · refine Ev.step (f := fun _ => some (a, x)) (fun k => ?_) (Ev.val (Ev.now _) (by simp))
      simp only [laws_markCellS.l0]
      rw [if_neg (by omega)]
    · refine Ev.step (f := fun _ => some a) (fun k => ?_) (Ev.val (Ev.now _) (by simp))
      simp only [laws_heldCellS.l0]
      rw [if_neg (by omega)]
  | succ d ih =>
    intro i x a hi h0 h1 hl
    have g1 : (i : Int) < (x.length : Int) := by omega
    have g0 : (0 : Int) ≤ (i : Int) := by omega
    have hw := wrap_nat i x.length (by omega) (by omega)
    have w1 : wrap64 (a + 1) = a + 1 := by rw [wrap_in _ (by omega) (by omega)]
    have w2 : wrap64 (a + 1 + 1) = a + 2 := by rw [wrap_in _ (by omega) (by omega)]; omega
    obtain ⟨x', h2, h3, h4, h5⟩ := ih (i + 1) (x.set i (⟨a, a + 1⟩ : S118)) (a + 2) (by simp; omega) (by omega) (by omega) (by simpa using hl)
    have hrd : ∀ (y : List (S118)) (v : S118), y.length = x.length → rd_T118 (y.set i v) (i : Int) = v := fun y v hy => getD_set_self _ _ _ _ (by omega)
    refine ⟨x', ?_, by rw [h3]; simp, fun j hj => ?_, ?_⟩
    · refine Ev.step (fun k => ?_) (Ev.val h2 (by rw [show a + 2 + 2 * (d : Int) = a + 2 * ((d + 1 : Nat) : Int) from by omega]))
      simp only [laws_markCellS.l0, if_pos g1, if_pos g0, hw, Int.toNat_natCast, Option.bind_some, w1, w2]
      repeat (first | rw [hrd x _ rfl] | rw [hrd _ _ (by simp)])
      simp only [List.set_set]
    · rw [h4 j (by omega), List.getElem?_set_ne (by omega)]
    · have hx : rd_T118 x' (i : Int) = (⟨a, a + 1⟩ : S118) := by
        show x'.getD i _ = _
        rw [getD_of _ (h4 i (by omega)), getD_set_self _ _ _ _ (by omega)]
      refine Ev.step (fun k => ?_) (Ev.val h5 (by omega))
      have g1' : (i : Int) < (x'.length : Int) := by rw [h3]; simp; omega
      simp only [laws_heldCellS.l0, if_pos g1', if_pos g0, hx, if_true, hw, w1, w2]
theorem laws_markCellS.ev (x : List (S118)) (a : Int) (h0 : 0 ≤ a) (h1 : a + 2 * (x.length : Int) ≤ 4611686018427387904) : ∃ x' b, Ev (fun k => laws_markCellS.f k x a) (b, x') ∧ a ≤ b ∧ b = a + 2 * (x.length : Int) ∧ Ev (fun k => laws_heldCellS.f k x' a) b := by
  obtain ⟨x', h2, _, _, h5⟩ := laws_markCellS.key x.length 0 x a (by omega) h0 h1 (by omega)
  refine ⟨x', _, (by unfold laws_markCellS.f; exact h2), by omega, rfl, by unfold laws_heldCellS.f; exact h5⟩
theorem laws_markInt64S.key : ∀ (d i : Nat) (x : List Int) (a : Int), i + d = x.length → 0 ≤ a → a + 1 * (d : Int) ≤ 4611686018427387904 → x.length ≤ 9223372036854775807 → ∃ x', Ev (fun k => laws_markInt64S.l0 k x a (i : Int)) (a + 1 * (d : Int), x') ∧ x'.length = x.length ∧ (∀ j, j < i → x'[j]? = x[j]?) ∧ Ev (fun k => laws_heldInt64S.l0 k x' a (i : Int)) (a + 1 * (d : Int)) := by
  intro d
  induction d with
  | zero =>
    intro i x a hi h0 h1 hl
    refine ⟨x, ?_, rfl, fun _ _ => rfl, ?_⟩
    · refine Ev.step (f := fun _ => some (a, x)) (fun k => ?_) (Ev.val (Ev.now _) (by simp))
      simp only [laws_markInt64S.l0]
      rw [if_neg (by omega)]
    · refine Ev.step (f := fun _ => some a) (fun k => ?_) (Ev.val (Ev.now _) (by simp))
      simp only [laws_heldInt64S.l0]
      rw [if_neg (by omega)]
  | succ d ih =>
    intro i x a hi h0 h1 hl
    have g1 : (i : Int) < (x.length : Int) := by omega
    have g0 : (0 : Int) ≤ (i : Int) := by omega
    have hw := wrap_nat i x.length (by omega) (by omega)
    have w1 : wrap64 (a + 1) = a + 1 := by rw [wrap_in _ (by omega) (by omega)]
    obtain ⟨x', h2, h3, h4, h5⟩ := ih (i + 1) (x.set i a) (a + 1) (by simp; omega) (by omega) (by omega) (by simpa using hl)
    refine ⟨x', ?_, by rw [h3]; simp, fun j hj => ?_, ?_⟩
    · refine Ev.step (fun k => ?_) (Ev.val h2 (by rw [show a + 1 + 1 * (d : Int) = a + 1 * ((d + 1 : Nat) : Int) from by omega]))
      simp only [laws_markInt64S.l0, if_pos g1, if_pos g0, hw, Int.toNat_natCast, w1]
    · rw [h4 j (by omega), List.getElem?_set_ne (by omega)]
    · have hx : rd x' (i : Int) = a := by
        show x'.getD i 0 = a
        rw [getD_of 0 (h4 i (by omega)), getD_set_self _ _ _ _ (by omega)]
      refine Ev.step (fun k => ?_) (Ev.val h5 (by omega))
      have g1' : (i : Int) < (x'.length : Int) := by rw [h3]; simp; omega
      simp only [laws_heldInt64S.l0, if_pos g1', if_pos g0, hx, if_true, hw, w1]
theorem laws_markInt64S.ev (x : List Int) (a : Int) (h0 : 0 ≤ a) (h1 : a + 1 * (x.length : Int) ≤ 4611686018427387904) : ∃ x' b, Ev (fun k => laws_markInt64S.f k x a) (b, x') ∧ a ≤ b ∧ b = a + 1 * (x.length : Int) ∧ Ev (fun k => laws_heldInt64S.f k x' a) b := by
  obtain ⟨x', h2, _, _, h5⟩ := laws_markInt64S.key x.length 0 x a (by omega) h0 h1 (by omega)
  refine ⟨x', _, (by unfold laws_markInt64S.f; exact h2), by omega, rfl, by unfold laws_heldInt64S.f; exact h5⟩
/-! ### plain: copies -/
theorem heldCopied_nil (b : Int) : Ev (fun k => laws_heldCopiedS.f k [] b) b := by
  unfold laws_heldCopiedS.f
  refine Ev.step (f := fun _ => some b) (fun k => ?_) (Ev.now _)
  simp [laws_heldCopiedS.l0]
theorem laws_markCopies.ev (x0 x1 : Int) (x2 : List S118) (x3 : List Int) (a : Int) (h0 : 0 ≤ a) (h1 : a + 2 * (x2.length : Int) + (x3.length : Int) ≤ 4611686018427387904) : ∃ y2 y3 b, Ev (fun k => laws_markCopies.f k x0 x1 x2 x3 [] a) (b, y2, y3) ∧ b = a + 2 * (x2.length : Int) + (x3.length : Int) ∧ Ev (fun k => laws_heldCopies.f k x0 x1 y2 y3 [] a) b := by
  obtain ⟨y2, b2, e2, g2, h2, k2⟩ := laws_markCellS.ev x2 a h0 (by omega)
  obtain ⟨y3, b3, e3, g3, h3, k3⟩ := laws_markInt64S.ev x3 b2 (by omega) (by omega)
  refine ⟨y2, y3, b3, ?_, by omega, ?_⟩
  · unfold laws_markCopies.f
    exact Ev.bind e2 (Ev.bind e3 (Ev.bind (Ev.eq rfl) (Ev.now _)))
  · unfold laws_heldCopies.f
    exact Ev.bind k2 (Ev.neg (by omega) (Ev.bind k3 (Ev.neg (by omega) (Ev.bind (heldCopied_nil b3) (Ev.neg (by omega) (Ev.now _))))))
theorem laws_markCopiesResult.ev (x0 x1 : Int) (x2 : List S118) (x3 x4 : Int) (x5 : List S118) (x6 : List Int) (a : Int) (h0 : 0 ≤ a) (h1 : a + 2 * (x2.length : Int) + 2 * (x5.length : Int) + (x6.length : Int) ≤ 4611686018427387904) : ∃ y2 y5 y6 b, Ev (fun k => laws_markCopiesResult.f k x0 x1 x2 x3 x4 x5 x6 [] a) (b, y2, y5, y6) ∧ a ≤ b ∧ Ev (fun k => laws_heldCopiesResult.f k x0 x1 y2 x3 x4 y5 y6 [] a) b := by
  obtain ⟨y2, b2, e2, g2, h2, k2⟩ := laws_markCellS.ev x2 a h0 (by omega)
  obtain ⟨y5, y6, b3, e3, h3, k3⟩ := laws_markCopies.ev x3 x4 x5 x6 b2 (by omega) (by omega)
  refine ⟨y2, y5, y6, b3, ?_, by omega, ?_⟩
  · unfold laws_markCopiesResult.f
    exact Ev.bind e2 (Ev.bind e3 (Ev.now _))
  · unfold laws_heldCopiesResult.f
    exact Ev.bind k2 (Ev.neg (by omega) (Ev.bind k3 (Ev.neg (by omega) (Ev.now _))))
theorem FnExactNewCopies_of (l0 : List (S120)) (h0 : (l0.length ≤ maxLen ∧ ∀ y ∈ l0, ok120 y)) (r_0 : Int) (r_1 : Int) (r_2 : List (S118)) (r_3 : Int) (r_4 : Int) (r_5 : List (S118)) (r_6 : List Int) (hs : (l0.length ≤ 1048576) → Ev (fun k => spec_NewCopies.f k (l0.map cv120)) (r_0, r_1, r_2, r_3, r_4, r_5, r_6, [])) (hi : (l0.length ≤ 1048576) → Ev (fun k => impl_NewCopies.f k (l0.map cv120)) (r_0, r_1, r_2, r_3, r_4, r_5, r_6, [])) (hb2 : (l0.length ≤ 1048576) → r_2.length ≤ 1099511627776) (hb5 : (l0.length ≤ 1048576) → r_5.length ≤ 1099511627776) (hb6 : (l0.length ≤ 1048576) → r_6.length ≤ 1099511627776) : ∃ k, laws_FnExactNewCopies.f k l0 = some true := by
  refine Ev.rounds ?_
  unfold laws_FnExactNewCopies.f
  obtain ⟨q0, e0, m0, b0⟩ := laws_szCellS.ev l0 1048576 (by omega) (by omega) h0.1
  refine Ev.bind (Ev.eq e0) ?_
  by_cases c0 : q0 < 0
  · exact Ev.pos c0 (Ev.now _)
  refine Ev.neg c0 ?_
  have d0 := b0 (by omega)
  have fs := hs d0
  have fi := hi d0
  have t0 := laws_toCellS.ev l0 d0
  have u0 : (l0.map cv120).length ≤ 1048576 := by have := d0; simp only [List.length_map]; exact this
  have v0 := laws_eqCellS.ev (l0.map cv120) (by omega)
  have w2 := hb2 d0
  have w5 := hb5 d0
  have w6 := hb6 d0
  have eR := laws_eqCopiesResult.ev r_0 r_1 r_2 r_3 r_4 r_5 r_6 [] (by omega) (by omega) (by omega) ⟨by simp, by simp⟩
  obtain ⟨y2, y5, y6, b_, mR, lR, kR⟩ := laws_markCopiesResult.ev r_0 r_1 r_2 r_3 r_4 r_5 r_6 1 (by omega) (by omega)
  obtain ⟨z0, k0, p0, o0, _⟩ := laws_markCellS.ev (l0.map cv120) 1 (by omega) (by omega)
  repeat (first | exact Ev.now _ | (with_reducible refine Ev.bind fs ?_) | (with_reducible refine Ev.bind fi ?_) | (with_reducible refine Ev.bind t0 ?_) | (with_reducible refine Ev.bind v0 ?_) | (with_reducible refine Ev.bind eR ?_) | (with_reducible refine Ev.bind mR ?_) | (with_reducible refine Ev.bind kR ?_) | (with_reducible refine Ev.bind p0 ?_) | (with_reducible refine Ev.pos rfl ?_) | (refine Ev.neg (by omega) ?_) | (refine Ev.neg (by decide) ?_) | (refine Ev.neg (by simp; done) ?_) | (refine Ev.step (fun k => by rw [laws_FnExactNewCopies.j0]) ?_))
def cellGo (l : List S118) : Nat → Nat → Int
  | 0, _ => 0
  | d + 1, i => if withinB (rd_T118 l (i : Int)).f0 0 31 = true ∧ withinB (rd_T118 l (i : Int)).f1 0 9999 = true then (if 0 < i ∧ (rd_T118 l (i : Int)).f0 ≤ (rd_T118 l ((i - 1 : Nat) : Int)).f0 then 1 else cellGo l d (i + 1)) else 3
def engC (l : List S118) : Int := if 20 < l.length then 2 else cellGo l l.length 0
theorem wrap_pred (i n : Nat) (h : 0 < i) (hi : i < n) (hn : n ≤ 9223372036854775807) : wrap64 ((i : Int) - 1) = ((i - 1 : Nat) : Int) := by
  rw [wrap_in _ (by omega) (by omega)]; omega
theorem cellsFault_ev (l : List S118) (hl : l.length ≤ 1048576) : ∀ (d i : Nat), i + d = l.length → Ev (fun k => impl_cellsFault.l0 k l l (l.length : Int) (i : Int)) (cellGo l d i) := by
  intro d
  induction d with
  | zero =>
    intro i hi
    refine Ev.step (f := fun _ => some 0) (fun k => ?_) (Ev.now _)
    simp only [impl_cellsFault.l0]
    rw [if_neg (by omega)]
  | succ d ih =>
    intro i hi
    have h1 : (i : Int) < (l.length : Int) := by omega
    have h0 : (0 : Int) ≤ (i : Int) := by omega
    have hw := wrap_nat i l.length (by omega) (by omega)
    have hn := ih (i + 1) (by omega)
    have hj3 : ∀ (p v : Int), Ev (fun k => impl_cellsFault.j1 k l (i : Int) l (l.length : Int) (i : Int) true p v) 3 := fun p v => Ev.step (f := fun _ => some 3) (fun k => by simp only [impl_cellsFault.j1, if_true]) (Ev.now _)
    show Ev _ (if withinB (rd_T118 l (i : Int)).f0 0 31 = true ∧ withinB (rd_T118 l (i : Int)).f1 0 9999 = true then (if 0 < i ∧ (rd_T118 l (i : Int)).f0 ≤ (rd_T118 l ((i - 1 : Nat) : Int)).f0 then 1 else cellGo l d (i + 1)) else 3)
    have hjn : Ev (fun k => impl_cellsFault.j1 k l (i : Int) l (l.length : Int) (i : Int) false (rd_T118 l (i : Int)).f0 (rd_T118 l (i : Int)).f1) (if 0 < i ∧ (rd_T118 l (i : Int)).f0 ≤ (rd_T118 l ((i - 1 : Nat) : Int)).f0 then 1 else cellGo l d (i + 1)) := by
      by_cases hi0 : 0 < i
      · have hwp := wrap_pred i l.length hi0 (by omega) (by omega)
        have g1 : (i : Int) > 0 := by omega
        have g2 : (0 : Int) ≤ ((i - 1 : Nat) : Int) := by omega
        have g3 : ((i - 1 : Nat) : Int) < (l.length : Int) := by omega
        by_cases hle : (rd_T118 l (i : Int)).f0 ≤ (rd_T118 l ((i - 1 : Nat) : Int)).f0
        · rw [if_pos ⟨hi0, hle⟩]
          refine Ev.step (f := fun _ => some 1) (fun k => ?_) (Ev.now _)
          simp only [impl_cellsFault.j1, Bool.false_eq_true, if_false, if_pos g1, hwp, if_pos g2, if_pos g3, if_pos hle]
        · rw [if_neg (fun h => hle h.2)]
          refine Ev.step (fun k => ?_) hn
          simp only [impl_cellsFault.j1, Bool.false_eq_true, if_false, if_pos g1, hwp, if_pos g2, if_pos g3, if_neg hle, hw]
      · rw [if_neg (fun h => hi0 h.1)]
        have g1 : ¬ (i : Int) > 0 := by omega
        refine Ev.step (fun k => ?_) hn
        simp only [impl_cellsFault.j1, Bool.false_eq_true, if_false, if_neg g1, hw]
    cases hk : withinB (rd_T118 l (i : Int)).f0 0 31 with
    | false =>
      rw [if_neg (by simp)]
      refine Ev.step (fun k => ?_) (hj3 (rd_T118 l (i : Int)).f0 (rd_T118 l (i : Int)).f1)
      simp only [impl_cellsFault.l0, if_pos h1, if_pos h0, impl_isKey.f, hk, Option.bind_some, Bool.false_eq_true, if_false]
    | true =>
      cases hv : withinB (rd_T118 l (i : Int)).f1 0 9999 with
      | false =>
        rw [if_neg (by simp)]
        refine Ev.step (fun k => ?_) (hj3 (rd_T118 l (i : Int)).f0 (rd_T118 l (i : Int)).f1)
        simp only [impl_cellsFault.l0, if_pos h1, if_pos h0, impl_isKey.f, impl_isValue.f, hk, hv, Option.bind_some, if_true, Bool.not_false]
      | true =>
        rw [if_pos ⟨rfl, rfl⟩]
        refine Ev.step (fun k => ?_) hjn
        simp only [impl_cellsFault.l0, if_pos h1, if_pos h0, impl_isKey.f, impl_isValue.f, hk, hv, Option.bind_some, if_true, Bool.not_true]
theorem implEng_l0 (l : List S118) (hl : l.length ≤ 1048576) (n : Int) : ∀ (d i : Nat) (c : Int) (rs : List S189), i + d = l.length → rs.length ≤ i → ∃ c' rs', Ev (fun k => impl_NewEngine.l0 k l (l.length : Int) (i : Int) n c rs) (0, 0, n, c', ([] : List S243), rs') := by
  intro d
  induction d with
  | zero =>
    intro i c rs hi hr
    refine ⟨c, rs, Ev.step (f := fun _ => some (0, 0, n, c, ([] : List S243), rs)) (fun k => ?_) (Ev.now _)⟩
    simp only [impl_NewEngine.l0]
    rw [if_neg (by omega)]
  | succ d ih =>
    intro i c rs hi hr
    have h1 : (i : Int) < (l.length : Int) := by omega
    have h0 : (0 : Int) ≤ (i : Int) := by omega
    have h2 : rs.length < 4398046511104 := by omega
    have hw := wrap_nat i l.length (by omega) (by omega)
    obtain ⟨c', rs', h⟩ := ih (i + 1) 1 (rs ++ [(⟨(rd_T118 l (i : Int)).f0, [(⟨1, 1, false, (rd_T118 l (i : Int)).f1⟩ : S186)]⟩ : S189)]) (by omega) (by simp; omega)
    refine ⟨c', rs', Ev.step (fun k => ?_) h⟩
    simp only [impl_NewEngine.l0, if_pos h1, if_pos h0, if_pos h2, hw]
theorem implEng_ev (l : List S118) (hl : l.length ≤ 1048576) : ∃ e2 e3 e4 e5 e6, Ev (fun k => impl_NewEngine.f k l) (engC l, e2, e3, e4, e5, e6) := by
  unfold engC impl_NewEngine.f
  by_cases h20 : 20 < l.length
  · rw [if_pos h20]
    exact ⟨_, _, _, _, _, Ev.pos (by omega) (Ev.now _)⟩
  · rw [if_neg h20]
    have hc : Ev (fun k => impl_cellsFault.f k l) (cellGo l l.length 0) := by unfold impl_cellsFault.f; exact cellsFault_ev l hl l.length 0 (by omega)
    by_cases hz : cellGo l l.length 0 = 0
    · obtain ⟨c', rs', h⟩ := implEng_l0 l hl 2 l.length 0 0 [] (by omega) (by simp)
      rw [hz] at hc ⊢
      exact ⟨_, _, _, _, _, Ev.neg (by omega) (Ev.bind hc (Ev.pos rfl h))⟩
    · exact ⟨_, _, _, _, _, Ev.neg (by omega) (Ev.bind hc (Ev.neg hz (Ev.now _)))⟩
theorem key_ev (a : Int) : spec_l1Key.f a = some (withinB a 0 31) := by
  unfold spec_l1Key.f spec_l1In.f withinB
  by_cases h : a ≥ 0
  · rw [if_pos h, decide_eq_true h]; rfl
  · rw [if_neg h, decide_eq_false h]; rfl
theorem value_ev (a : Int) : spec_l1Value.f a = some (withinB a 0 9999) := by
  unfold spec_l1Value.f spec_l1In.f withinB
  by_cases h : a ≥ 0
  · rw [if_pos h, decide_eq_true h]; rfl
  · rw [if_neg h, decide_eq_false h]; rfl
theorem specEng_l0 (l : List S118) (hl : l.length ≤ 1048576) (n : Int) : ∀ (d i : Nat) (c : Int) (rs : List S189), i + d = l.length → rs.length ≤ i → ∃ e2 e3 e4 e5 e6, Ev (fun k => spec_NewEngine.l0 k l (i : Int) n c rs) (cellGo l d i, e2, e3, e4, e5, e6) := by
  intro d
  induction d with
  | zero =>
    intro i c rs hi hr
    refine ⟨_, _, _, _, _, Ev.step (f := fun _ => some (0, 0, n, c, ([] : List S243), rs)) (fun k => ?_) (Ev.now _)⟩
    simp only [spec_NewEngine.l0]
    rw [if_neg (by omega)]
  | succ d ih =>
    intro i c rs hi hr
    have h1 : (i : Int) < (l.length : Int) := by omega
    have h0 : (0 : Int) ≤ (i : Int) := by omega
    have h2 : rs.length < 4398046511104 := by omega
    have hw := wrap_nat i l.length (by omega) (by omega)
    obtain ⟨g2, g3, g4, g5, g6, hn⟩ := ih (i + 1) 1 (rs ++ [(⟨(rd_T118 l (i : Int)).f0, [(⟨1, 1, false, (rd_T118 l (i : Int)).f1⟩ : S186)]⟩ : S189)]) (by omega) (by simp; omega)
    have hj3 : Ev (fun k => spec_NewEngine.j1 k l (i : Int) true n c rs) ((3 : Int), 0, 0, 0, ([] : List S243), ([] : List S189)) := Ev.step (f := fun _ => some ((3 : Int), 0, 0, 0, ([] : List S243), ([] : List S189))) (fun k => by simp only [spec_NewEngine.j1, if_true, spec_l6Bad.f, Option.bind_some]) (Ev.now _)
    have hjn : ∃ e2 e3 e4 e5 e6, Ev (fun k => spec_NewEngine.j1 k l (i : Int) false n c rs) ((if 0 < i ∧ (rd_T118 l (i : Int)).f0 ≤ (rd_T118 l ((i - 1 : Nat) : Int)).f0 then 1 else cellGo l d (i + 1)), e2, e3, e4, e5, e6) := by
      by_cases hi0 : 0 < i
      · have hwp := wrap_pred i l.length hi0 (by omega) (by omega)
        have g1 : (i : Int) > 0 := by omega
        have g2 : (0 : Int) ≤ ((i - 1 : Nat) : Int) := by omega
        have g3 : ((i - 1 : Nat) : Int) < (l.length : Int) := by omega
        by_cases hle : (rd_T118 l (i : Int)).f0 ≤ (rd_T118 l ((i - 1 : Nat) : Int)).f0
        · rw [if_pos ⟨hi0, hle⟩]
          refine ⟨0, 0, 0, [], [], Ev.step (f := fun _ => some ((1 : Int), 0, 0, 0, ([] : List S243), ([] : List S189))) (fun k => ?_) (Ev.now _)⟩
          simp only [spec_NewEngine.j1, Bool.false_eq_true, if_false, if_pos g1, if_pos h0, if_pos h1, hwp, if_pos g2, if_pos g3, if_pos hle, spec_l6Bad.f, Option.bind_some]
        · rw [if_neg (fun h => hle h.2)]
          refine ⟨_, _, _, _, _, Ev.step (fun k => ?_) hn⟩
          simp only [spec_NewEngine.j1, Bool.false_eq_true, if_false, if_pos g1, if_pos h0, if_pos h1, hwp, if_pos g2, if_pos g3, if_neg hle, if_pos h2, hw]
      · rw [if_neg (fun h => hi0 h.1)]
        have g1 : ¬ (i : Int) > 0 := by omega
        refine ⟨_, _, _, _, _, Ev.step (fun k => ?_) hn⟩
        simp only [spec_NewEngine.j1, Bool.false_eq_true, if_false, if_neg g1, if_pos h0, if_pos h1, if_pos h2, hw]
    show ∃ e2 e3 e4 e5 e6, Ev _ ((if withinB (rd_T118 l (i : Int)).f0 0 31 = true ∧ withinB (rd_T118 l (i : Int)).f1 0 9999 = true then (if 0 < i ∧ (rd_T118 l (i : Int)).f0 ≤ (rd_T118 l ((i - 1 : Nat) : Int)).f0 then 1 else cellGo l d (i + 1)) else 3), e2, e3, e4, e5, e6)
    cases hk : withinB (rd_T118 l (i : Int)).f0 0 31 with
    | false =>
      rw [if_neg (by simp)]
      refine ⟨_, _, _, _, _, Ev.step (fun k => ?_) hj3⟩
      simp only [spec_NewEngine.l0, if_pos h1, if_pos h0, key_ev, hk, Option.bind_some, Bool.false_eq_true, if_false]
    | true =>
      cases hv : withinB (rd_T118 l (i : Int)).f1 0 9999 with
      | false =>
        rw [if_neg (by simp)]
        refine ⟨_, _, _, _, _, Ev.step (fun k => ?_) hj3⟩
        simp only [spec_NewEngine.l0, if_pos h1, if_pos h0, key_ev, value_ev, hk, hv, Option.bind_some, if_true, Bool.not_false]
      | true =>
        rw [if_pos ⟨rfl, rfl⟩]
        obtain ⟨e2, e3, e4, e5, e6, hj⟩ := hjn
        refine ⟨e2, e3, e4, e5, e6, Ev.step (fun k => ?_) hj⟩
        simp only [spec_NewEngine.l0, if_pos h1, if_pos h0, key_ev, value_ev, hk, hv, Option.bind_some, if_true, Bool.not_true]
theorem specEng_ev (l : List S118) (hl : l.length ≤ 1048576) : ∃ e2 e3 e4 e5 e6, Ev (fun k => spec_NewEngine.f k l) (engC l, e2, e3, e4, e5, e6) := by
  unfold engC spec_NewEngine.f
  by_cases h20 : 20 < l.length
  · rw [if_pos h20]
    exact ⟨0, 0, 0, [], [], Ev.pos (by omega) (Ev.bind (Ev.eq rfl) (Ev.now _))⟩
  · rw [if_neg h20]
    obtain ⟨e2, e3, e4, e5, e6, h⟩ := specEng_l0 l hl 2 l.length 0 0 [] (by omega) (by simp)
    exact ⟨_, _, _, _, _, Ev.neg (by omega) h⟩
theorem cellGo_keys (l : List S118) : ∀ (d i : Nat), i + d = l.length → cellGo l d i = 0 → ∀ j, i ≤ j → j < l.length → withinB (rd_T118 l (j : Int)).f0 0 31 = true := by
  intro d
  induction d with
  | zero => intro i hi _ j h1 h2; omega
  | succ d ih =>
    intro i hi h j h1 h2
    unfold cellGo at h
    by_cases hk : withinB (rd_T118 l (i : Int)).f0 0 31 = true ∧ withinB (rd_T118 l (i : Int)).f1 0 9999 = true
    · rw [if_pos hk] at h
      by_cases hq : 0 < i ∧ (rd_T118 l (i : Int)).f0 ≤ (rd_T118 l ((i - 1 : Nat) : Int)).f0
      · rw [if_pos hq] at h; omega
      · rw [if_neg hq] at h
        by_cases hj : j = i
        · rw [hj]; exact hk.1
        · exact ih (i + 1) (by omega) h j (by omega) h2
    · rw [if_neg hk] at h; omega
theorem engC_keys (l : List S118) (h : engC l = 0) : keysIn l = true := by
  unfold engC at h
  by_cases h20 : 20 < l.length
  · rw [if_pos h20] at h; omega
  · rw [if_neg h20] at h
    unfold keysIn
    rw [List.all_eq_true]
    intro c hc
    obtain ⟨j, hj, rfl⟩ := List.mem_iff_getElem.1 hc
    have hk := cellGo_keys l l.length 0 (by omega) h j (by omega) hj
    rw [show rd_T118 l (j : Int) = l[j] from by show l.getD j _ = _; rw [List.getD_eq_getElem?_getD, List.getElem?_eq_getElem hj]; rfl] at hk
    unfold withinB at hk
    simp only [Bool.and_eq_true, decide_eq_true_eq] at hk ⊢
    omega
theorem specCopies_l0 (l : List S118) (hl : l.length ≤ 1048576) (hk : keysIn l = true) (n : Int) (nw : List S118) : ∀ (d i : Nat) (ls : List Int), i + d = l.length → ls.length = 32 → Ev (fun k => spec_NewCopies.l0 k l (i : Int) n (if i = 0 then 0 else 1) nw ls) (0, 0, ([] : List S118), n, (if l.length = 0 then 0 else 1), nw, (l.drop i).foldl (fun a c => a.set c.f0.toNat 1) ls, ([] : List S135)) := by
  intro d
  induction d with
  | zero =>
    intro i ls hi hs
    obtain rfl : i = l.length := by omega
    rw [List.drop_length, List.foldl_nil]
    refine Ev.step (f := fun _ => some (0, 0, ([] : List S118), n, (if l.length = 0 then 0 else 1), nw, ls, ([] : List S135))) (fun k => ?_) (Ev.now _)
    simp only [spec_NewCopies.l0]
    rw [if_neg (by omega)]
  | succ d ih =>
    intro i ls hi hs
    have h1 : (i : Int) < (l.length : Int) := by omega
    have h0 : (0 : Int) ≤ (i : Int) := by omega
    have hw := wrap_nat i l.length (by omega) (by omega)
    have hx : rd_T118 l (i : Int) = l[i]'(by omega) := by show l.getD i _ = _; rw [List.getD_eq_getElem?_getD, List.getElem?_eq_getElem (by omega)]; rfl
    have hkk := List.all_eq_true.1 hk _ (show rd_T118 l (i : Int) ∈ l by rw [hx]; exact List.getElem_mem _)
    simp only [Bool.and_eq_true, decide_eq_true_eq] at hkk
    have hn := ih (i + 1) (ls.set (rd_T118 l (i : Int)).f0.toNat 1) (by omega) (by rw [List.length_set]; exact hs)
    rw [List.drop_eq_getElem_cons (show i < l.length by omega), List.foldl_cons, ← hx]
    have g2 : (rd_T118 l (i : Int)).f0 < (ls.length : Int) := by rw [hs]; omega
    refine Ev.step (fun k => ?_) hn
    simp only [spec_NewCopies.l0, if_pos h1, if_pos h0, if_pos hkk.1, if_pos g2, hw]
    rw [if_neg (show ¬ i + 1 = 0 by omega)]

end Go.Proofs.Ytbppgngfiijclaa.XFnExactNewCopies
