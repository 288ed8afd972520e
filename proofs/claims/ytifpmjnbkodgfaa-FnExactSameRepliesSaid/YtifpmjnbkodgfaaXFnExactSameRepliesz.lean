/- The law FnExactSameReplies answers true at every input: its plain statement, its plain lemmas and its row; no condition. Written by a program of this session. -/
import Derived.Test.YtifpmjnbkodgfaaXFnExactSameRepliesy
import Derived.Test.YtifpmjnbkodgfaaXPure
namespace Go.Proofs.Ytifpmjnbkodgfaa.XFnExactSameReplies
open Go.RowKit Go.Proofs.YtifpmjnbkodgfaaW.PrintWords Go.Proofs.YtifpmjnbkodgfaaW.PrintLast Go.Proofs.YtifpmjnbkodgfaaW.PrintMore
set_option linter.unusedVariables false
set_option linter.unusedSimpArgs false
theorem laws_szCellS.ev (l : List (S103)) (a : Int) (h0 : 0 ≤ a) (h1 : a ≤ 1048576) (hl : l.length ≤ maxLen) : ∃ r, laws_szCellS.f l a = some r ∧ r ≤ a ∧ (0 ≤ r → (l.length ≤ 1048576)) := by
  unfold maxLen at hl
  unfold laws_szCellS.f
  rw [wrap_in (a - (l.length : Int)) (by omega) (by omega)]
  by_cases h : a - (l.length : Int) < 0
  · rw [if_pos h]; exact ⟨-1, rfl, by omega, fun hh => absurd hh (by omega)⟩
  · rw [if_neg h]; exact ⟨_, rfl, by omega, fun _ => by omega⟩
theorem laws_szReply.ev (x : S78) (a : Int) (h0 : 0 ≤ a) (h1 : a ≤ 1048576) (hq : ok78 x) : ∃ r, laws_szReply.f x.f0 x.f1 x.f2 a = some r ∧ r ≤ a ∧ (0 ≤ r → ((x.f2.length ≤ 1048576))) := by
  have hq' := hq
  unfold ok78 at hq'
  obtain ⟨g0, g1, g2⟩ := hq'
  unfold laws_szReply.f
  obtain ⟨r0, e0, m0, b0⟩ := laws_szCellS.ev x.f2 a (by omega) (by omega) g2.1
  rw [e0, Option.bind_some]
  by_cases c0 : r0 < 0
  · rw [if_pos c0]; exact ⟨-1, rfl, by omega, fun hh => absurd hh (by omega)⟩
  rw [if_neg c0]
  exact ⟨r0, rfl, by omega, fun hh => b0 (by omega)⟩
theorem laws_szReplyS.ev (l : List (S78)) (a : Int) (h0 : 0 ≤ a) (h1 : a ≤ 1048576) (hq : (l.length ≤ maxLen ∧ ∀ y ∈ l, ok78 y)) : ∃ r, Ev (fun k => laws_szReplyS.f k l a) r ∧ r ≤ a ∧ (0 ≤ r → (l.length ≤ 1048576 ∧ ∀ y ∈ l, ((y.f2.length ≤ 1048576)))) := by
  have hlm := hq.1
  unfold maxLen at hlm
  unfold laws_szReplyS.f
  rw [wrap_in (a - (l.length : Int)) (by omega) (by omega)]
  by_cases h : a - (l.length : Int) < 0
  · exact ⟨-1, Ev.pos h (Ev.now _), by omega, fun hh => absurd hh (by omega)⟩
  have key : ∀ (d i : Nat) (b : Int), i + d = l.length → 0 ≤ b → b ≤ a - (l.length : Int) → (∀ j, j < i → (((rd_T78 l (j : Int)).f2.length ≤ 1048576))) → ∃ r, Ev (fun k => laws_szReplyS.l0 k l b (i : Int)) r ∧ r ≤ b ∧ (0 ≤ r → ∀ j, j < l.length → (((rd_T78 l (j : Int)).f2.length ≤ 1048576))) := by
    intro d
    induction d with
    | zero =>
      intro i b hi hb0 hb1 hj
      refine ⟨b, Ev.step (f := fun _ => some b) (fun k => ?_) (Ev.now _), by omega, fun _ j hjl => hj j (by omega)⟩
      simp only [laws_szReplyS.l0]
      rw [if_neg (by omega)]
    | succ d ih =>
      intro i b hi hb0 hb1 hj
      have g1 : (i : Int) < (l.length : Int) := by omega
      have g0 : (0 : Int) ≤ (i : Int) := by omega
      have hw := wrap_nat i l.length (by omega) (by omega)
      obtain ⟨r1, e1, m1, b1⟩ := laws_szReply.ev (rd_T78 l (i : Int)) b (by omega) (by omega) (hq.2 _ (getD_mem_ _ _ _ (by omega)))
      have hst : ∀ k, laws_szReplyS.l0 (k + 1) l b (i : Int) = (laws_szReply.f (rd_T78 l (i : Int)).f0 (rd_T78 l (i : Int)).f1 (rd_T78 l (i : Int)).f2 b).bind fun t => if t < 0 then some (-1) else laws_szReplyS.l0 k l t ((i + 1 : Nat) : Int) := fun k => by
        simp only [laws_szReplyS.l0, if_pos g1, if_pos g0, hw]
      by_cases c : r1 < 0
      · exact ⟨-1, Ev.step hst (Ev.bind (Ev.eq e1) (Ev.pos c (Ev.now _))), by omega, fun hh => absurd hh (by omega)⟩
      obtain ⟨r, e2, m2, b2⟩ := ih (i + 1) r1 (by omega) (by omega) (by omega) (fun j hjl => by
        rcases Nat.lt_or_ge j i with hlt | hge
        · exact hj j hlt
        · obtain rfl : j = i := by omega
          exact b1 (by omega))
      exact ⟨r, Ev.step hst (Ev.bind (Ev.eq e1) (Ev.neg c e2)), by omega, b2⟩
  obtain ⟨r, e, m, b⟩ := key l.length 0 (a - (l.length : Int)) (by omega) (by omega) (by omega) (fun j hj => absurd hj (by omega))
  refine ⟨r, Ev.neg h e, by omega, fun hr => ⟨by omega, fun y hy => ?_⟩⟩
  obtain ⟨j, hj, rfl⟩ := List.mem_iff_getElem.1 hy
  have hb := b hr j hj
  rwa [show rd_T78 l (j : Int) = l[j] from by show l.getD j _ = _; rw [List.getD_eq_getElem?_getD, List.getElem?_eq_getElem hj]; rfl] at hb
def cv103 (x : S103) : S86 := ⟨x.f0, x.f1⟩
theorem laws_toCell.ev (x : S103) : Ev (fun k => laws_toCell.f x.f0 x.f1) ((cv103 x).f0, (cv103 x).f1) := Ev.eq rfl
theorem laws_toCellS.ev (l : List (S103)) (h : (l.length ≤ 1048576)) : Ev (fun k => laws_toCellS.f k l) (l.map cv103) := by
  have hl : l.length ≤ 1048576 := h
  have key : ∀ (d i : Nat) (acc : List (S86)), i + d = l.length → acc.length = l.length → (∀ j, j < i → acc[j]? = ((l.map cv103))[j]?) → Ev (fun k => laws_toCellS.l0 k l acc (i : Int)) (l.map cv103) := by
    intro d
    induction d with
    | zero =>
      intro i acc hi ha hj
      refine Ev.step (f := fun _ => some acc) (fun k => ?_) (Ev.val (Ev.now acc) (ext_upto (by simp [ha]) (fun j hjl => hj j (by omega))))
      simp only [laws_toCellS.l0]
      rw [if_neg (by omega)]
    | succ d ih =>
      intro i acc hi ha hj
      have h1 : (i : Int) < (l.length : Int) := by omega
      have h2 : (i : Int) < (acc.length : Int) := by omega
      have h0 : (0 : Int) ≤ (i : Int) := by omega
      have hw := wrap_nat i l.length (by omega) (by omega)
      have hs := ih (i + 1) (acc.set i (cv103 (rd_T103 l (i : Int)))) (by omega) (by simp [ha]) (fun j hjl => ?_)
      · refine Ev.step (f := fun k => (laws_toCell.f (rd_T103 l (i : Int)).f0 (rd_T103 l (i : Int)).f1).bind fun t => laws_toCellS.l0 k l (acc.set i (⟨t.1, t.2⟩ : S86)) ((i + 1 : Nat) : Int)) (fun k => ?_) (Ev.bind (laws_toCell.ev (rd_T103 l (i : Int))) hs)
        simp only [laws_toCellS.l0, if_pos h1, if_pos h0, if_pos h2, hw, Int.toNat_natCast]
      · rcases Nat.lt_or_ge j i with hlt | hge
        · rw [List.getElem?_set_ne (by omega)]; exact hj j hlt
        · obtain rfl : j = i := by omega
          rw [List.getElem?_set_self (by omega)]
          exact (get_map l _ j z103 (by omega)).symm
  unfold laws_toCellS.f
  refine Ev.pos (by omega) (Ev.pos (by omega) ?_)
  refine key l.length 0 _ (by omega) (by simp) (fun j hj => absurd hj (by omega))
def cv78 (x : S78) : S81 := ⟨x.f0, x.f1, (x.f2.map cv103)⟩
theorem laws_toReply.ev (x : S78) (h : ((x.f2.length ≤ 1048576))) : Ev (fun k => laws_toReply.f k x.f0 x.f1 x.f2) ((cv78 x).f0, (cv78 x).f1, (cv78 x).f2) := by
  have h2 := h
  unfold laws_toReply.f
  refine Ev.bind (laws_toCellS.ev x.f2 h2) ?_
  try dsimp only
  exact Ev.now _
theorem laws_toReplyS.ev (l : List (S78)) (h : (l.length ≤ 1048576 ∧ ∀ y ∈ l, ((y.f2.length ≤ 1048576)))) : Ev (fun k => laws_toReplyS.f k l) (l.map cv78) := by
  have hl : l.length ≤ 1048576 := h.1
  have key : ∀ (d i : Nat) (acc : List (S81)), i + d = l.length → acc.length = l.length → (∀ j, j < i → acc[j]? = ((l.map cv78))[j]?) → Ev (fun k => laws_toReplyS.l0 k l acc (i : Int)) (l.map cv78) := by
    intro d
    induction d with
    | zero =>
      intro i acc hi ha hj
      refine Ev.step (f := fun _ => some acc) (fun k => ?_) (Ev.val (Ev.now acc) (ext_upto (by simp [ha]) (fun j hjl => hj j (by omega))))
      simp only [laws_toReplyS.l0]
      rw [if_neg (by omega)]
    | succ d ih =>
      intro i acc hi ha hj
      have h1 : (i : Int) < (l.length : Int) := by omega
      have h2 : (i : Int) < (acc.length : Int) := by omega
      have h0 : (0 : Int) ≤ (i : Int) := by omega
      have hw := wrap_nat i l.length (by omega) (by omega)
      have hs := ih (i + 1) (acc.set i (cv78 (rd_T78 l (i : Int)))) (by omega) (by simp [ha]) (fun j hjl => ?_)
      · refine Ev.step (f := fun k => (laws_toReply.f k (rd_T78 l (i : Int)).f0 (rd_T78 l (i : Int)).f1 (rd_T78 l (i : Int)).f2).bind fun t => laws_toReplyS.l0 k l (acc.set i (⟨t.1, t.2.1, t.2.2⟩ : S81)) ((i + 1 : Nat) : Int)) (fun k => ?_) (Ev.bind (laws_toReply.ev (rd_T78 l (i : Int)) (h.2 _ (getD_mem_ _ _ _ (by omega)))) hs)
        simp only [laws_toReplyS.l0, if_pos h1, if_pos h0, if_pos h2, hw, Int.toNat_natCast]
      · rcases Nat.lt_or_ge j i with hlt | hge
        · rw [List.getElem?_set_ne (by omega)]; exact hj j hlt
        · obtain rfl : j = i := by omega
          rw [List.getElem?_set_self (by omega)]
          exact (get_map l _ j z78 (by omega)).symm
  unfold laws_toReplyS.f
  refine Ev.pos (by omega) (Ev.pos (by omega) ?_)
  refine key l.length 0 _ (by omega) (by simp) (fun j hj => absurd hj (by omega))
theorem laws_eqCell.ev (x0 : Int) (x1 : Int) : Ev (fun k => laws_eqCell.f x0 x1 x0 x1) true := by
  unfold laws_eqCell.f
  repeat (first | exact Ev.now _ | refine Ev.pos rfl ?_ | (refine Ev.bind (Ev.eq rfl) ?_; try dsimp only))
theorem laws_eqCellS.ev (l : List (S86)) (hl : l.length ≤ 9223372036854775807) : Ev (fun k => laws_eqCellS.f k l l) true := by
  have key : ∀ (d i : Nat), i + d = l.length → Ev (fun k => laws_eqCellS.l0 k l l (i : Int)) true := by
    intro d
    induction d with
    | zero =>
      intro i hi
      refine Ev.step (f := fun _ => some true) (fun k => ?_) (Ev.now _)
      simp only [laws_eqCellS.l0]
      rw [if_neg (by omega)]
    | succ d ih =>
      intro i hi
      have h1 : (i : Int) < (l.length : Int) := by omega
      have h0 : (0 : Int) ≤ (i : Int) := by omega
      have hw := wrap_nat i l.length (by omega) (by omega)
      refine Ev.step (f := fun k => (laws_eqCell.f (rd_T86 l (i : Int)).f0 (rd_T86 l (i : Int)).f1 (rd_T86 l (i : Int)).f0 (rd_T86 l (i : Int)).f1).bind fun t => if t = true then laws_eqCellS.l0 k l l ((i + 1 : Nat) : Int) else some false) (fun k => ?_) (Ev.bind (laws_eqCell.ev (rd_T86 l (i : Int)).f0 (rd_T86 l (i : Int)).f1) (Ev.pos rfl (ih (i + 1) (by omega))))
      simp only [laws_eqCellS.l0, if_pos h1, if_pos h0, hw]
  unfold laws_eqCellS.f
  exact Ev.pos rfl (key l.length 0 (by omega))
theorem laws_eqReply.ev (x0 : Int) (x1 : Int) (x2 : List (S86)) (h2 : x2.length ≤ 9223372036854775807) : Ev (fun k => laws_eqReply.f k x0 x1 x2 x0 x1 x2) true := by
  unfold laws_eqReply.f
  repeat (first | exact Ev.now _ | refine Ev.pos rfl ?_ | (refine Ev.bind (laws_eqCellS.ev x2 h2) ?_; try dsimp only) | (refine Ev.bind (Ev.eq rfl) ?_; try dsimp only))
theorem laws_eqReplyS.ev (l : List (S81)) (hl' : (l.length ≤ 1048576 ∧ ∀ y ∈ l, ((y.f2.length ≤ 1048576)))) : Ev (fun k => laws_eqReplyS.f k l l) true := by
  have hl := hl'.1
  have key : ∀ (d i : Nat), i + d = l.length → Ev (fun k => laws_eqReplyS.l0 k l l (i : Int)) true := by
    intro d
    induction d with
    | zero =>
      intro i hi
      refine Ev.step (f := fun _ => some true) (fun k => ?_) (Ev.now _)
      simp only [laws_eqReplyS.l0]
      rw [if_neg (by omega)]
    | succ d ih =>
      intro i hi
      have h1 : (i : Int) < (l.length : Int) := by omega
      have h0 : (0 : Int) ≤ (i : Int) := by omega
      have hw := wrap_nat i l.length (by omega) (by omega)
      refine Ev.step (f := fun k => (laws_eqReply.f k (rd_T81 l (i : Int)).f0 (rd_T81 l (i : Int)).f1 (rd_T81 l (i : Int)).f2 (rd_T81 l (i : Int)).f0 (rd_T81 l (i : Int)).f1 (rd_T81 l (i : Int)).f2).bind fun t => if t = true then laws_eqReplyS.l0 k l l ((i + 1 : Nat) : Int) else some false) (fun k => ?_) (Ev.bind (laws_eqReply.ev (rd_T81 l (i : Int)).f0 (rd_T81 l (i : Int)).f1 (rd_T81 l (i : Int)).f2 (Nat.le_trans (hl'.2 _ (getD_mem_ _ _ _ (by omega))) (by decide))) (Ev.pos rfl (ih (i + 1) (by omega))))
      simp only [laws_eqReplyS.l0, if_pos h1, if_pos h0, hw]
  unfold laws_eqReplyS.f
  exact Ev.pos rfl (key l.length 0 (by omega))
/-! ### plain: replies -/
theorem l7Cells_ev (l m : List S86) (hl : l.length ≤ 9223372036854775807) : Ev (fun k => spec_l7Cells.f k l m) (cellsB l m) := by
  unfold spec_l7Cells.f
  by_cases h : l.length = m.length
  · refine Ev.pos (by omega) ?_
    have key : ∀ (d i : Nat), i + d = l.length → Ev (fun k => spec_l7Cells.l0 k l m (i : Int)) (cellsB (l.drop i) (m.drop i)) := by
      intro d
      induction d with
      | zero =>
        intro i hi
        rw [List.drop_eq_nil_of_le (by omega), List.drop_eq_nil_of_le (by omega)]
        refine Ev.step (f := fun _ => some true) (fun k => ?_) (Ev.now _)
        simp only [spec_l7Cells.l0]
        rw [if_neg (by omega)]
      | succ d ih =>
        intro i hi
        have h1 : (i : Int) < (l.length : Int) := by omega
        have h2 : (i : Int) < (m.length : Int) := by omega
        have h0 : (0 : Int) ≤ (i : Int) := by omega
        have hw := wrap_nat i l.length (by omega) hl
        have hx : rd_T86 l (i : Int) = l[i]'(by omega) := by show l.getD i _ = _; rw [List.getD_eq_getElem?_getD, List.getElem?_eq_getElem (by omega)]; rfl
        have hy : rd_T86 m (i : Int) = m[i]'(by omega) := by show m.getD i _ = _; rw [List.getD_eq_getElem?_getD, List.getElem?_eq_getElem (by omega)]; rfl
        have hE : cellsB (l.drop i) (m.drop i) = ((rd_T86 l (i : Int)).f0 == (rd_T86 m (i : Int)).f0 && (rd_T86 l (i : Int)).f1 == (rd_T86 m (i : Int)).f1 && cellsB (l.drop (i + 1)) (m.drop (i + 1))) := by
          rw [List.drop_eq_getElem_cons (show i < l.length by omega), List.drop_eq_getElem_cons (show i < m.length by omega), hx, hy]; rfl
        have hn := ih (i + 1) (by omega)
        rw [hE]
        clear hE hx hy
        generalize hX : rd_T86 l (i : Int) = x at *
        generalize hY : rd_T86 m (i : Int) = y at *
        cases hq : (x.f0 == y.f0 && x.f1 == y.f1) with
        | true =>
          refine Ev.step (fun k => ?_) (Ev.val hn (by rw [Bool.true_and]))
          have hq' : (!(x.f0 == y.f0) || !(x.f1 == y.f1)) = false := by rw [← Bool.not_and, hq]; rfl
          simp only [spec_l7Cells.l0, if_pos h1, if_pos h2, if_pos h0, hX, hY, hq', hw, Bool.false_eq_true, if_false]
        | false =>
          refine Ev.step (f := fun _ => some false) (fun k => ?_) (Ev.val (Ev.now _) (by rw [Bool.false_and]))
          have hq' : (!(x.f0 == y.f0) || !(x.f1 == y.f1)) = true := by rw [← Bool.not_and, hq]; rfl
          simp only [spec_l7Cells.l0, if_pos h1, if_pos h2, if_pos h0, hX, hY, hq', if_true]
    have := key l.length 0 (by omega)
    rwa [List.drop_zero, List.drop_zero] at this
  · exact Ev.neg (by omega) (Ev.val (Ev.now _) (eqfB_len _ l m h).symm)
theorem replies_ev (l m : List S81) (hl : l.length ≤ 1048576) (hb : ∀ y ∈ l, y.f2.length ≤ 1048576) : Ev (fun k => spec_SameReplies.f k l m) (eqfB replyB l m) := by
  unfold spec_SameReplies.f
  by_cases h : l.length = m.length
  · refine Ev.pos (by omega) ?_
    have key : ∀ (d i : Nat), i + d = l.length → Ev (fun k => spec_SameReplies.l0 k l m (i : Int)) (eqfB replyB (l.drop i) (m.drop i)) := by
      intro d
      induction d with
      | zero =>
        intro i hi
        rw [List.drop_eq_nil_of_le (by omega), List.drop_eq_nil_of_le (by omega)]
        refine Ev.step (f := fun _ => some true) (fun k => ?_) (Ev.now _)
        simp only [spec_SameReplies.l0]
        rw [if_neg (by omega)]
      | succ d ih =>
        intro i hi
        have h1 : (i : Int) < (l.length : Int) := by omega
        have h2 : (i : Int) < (m.length : Int) := by omega
        have h0 : (0 : Int) ≤ (i : Int) := by omega
        have hw := wrap_nat i l.length (by omega) (by omega)
        have hx : rd_T81 l (i : Int) = l[i]'(by omega) := by show l.getD i _ = _; rw [List.getD_eq_getElem?_getD, List.getElem?_eq_getElem (by omega)]; rfl
        have hy : rd_T81 m (i : Int) = m[i]'(by omega) := by show m.getD i _ = _; rw [List.getD_eq_getElem?_getD, List.getElem?_eq_getElem (by omega)]; rfl
        have hxb : (rd_T81 l (i : Int)).f2.length ≤ 1048576 := hb _ (by rw [hx]; exact List.getElem_mem _)
        have hE : eqfB replyB (l.drop i) (m.drop i) = (replyB (rd_T81 l (i : Int)) (rd_T81 m (i : Int)) && eqfB replyB (l.drop (i + 1)) (m.drop (i + 1))) := by
          rw [List.drop_eq_getElem_cons (show i < l.length by omega), List.drop_eq_getElem_cons (show i < m.length by omega), hx, hy]; rfl
        have hn := ih (i + 1) (by omega)
        rw [hE]
        clear hE hx hy
        generalize hX : rd_T81 l (i : Int) = x at *
        generalize hY : rd_T81 m (i : Int) = y at *
        rw [show replyB x y = (x.f0 == y.f0 && (x.f1 == y.f1 && cellsB x.f2 y.f2)) from rfl]
        by_cases c0 : x.f0 = y.f0
        · by_cases c1 : x.f1 = y.f1
          · refine Ev.step (f := fun k => (spec_l7Cells.f k x.f2 y.f2).bind fun t => if t = true then spec_SameReplies.l0 k l m ((i + 1 : Nat) : Int) else some false) (fun k => ?_) (Ev.bind (l7Cells_ev _ _ (by omega)) ?_)
            · simp only [spec_SameReplies.l0, if_pos h1, if_pos h2, if_pos h0, hX, hY, if_pos c0, if_pos c1, hw]
            · rw [beq_iff_eq.2 c0, beq_iff_eq.2 c1, Bool.true_and, Bool.true_and]
              cases cellsB x.f2 y.f2 with
              | true => exact Ev.pos rfl (Ev.val hn (by rw [Bool.true_and]))
              | false => exact Ev.neg (by decide) (Ev.val (Ev.now _) (by rw [Bool.false_and]))
          · refine Ev.step (f := fun _ => some false) (fun k => ?_) (Ev.val (Ev.now _) (by rw [beq_eq_false_iff_ne.2 c1, Bool.false_and, Bool.and_false, Bool.false_and]))
            simp only [spec_SameReplies.l0, if_pos h1, if_pos h2, if_pos h0, hX, hY, if_pos c0, if_neg c1]
        · refine Ev.step (f := fun _ => some false) (fun k => ?_) (Ev.val (Ev.now _) (by rw [beq_eq_false_iff_ne.2 c0, Bool.false_and, Bool.false_and]))
          simp only [spec_SameReplies.l0, if_pos h1, if_pos h2, if_pos h0, hX, hY, if_neg c0]
    have := key l.length 0 (by omega)
    rwa [List.drop_zero, List.drop_zero] at this
  · exact Ev.neg (by omega) (Ev.val (Ev.now _) (eqfB_len _ l m h).symm)

theorem bd_cv78 (x : S78) (h : ((x.f2.length ≤ 1048576))) : (((cv78 x).f2.length ≤ 1048576)) := (show (((x.f2.map cv103)).length ≤ 1048576) from (by rw [List.length_map]; exact h))
theorem FnExactSameReplies_of (l0 : List (S78)) (l1 : List (S78)) (h0 : (l0.length ≤ maxLen ∧ ∀ y ∈ l0, ok78 y)) (h1 : (l1.length ≤ maxLen ∧ ∀ y ∈ l1, ok78 y)) (r_0 : Bool) (hs : (l0.length ≤ 1048576 ∧ ∀ y ∈ l0, ((y.f2.length ≤ 1048576))) ∧ (l1.length ≤ 1048576 ∧ ∀ y ∈ l1, ((y.f2.length ≤ 1048576))) → Ev (fun k => spec_SameReplies.f k (l0.map cv78) (l1.map cv78)) r_0) (hi : (l0.length ≤ 1048576 ∧ ∀ y ∈ l0, ((y.f2.length ≤ 1048576))) ∧ (l1.length ≤ 1048576 ∧ ∀ y ∈ l1, ((y.f2.length ≤ 1048576))) → Ev (fun k => impl_SameReplies.f (l0.map cv78) (l1.map cv78)) r_0) : ∃ k, laws_FnExactSameReplies.f k l0 l1 = some true := by
  refine Ev.rounds ?_
  unfold laws_FnExactSameReplies.f
  obtain ⟨q0, e0, m0, b0⟩ := laws_szReplyS.ev l0 1048576 (by omega) (by omega) h0
  refine Ev.bind e0 ?_
  by_cases c0 : q0 < 0
  · exact Ev.pos c0 (Ev.now _)
  refine Ev.neg c0 ?_
  have d0 := b0 (by omega)
  obtain ⟨q1, e1, m1, b1⟩ := laws_szReplyS.ev l1 q0 (by omega) (by omega) h1
  refine Ev.bind e1 ?_
  by_cases c1 : q1 < 0
  · exact Ev.pos c1 (Ev.now _)
  refine Ev.neg c1 ?_
  have d1 := b1 (by omega)
  have hbd : (l0.length ≤ 1048576 ∧ ∀ y ∈ l0, ((y.f2.length ≤ 1048576))) ∧ (l1.length ≤ 1048576 ∧ ∀ y ∈ l1, ((y.f2.length ≤ 1048576))) := ⟨d0, d1⟩
  have fs := hs hbd
  have fi := hi hbd
  have t0 := laws_toReplyS.ev l0 d0
  have u0 : (l0.map cv78).length ≤ 1048576 := by have := d0; simp only [List.length_map]; exact this.1
  have v0 := laws_eqReplyS.ev (l0.map cv78) ⟨by rw [List.length_map]; exact d0.1, fun y_ hy_ => by obtain ⟨z_, hz_, rfl⟩ := List.mem_map.1 hy_; exact (bd_cv78 z_ (d0.2 z_ hz_))⟩
  have t1 := laws_toReplyS.ev l1 d1
  have u1 : (l1.map cv78).length ≤ 1048576 := by have := d1; simp only [List.length_map]; exact this.1
  have v1 := laws_eqReplyS.ev (l1.map cv78) ⟨by rw [List.length_map]; exact d1.1, fun y_ hy_ => by obtain ⟨z_, hz_, rfl⟩ := List.mem_map.1 hy_; exact (bd_cv78 z_ (d1.2 z_ hz_))⟩
  repeat (first | exact Ev.now _ | (with_reducible refine Ev.bind fs ?_) | (with_reducible refine Ev.bind fi ?_) | (with_reducible refine Ev.bind t0 ?_) | (with_reducible refine Ev.bind v0 ?_) | (with_reducible refine Ev.bind t1 ?_) | (with_reducible refine Ev.bind v1 ?_) | (with_reducible refine Ev.pos rfl ?_) | (refine Ev.neg (by omega) ?_) | (refine Ev.neg (by decide) ?_) | (refine Ev.neg (by simp; done) ?_))
end Go.Proofs.Ytifpmjnbkodgfaa.XFnExactSameReplies
