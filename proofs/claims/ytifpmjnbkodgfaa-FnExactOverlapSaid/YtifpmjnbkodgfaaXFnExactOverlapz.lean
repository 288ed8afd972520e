/- The law FnExactOverlap answers true at every input: its plain statement, its plain lemmas and its row; no condition. Written by a program of this session. -/
import Derived.Test.YtifpmjnbkodgfaaXFnExactOverlapy
import Derived.Test.YtifpmjnbkodgfaaXPure
namespace Go.Proofs.Ytifpmjnbkodgfaa.XFnExactOverlap
open Go.RowKit Go.Proofs.YtifpmjnbkodgfaaW.PrintWords Go.Proofs.YtifpmjnbkodgfaaW.PrintLast Go.Proofs.YtifpmjnbkodgfaaW.PrintMore
set_option linter.unusedVariables false
set_option linter.unusedSimpArgs false
theorem laws_szHopS.ev (l : List (S72)) (a : Int) (h0 : 0 ≤ a) (h1 : a ≤ 1048576) (hl : l.length ≤ maxLen) : ∃ r, laws_szHopS.f l a = some r ∧ r ≤ a ∧ (0 ≤ r → (l.length ≤ 1048576)) := by
  unfold maxLen at hl
  unfold laws_szHopS.f
  rw [wrap_in (a - (l.length : Int)) (by omega) (by omega)]
  by_cases h : a - (l.length : Int) < 0
  · rw [if_pos h]; exact ⟨-1, rfl, by omega, fun hh => absurd hh (by omega)⟩
  · rw [if_neg h]; exact ⟨_, rfl, by omega, fun _ => by omega⟩
def cv72 (x : S72) : S67 := ⟨x.f0, x.f1, x.f2, x.f3⟩
theorem laws_toHop.ev (x : S72) : Ev (fun k => laws_toHop.f x.f0 x.f1 x.f2 x.f3) ((cv72 x).f0, (cv72 x).f1, (cv72 x).f2, (cv72 x).f3) := Ev.eq rfl
theorem laws_toHopS.ev (l : List (S72)) (h : (l.length ≤ 1048576)) : Ev (fun k => laws_toHopS.f k l) (l.map cv72) := by
  have hl : l.length ≤ 1048576 := h
  have key : ∀ (d i : Nat) (acc : List (S67)), i + d = l.length → acc.length = l.length → (∀ j, j < i → acc[j]? = ((l.map cv72))[j]?) → Ev (fun k => laws_toHopS.l0 k l acc (i : Int)) (l.map cv72) := by
    intro d
    induction d with
    | zero =>
      intro i acc hi ha hj
      refine Ev.step (f := fun _ => some acc) (fun k => ?_) (Ev.val (Ev.now acc) (ext_upto (by simp [ha]) (fun j hjl => hj j (by omega))))
      simp only [laws_toHopS.l0]
      rw [if_neg (by omega)]
    | succ d ih =>
      intro i acc hi ha hj
      have h1 : (i : Int) < (l.length : Int) := by omega
      have h2 : (i : Int) < (acc.length : Int) := by omega
      have h0 : (0 : Int) ≤ (i : Int) := by omega
      have hw := wrap_nat i l.length (by omega) (by omega)
      have hs := ih (i + 1) (acc.set i (cv72 (rd_T72 l (i : Int)))) (by omega) (by simp [ha]) (fun j hjl => ?_)
      · refine Ev.step (f := fun k => (laws_toHop.f (rd_T72 l (i : Int)).f0 (rd_T72 l (i : Int)).f1 (rd_T72 l (i : Int)).f2 (rd_T72 l (i : Int)).f3).bind fun t => laws_toHopS.l0 k l (acc.set i (⟨t.1, t.2.1, t.2.2.1, t.2.2.2⟩ : S67)) ((i + 1 : Nat) : Int)) (fun k => ?_) (Ev.bind (laws_toHop.ev (rd_T72 l (i : Int))) hs)
        simp only [laws_toHopS.l0, if_pos h1, if_pos h0, if_pos h2, hw, Int.toNat_natCast]
      · rcases Nat.lt_or_ge j i with hlt | hge
        · rw [List.getElem?_set_ne (by omega)]; exact hj j hlt
        · obtain rfl : j = i := by omega
          rw [List.getElem?_set_self (by omega)]
          exact (get_map l _ j z72 (by omega)).symm
  unfold laws_toHopS.f
  refine Ev.pos (by omega) (Ev.pos (by omega) ?_)
  refine key l.length 0 _ (by omega) (by simp) (fun j hj => absurd hj (by omega))
theorem laws_eqHop.ev (x0 : Int) (x1 : Int) (x2 : Int) (x3 : Int) : Ev (fun k => laws_eqHop.f x0 x1 x2 x3 x0 x1 x2 x3) true := by
  unfold laws_eqHop.f
  repeat (first | exact Ev.now _ | refine Ev.pos rfl ?_ | (refine Ev.bind (Ev.eq rfl) ?_; try dsimp only))
theorem laws_eqHopS.ev (l : List (S67)) (hl : l.length ≤ 9223372036854775807) : Ev (fun k => laws_eqHopS.f k l l) true := by
  have key : ∀ (d i : Nat), i + d = l.length → Ev (fun k => laws_eqHopS.l0 k l l (i : Int)) true := by
    intro d
    induction d with
    | zero =>
      intro i hi
      refine Ev.step (f := fun _ => some true) (fun k => ?_) (Ev.now _)
      simp only [laws_eqHopS.l0]
      rw [if_neg (by omega)]
    | succ d ih =>
      intro i hi
      have h1 : (i : Int) < (l.length : Int) := by omega
      have h0 : (0 : Int) ≤ (i : Int) := by omega
      have hw := wrap_nat i l.length (by omega) (by omega)
      refine Ev.step (f := fun k => (laws_eqHop.f (rd_T67 l (i : Int)).f0 (rd_T67 l (i : Int)).f1 (rd_T67 l (i : Int)).f2 (rd_T67 l (i : Int)).f3 (rd_T67 l (i : Int)).f0 (rd_T67 l (i : Int)).f1 (rd_T67 l (i : Int)).f2 (rd_T67 l (i : Int)).f3).bind fun t => if t = true then laws_eqHopS.l0 k l l ((i + 1 : Nat) : Int) else some false) (fun k => ?_) (Ev.bind (laws_eqHop.ev (rd_T67 l (i : Int)).f0 (rd_T67 l (i : Int)).f1 (rd_T67 l (i : Int)).f2 (rd_T67 l (i : Int)).f3) (Ev.pos rfl (ih (i + 1) (by omega))))
      simp only [laws_eqHopS.l0, if_pos h1, if_pos h0, hw]
  unfold laws_eqHopS.f
  exact Ev.pos rfl (key l.length 0 (by omega))
/-! ### plain: place -/
theorem l10Place_ev (l : List S67) (kind txn : Int) (hl : l.length ≤ 9223372036854775807) : Ev (fun k => spec_l10Place.f k l kind txn) (idxP (impl_has.p txn [kind]) l) := by
  have key : ∀ (d i : Nat), i + d = l.length → Ev (fun k => spec_l10Place.l0 k l kind txn (i : Int)) (if idxP (impl_has.p txn [kind]) (l.drop i) < 0 then -1 else idxP (impl_has.p txn [kind]) (l.drop i) + i) := by
    intro d
    induction d with
    | zero =>
      intro i hi
      rw [List.drop_eq_nil_of_le (by omega)]
      refine Ev.step (f := fun _ => some (-1)) (fun k => ?_) (Ev.val (Ev.now _) (by simp [idxP]))
      simp only [spec_l10Place.l0]
      rw [if_neg (by omega)]
    | succ d ih =>
      intro i hi
      have h1 : (i : Int) < (l.length : Int) := by omega
      have h0 : (0 : Int) ≤ (i : Int) := by omega
      have hw := wrap_nat i l.length (by omega) (by omega)
      have hx : rd_T67 l (i : Int) = l[i]'(by omega) := by
        show l.getD i _ = _
        rw [List.getD_eq_getElem?_getD, List.getElem?_eq_getElem (by omega)]; rfl
      have hn := ih (i + 1) (by omega)
      rw [List.drop_eq_getElem_cons (by omega), ← hx]
      generalize hX : rd_T67 l (i : Int) = x at *
      have hp : impl_has.p txn [kind] x = (x.f1 == txn && x.f0 == kind) := by unfold impl_has.p; simp only [List.contains_cons, List.contains_nil, Bool.or_false]
      rw [idxP_shift, hp]
      by_cases k1 : x.f0 = kind
      · by_cases k2 : x.f1 = txn
        · refine Ev.step (f := fun _ => some (i : Int)) (fun k => ?_) (Ev.val (Ev.now _) ?_)
          · simp only [spec_l10Place.l0, if_pos h1, if_pos h0, hX, if_pos k1, if_pos k2]
          · rw [if_pos (show (x.f1 == txn && x.f0 == kind) = true from by simp [k1, k2])]
        · refine Ev.step (fun k => ?_) (Ev.val hn ?_)
          · simp only [spec_l10Place.l0, if_pos h1, if_pos h0, hX, if_pos k1, if_neg k2, hw]
          · rw [if_neg (show ¬ ((x.f1 == txn && x.f0 == kind) = true) from by simp [k2]), show ((i + 1 : Nat) : Int) = (i : Int) + 1 from by omega]
      · refine Ev.step (fun k => ?_) (Ev.val hn ?_)
        · simp only [spec_l10Place.l0, if_pos h1, if_pos h0, hX, if_neg k1, hw]
        · rw [if_neg (show ¬ ((x.f1 == txn && x.f0 == kind) = true) from by simp [k1]), show ((i + 1 : Nat) : Int) = (i : Int) + 1 from by omega]
  unfold spec_l10Place.f
  refine Ev.val (key l.length 0 (by omega)) ?_
  have hg := (idxP_ge (impl_has.p txn [kind]) l).1
  rw [List.drop_zero]
  split
  · omega
  · simp

/-! ### plain: overlap -/
def ovB (l : List S67) (a b : Int) : Bool := if a = b then false else if idxP (impl_has.p a [4]) l ≥ 0 then (if idxP (impl_has.p b [4]) l ≥ 0 then (if idxP (impl_has.p a [1]) l < idxP (impl_has.p b [4]) l then decide (idxP (impl_has.p b [1]) l < idxP (impl_has.p a [4]) l) else false) else false) else false
theorem l10Overlap_ev (l : List S67) (a b : Int) (hl : l.length ≤ 9223372036854775807) : Ev (fun k => spec_l10Overlap.f k l a b) (ovB l a b) := by
  unfold spec_l10Overlap.f ovB
  refine Ev.bind (l10Place_ev l 4 a hl) (Ev.bind (l10Place_ev l 4 b hl) ?_)
  by_cases h1 : a = b
  · rw [if_pos h1]; exact Ev.pos h1 (Ev.now _)
  · rw [if_neg h1]; refine Ev.neg h1 ?_
    by_cases h2 : idxP (impl_has.p a [4]) l ≥ 0
    · rw [if_pos h2]; refine Ev.pos h2 ?_
      by_cases h3 : idxP (impl_has.p b [4]) l ≥ 0
      · rw [if_pos h3]; refine Ev.pos h3 (Ev.bind (l10Place_ev l 1 a hl) ?_)
        by_cases h4 : idxP (impl_has.p a [1]) l < idxP (impl_has.p b [4]) l
        · rw [if_pos h4]; exact Ev.pos h4 (Ev.bind (l10Place_ev l 1 b hl) (Ev.now _))
        · rw [if_neg h4]; exact Ev.neg h4 (Ev.now _)
      · rw [if_neg h3]; exact Ev.neg h3 (Ev.now _)
    · rw [if_neg h2]; exact Ev.neg h2 (Ev.now _)
theorem overlap_eq (l : List S67) (a b : Int) : impl_overlap.f l a b = some (ovB l a b) := by
  unfold impl_overlap.f ovB impl_has.f
  simp only [Option.bind_some]
  by_cases h1 : a = b
  · rw [if_pos h1, if_pos h1]
  · rw [if_neg h1, if_neg h1]
    by_cases h2 : idxP (impl_has.p a [4]) l ≥ 0
    · rw [if_pos h2, if_pos h2]
      by_cases h3 : idxP (impl_has.p b [4]) l ≥ 0
      · rw [if_pos h3, if_pos h3]
        by_cases h4 : idxP (impl_has.p a [1]) l < idxP (impl_has.p b [4]) l
        · rw [if_pos h4, if_pos h4]
        · rw [if_neg h4, if_neg h4]
      · rw [if_neg h3, if_neg h3]
    · rw [if_neg h2, if_neg h2]

/-! ### plain: hist -/
theorem l1In_eq (a b c : Int) : spec_l1In.f a b c = some (withinB a b c) := by
  unfold spec_l1In.f withinB
  by_cases h : b ≤ a
  · rw [if_pos h]; simp [h]
  · rw [if_neg h]; simp [h]
theorem l1Key_eq (a : Int) : spec_l1Key.f a = some (withinB a 0 31) := by
  unfold spec_l1Key.f; rw [l1In_eq]; rfl
def stStep (a : Int) (s : Int) (x : S67) : Int := if x.f1 = a then (if x.f0 = 4 then 2 else if x.f0 = 5 then 2 else if x.f0 = 1 then 1 else s) else s
def stOf (l : List S67) (a : Int) : Int := l.foldl (stStep a) 0
theorem stOf_snoc (l : List S67) (x : S67) (a : Int) : stOf (l ++ [x]) a = stStep a (stOf l a) x := by
  unfold stOf; rw [List.foldl_append]; rfl
theorem l10State_ev (l : List S67) (a : Int) (hl : l.length ≤ 9223372036854775807) : Ev (fun k => spec_l10State.f k l a) (stOf l a) := by
  have key : ∀ (d i : Nat) (s : Int), i + d = l.length → Ev (fun k => spec_l10State.l0 k l a s (i : Int)) ((l.drop i).foldl (stStep a) s) := by
    intro d
    induction d with
    | zero =>
      intro i s hi
      rw [List.drop_eq_nil_of_le (by omega)]
      refine Ev.step (f := fun _ => some s) (fun k => ?_) (Ev.now _)
      simp only [spec_l10State.l0]
      rw [if_neg (by omega)]
    | succ d ih =>
      intro i s hi
      have h1 : (i : Int) < (l.length : Int) := by omega
      have h0 : (0 : Int) ≤ (i : Int) := by omega
      have hw := wrap_nat i l.length (by omega) (by omega)
      have hx : rd_T67 l (i : Int) = l[i]'(by omega) := by
        show l.getD i _ = _
        rw [List.getD_eq_getElem?_getD, List.getElem?_eq_getElem (by omega)]; rfl
      rw [List.drop_eq_getElem_cons (by omega), List.foldl_cons, ← hx]
      generalize hX : rd_T67 l (i : Int) = x at *
      refine Ev.step (f := fun k => spec_l10State.l0 k l a (stStep a s x) ((i + 1 : Nat) : Int)) (fun k => ?_) (ih (i + 1) _ (by omega))
      simp only [spec_l10State.l0, if_pos h1, if_pos h0, hX, hw]
      unfold stStep
      by_cases e1 : x.f1 = a
      · simp only [if_pos e1]
        by_cases k1 : x.f0 = 1
        · simp [k1]
        · by_cases k4 : x.f0 = 4
          · simp [k4]
          · by_cases k5 : x.f0 = 5
            · simp [k5]
            · simp [k1, k4, k5]
      · simp only [if_neg e1]
  unfold spec_l10State.f stOf
  exact key l.length 0 0 (by omega)
def hopCodeS (pre : List S67) (x : S67) : Int :=
  if (!withinB x.f0 1 5 || !withinB x.f1 2 999 || !withinB x.f2 0 31 || !withinB x.f3 0 999) = true then 3
  else if ((!(x.f0 == 2 || x.f0 == 3) && x.f2 != 0) || (x.f0 != 2 && x.f3 != 0)) = true then 1
  else if x.f0 = 1 then (if stOf pre x.f1 = 0 then 0 else 10) else (if stOf pre x.f1 = 1 then 0 else 10)
def histGoS : List S67 → List S67 → Int
  | _, [] => 0
  | pre, x :: xs => if hopCodeS pre x = 0 then histGoS (pre ++ [x]) xs else hopCodeS pre x
theorem specHist_ev (l : List S67) (hl : l.length ≤ 9223372036854775807) : Ev (fun k => spec_HistoryFault.f k l) (if 400 < l.length then 2 else histGoS [] l) := by
  have key : ∀ (d i : Nat), i + d = l.length → Ev (fun k => spec_HistoryFault.l0 k l (i : Int)) (histGoS (l.take i) (l.drop i)) := by
    intro d
    induction d with
    | zero =>
      intro i hi
      rw [List.drop_eq_nil_of_le (by omega)]
      refine Ev.step (f := fun _ => some 0) (fun k => ?_) (Ev.now _)
      simp only [spec_HistoryFault.l0]
      rw [if_neg (by omega)]
    | succ d ih =>
      intro i hi
      have h1 : (i : Int) < (l.length : Int) := by omega
      have h0 : (0 : Int) ≤ (i : Int) := by omega
      have h3 : (i : Int) ≤ (l.length : Int) := by omega
      have hw := wrap_nat i l.length (by omega) (by omega)
      have hx : rd_T67 l (i : Int) = l[i]'(by omega) := by
        show l.getD i _ = _
        rw [List.getD_eq_getElem?_getD, List.getElem?_eq_getElem (by omega)]; rfl
      have hn := ih (i + 1) (by omega)
      have hst := fun a => l10State_ev (l.take i) a (by rw [List.length_take]; omega)
      rw [List.drop_eq_getElem_cons (by omega)]
      rw [List.take_succ_eq_append_getElem (by omega)] at hn
      rw [← hx] at hn ⊢
      have hj2 : ∀ b (y : S67), Ev (fun k => spec_HistoryFault.j2 k l (i : Int) b y.f0 y.f1 y.f2 y.f3) (if b = true then 1 else if (if y.f0 = 1 then (if stOf (l.take i) y.f1 = 0 then 0 else 10) else (if stOf (l.take i) y.f1 = 1 then 0 else 10) : Int) = 0 then histGoS (l.take i ++ [rd_T67 l (i : Int)]) (l.drop (i + 1)) else 10) := by
        intro b y
        cases b with
        | true => exact Ev.step (f := fun _ => some 1) (fun k => by simp only [spec_HistoryFault.j2, if_true]) (Ev.now _)
        | false =>
          refine Ev.step (f := fun k => (spec_l10State.f k (l.take i) y.f1).bind fun t => if y.f0 = 1 then (if t = 0 then spec_HistoryFault.l0 k l ((i + 1 : Nat) : Int) else some 10) else (if t = 1 then spec_HistoryFault.l0 k l ((i + 1 : Nat) : Int) else some 10)) (fun k => ?_) (Ev.bind (hst _) ?_)
          · simp only [spec_HistoryFault.j2, if_pos h0, if_pos h3, hw, Int.toNat_natCast, Bool.false_eq_true, if_false]
          · simp only [Bool.false_eq_true, if_false]
            by_cases k1 : y.f0 = 1
            · by_cases s0 : stOf (l.take i) y.f1 = 0
              · simp only [k1, s0, if_true]; exact hn
              · simp only [k1, s0, if_true, if_false]; exact Ev.now _
            · by_cases s0 : stOf (l.take i) y.f1 = 1
              · simp only [k1, s0, if_true, if_false]; exact hn
              · simp only [k1, s0, if_false]; exact Ev.now _
      have hj1 : ∀ b (y : S67), Ev (fun k => spec_HistoryFault.j1 k l (i : Int) b y.f0 y.f1 y.f2 y.f3) (if b = true then 3 else if ((!(y.f0 == 2 || y.f0 == 3) && y.f2 != 0) || (y.f0 != 2 && y.f3 != 0)) = true then 1 else if (if y.f0 = 1 then (if stOf (l.take i) y.f1 = 0 then 0 else 10) else (if stOf (l.take i) y.f1 = 1 then 0 else 10) : Int) = 0 then histGoS (l.take i ++ [rd_T67 l (i : Int)]) (l.drop (i + 1)) else 10) := by
        intro b y
        cases b with
        | true => exact Ev.step (f := fun _ => some 3) (fun k => by simp only [spec_HistoryFault.j1, if_true]) (Ev.now _)
        | false =>
          refine Ev.val (Ev.step (fun k => ?_) (hj2 ((!(y.f0 == 2 || y.f0 == 3) && y.f2 != 0) || (y.f0 != 2 && y.f3 != 0)) y)) (by simp only [Bool.false_eq_true, if_false])
          simp only [spec_HistoryFault.j1, Bool.false_eq_true, if_false]
          by_cases k2 : y.f0 = 2
          · simp [k2]
          · have b2 : (y.f0 == 2) = false := beq_eq_false_iff_ne.2 k2
            have b2' : (y.f0 != 2) = true := bne_iff_ne.2 k2
            by_cases k3 : y.f3 = 0
            · have b3 : (y.f3 != 0) = false := bne_eq_false_iff_eq.2 k3
              by_cases kk : y.f0 = 3
              · have b4 : (y.f0 == 3) = true := beq_iff_eq.2 kk
                simp only [if_neg k2, if_pos k3, if_pos kk, b2, b2', b3, b4]; rfl
              · have b4 : (y.f0 == 3) = false := beq_eq_false_iff_ne.2 kk
                simp only [if_neg k2, if_pos k3, if_neg kk, b2, b2', b3, b4, Bool.or_false, Bool.not_false, Bool.true_and, Bool.and_false]
            · have b3 : (y.f3 != 0) = true := bne_iff_ne.2 k3
              simp only [if_neg k2, if_neg k3, b2', b3, Bool.and_true, Bool.or_true]
      generalize hX : rd_T67 l (i : Int) = x at *
      refine Ev.val (Ev.step (fun k => ?_) (hj1 (!withinB x.f0 1 5 || !withinB x.f1 2 999 || !withinB x.f2 0 31 || !withinB x.f3 0 999) x)) ?_
      · simp only [spec_HistoryFault.l0, if_pos h1, if_pos h0, hX, l1In_eq, l1Key_eq, Option.bind_some]
        cases withinB x.f0 1 5 with
        | false => rfl
        | true =>
          cases withinB x.f1 2 999 with
          | false => rfl
          | true => cases withinB x.f2 0 31 <;> rfl
      · simp only [histGoS, hopCodeS]
        by_cases c1 : (!withinB x.f0 1 5 || !withinB x.f1 2 999 || !withinB x.f2 0 31 || !withinB x.f3 0 999) = true
        · simp only [if_pos c1]; rfl
        · by_cases c2 : ((!(x.f0 == 2 || x.f0 == 3) && x.f2 != 0) || (x.f0 != 2 && x.f3 != 0)) = true
          · simp only [if_neg c1, if_pos c2]; rfl
          · simp only [if_neg c1, if_neg c2]
            by_cases k1 : x.f0 = 1
            · by_cases s0 : stOf (l.take i) x.f1 = 0 <;> simp [k1, s0]
            · by_cases s0 : stOf (l.take i) x.f1 = 1 <;> simp [k1, s0]
  unfold spec_HistoryFault.f
  by_cases hb : 400 < l.length
  · rw [if_pos hb]; exact Ev.pos (by omega) (Ev.now _)
  · rw [if_neg hb]; exact Ev.neg (by omega) (by simpa using key l.length 0 (by omega))
/-- What is known of the hops ahead: who ended has done so for good. -/
def HistInv (pre : List S67) : Prop := ∀ t, pre.any (impl_has.p t [4, 5]) = true → stOf pre t = 2
theorem st_zero (pre : List S67) (t : Int) : stOf pre t = 0 ↔ pre.any (impl_has.p t [1]) = false ∧ pre.any (impl_has.p t [4, 5]) = false := by
  have h : ∀ (l : List S67) (s : Int), 0 ≤ s → (0 ≤ l.foldl (stStep t) s ∧ (l.foldl (stStep t) s = 0 ↔ s = 0 ∧ l.any (impl_has.p t [1]) = false ∧ l.any (impl_has.p t [4, 5]) = false)) := by
    intro l
    induction l with
    | nil => intro s hs; simp [hs]
    | cons x xs ih =>
      intro s hs
      have hs2 : 0 ≤ stStep t s x := by unfold stStep; repeat (first | omega | split)
      obtain ⟨i1, i2⟩ := ih (stStep t s x) hs2
      refine ⟨by simpa using i1, ?_⟩
      simp only [List.foldl_cons, List.any_cons]
      rw [i2]
      have hp1 : impl_has.p t [1] x = (x.f1 == t && x.f0 == 1) := by unfold impl_has.p; simp only [List.contains_cons, List.contains_nil, Bool.or_false]
      have hp2 : impl_has.p t [4, 5] x = (x.f1 == t && (x.f0 == 4 || x.f0 == 5)) := by unfold impl_has.p; simp only [List.contains_cons, List.contains_nil, Bool.or_false]
      rw [hp1, hp2]
      unfold stStep
      by_cases e1 : x.f1 = t
      · by_cases k4 : x.f0 = 4
        · simp [e1, k4]
        · by_cases k5 : x.f0 = 5
          · simp [e1, k5]
          · by_cases k1 : x.f0 = 1
            · simp [e1, k1]
            · simp [e1, k1, k4, k5]
      · simp [e1]
  simpa [stOf] using (h pre 0 (by omega)).2
theorem st_two (pre : List S67) (t : Int) : stOf pre t = 2 → pre.any (impl_has.p t [4, 5]) = true := by
  have h : ∀ (l : List S67) (s : Int), l.foldl (stStep t) s = 2 → s = 2 ∨ l.any (impl_has.p t [4, 5]) = true := by
    intro l
    induction l with
    | nil => intro s hs; exact .inl (by simpa using hs)
    | cons x xs ih =>
      intro s hs
      simp only [List.foldl_cons] at hs
      rcases ih _ hs with h1 | h1
      · unfold stStep at h1
        by_cases e1 : x.f1 = t
        · by_cases k4 : x.f0 = 4
          · right; simp [impl_has.p, e1, k4]
          · by_cases k5 : x.f0 = 5
            · right; simp [impl_has.p, e1, k5]
            · by_cases k1 : x.f0 = 1
              · simp [e1, k1] at h1
              · left; simpa [e1, k1, k4, k5] using h1
        · left; simpa [e1] using h1
      · right; simp [h1]
  intro h2
  rcases h pre 0 h2 with h3 | h3
  · omega
  · exact h3
theorem st_cases (pre : List S67) (t : Int) : stOf pre t = 0 ∨ stOf pre t = 1 ∨ stOf pre t = 2 := by
  have h : ∀ (l : List S67) (s : Int), (s = 0 ∨ s = 1 ∨ s = 2) → (l.foldl (stStep t) s = 0 ∨ l.foldl (stStep t) s = 1 ∨ l.foldl (stStep t) s = 2) := by
    intro l
    induction l with
    | nil => intro s hs; simpa using hs
    | cons x xs ih =>
      intro s hs
      refine ih _ ?_
      unfold stStep
      repeat (first | omega | split)
  exact h pre 0 (.inl rfl)
theorem hopCode_eq (pre : List S67) (x : S67) (hi : HistInv pre) : hopCode pre x = hopCodeS pre x := by
  unfold hopCode hopCodeS
  rw [idxP_any, idxP_any]
  by_cases c1 : (!withinB x.f0 1 5 || !withinB x.f1 2 999 || !withinB x.f2 0 31 || !withinB x.f3 0 999) = true
  · simp only [if_pos c1]
  · by_cases c2 : ((!(x.f0 == 2 || x.f0 == 3) && x.f2 != 0) || (x.f0 != 2 && x.f3 != 0)) = true
    · simp only [if_neg c1, if_pos c2]
    · simp only [if_neg c1, if_neg c2]
      have z := st_zero pre x.f1
      have t2 := st_two pre x.f1
      have i2 := hi x.f1
      have c3 := st_cases pre x.f1
      generalize stOf pre x.f1 = s at *
      generalize pre.any (impl_has.p x.f1 [1]) = b1 at *
      generalize pre.any (impl_has.p x.f1 [4, 5]) = b2 at *
      by_cases k1 : x.f0 = 1
      · cases b1 <;> cases b2 <;> simp_all
      · cases b1 <;> cases b2 <;> simp_all
theorem histInv_step (pre : List S67) (x : S67) (hi : HistInv pre) (h : hopCode pre x = 0) : HistInv (pre ++ [x]) := by
  intro t ht
  rw [stOf_snoc]
  rw [List.any_append] at ht
  simp only [List.any_cons, List.any_nil, Bool.or_false, Bool.or_eq_true] at ht
  rcases ht with ht | ht
  · have := hi t ht
    unfold stStep
    rw [this]
    by_cases e1 : x.f1 = t
    · exfalso
      subst e1
      unfold hopCode at h
      rw [idxP_any, idxP_any, ht] at h
      simp only [Bool.or_true, if_true] at h
      split at h
      · omega
      · split at h <;> omega
    · simp [e1]
  · have hp2 : impl_has.p t [4, 5] x = (x.f1 == t && (x.f0 == 4 || x.f0 == 5)) := by unfold impl_has.p; simp only [List.contains_cons, List.contains_nil, Bool.or_false]
    rw [hp2] at ht
    unfold stStep
    simp only [Bool.and_eq_true, beq_iff_eq, Bool.or_eq_true] at ht
    obtain ⟨e1, k | k⟩ := ht <;> simp [e1, k]
theorem histGo_eq : ∀ (l pre : List S67), HistInv pre → histGo pre l = histGoS pre l
  | [], pre, _ => rfl
  | x :: xs, pre, hi => by
    unfold histGo histGoS
    rw [← hopCode_eq pre x hi]
    by_cases h : hopCode pre x = 0
    · rw [if_pos h, if_pos h]; exact histGo_eq xs _ (histInv_step pre x hi h)
    · rw [if_neg h, if_neg h]
def histCode (l : List S67) : Int := if 400 < l.length then 2 else histGo [] l
theorem specHist (l : List S67) (hl : l.length ≤ 9223372036854775807) : Ev (fun k => spec_HistoryFault.f k l) (histCode l) := by
  have h := specHist_ev l hl
  rw [← histGo_eq l [] (fun t ht => by simp at ht)] at h
  exact h
theorem implHist (l : List S67) : impl_HistoryFault.f l = some (histCode l) := rfl

theorem FnExactOverlap_of (l0 : List (S72)) (a1 : Int) (a2 : Int) (h0 : (l0.length ≤ maxLen ∧ ∀ y ∈ l0, ok72 y)) (h1 : (Lit.int .i64 a1).wf = true) (h2 : (Lit.int .i64 a2).wf = true) (r_0 : Bool) (hs : (l0.length ≤ 1048576) → Ev (fun k => spec_Overlap.f k (l0.map cv72) a1 a2) r_0) (hi : (l0.length ≤ 1048576) → Ev (fun k => impl_Overlap.f (l0.map cv72) a1 a2) r_0) : ∃ k, laws_FnExactOverlap.f k l0 a1 a2 = some true := by
  refine Ev.rounds ?_
  unfold laws_FnExactOverlap.f
  obtain ⟨q0, e0, m0, b0⟩ := laws_szHopS.ev l0 1048576 (by omega) (by omega) h0.1
  refine Ev.bind (Ev.eq e0) ?_
  by_cases c0 : q0 < 0
  · exact Ev.pos c0 (Ev.now _)
  refine Ev.neg c0 ?_
  have d0 := b0 (by omega)
  have hbd : (l0.length ≤ 1048576) := d0
  have fs := hs hbd
  have fi := hi hbd
  have t0 := laws_toHopS.ev l0 d0
  have u0 : (l0.map cv72).length ≤ 1048576 := by have := d0; simp only [List.length_map]; exact this
  have v0 := laws_eqHopS.ev (l0.map cv72) (by omega)
  repeat (first | exact Ev.now _ | (with_reducible refine Ev.bind fs ?_) | (with_reducible refine Ev.bind fi ?_) | (with_reducible refine Ev.bind t0 ?_) | (with_reducible refine Ev.bind v0 ?_) | (with_reducible refine Ev.pos rfl ?_) | (refine Ev.neg (by omega) ?_) | (refine Ev.neg (by decide) ?_) | (refine Ev.neg (by simp; done) ?_))
end Go.Proofs.Ytifpmjnbkodgfaa.XFnExactOverlap
