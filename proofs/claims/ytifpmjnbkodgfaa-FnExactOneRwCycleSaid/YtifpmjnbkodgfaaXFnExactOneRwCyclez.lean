/- The law FnExactOneRwCycle answers true at every input: its plain statement, its plain lemmas and its row; no condition. Written by a program of this session. -/
import Derived.Test.YtifpmjnbkodgfaaXFnExactOneRwCycley
import Derived.Test.YtifpmjnbkodgfaaXPure
namespace Go.Proofs.Ytifpmjnbkodgfaa.XFnExactOneRwCycle
open Go.RowKit Go.Proofs.YtifpmjnbkodgfaaW.PrintWords Go.Proofs.YtifpmjnbkodgfaaW.PrintLast Go.Proofs.YtifpmjnbkodgfaaW.PrintMore
set_option linter.unusedVariables false
set_option linter.unusedSimpArgs false
theorem laws_szEdgeS.ev (l : List (S60)) (a : Int) (h0 : 0 ≤ a) (h1 : a ≤ 1048576) (hl : l.length ≤ maxLen) : ∃ r, laws_szEdgeS.f l a = some r ∧ r ≤ a ∧ (0 ≤ r → (l.length ≤ 1048576)) := by
  unfold maxLen at hl
  unfold laws_szEdgeS.f
  rw [wrap_in (a - (l.length : Int)) (by omega) (by omega)]
  by_cases h : a - (l.length : Int) < 0
  · rw [if_pos h]; exact ⟨-1, rfl, by omega, fun hh => absurd hh (by omega)⟩
  · rw [if_neg h]; exact ⟨_, rfl, by omega, fun _ => by omega⟩
def cv60 (x : S60) : S58 := ⟨x.f0, x.f1, x.f2⟩
theorem laws_toEdge.ev (x : S60) : Ev (fun k => laws_toEdge.f x.f0 x.f1 x.f2) ((cv60 x).f0, (cv60 x).f1, (cv60 x).f2) := Ev.eq rfl
theorem laws_toEdgeS.ev (l : List (S60)) (h : (l.length ≤ 1048576)) : Ev (fun k => laws_toEdgeS.f k l) (l.map cv60) := by
  have hl : l.length ≤ 1048576 := h
  have key : ∀ (d i : Nat) (acc : List (S58)), i + d = l.length → acc.length = l.length → (∀ j, j < i → acc[j]? = ((l.map cv60))[j]?) → Ev (fun k => laws_toEdgeS.l0 k l acc (i : Int)) (l.map cv60) := by
    intro d
    induction d with
    | zero =>
      intro i acc hi ha hj
      refine Ev.step (f := fun _ => some acc) (fun k => ?_) (Ev.val (Ev.now acc) (ext_upto (by simp [ha]) (fun j hjl => hj j (by omega))))
      simp only [laws_toEdgeS.l0]
      rw [if_neg (by omega)]
    | succ d ih =>
      intro i acc hi ha hj
      have h1 : (i : Int) < (l.length : Int) := by omega
      have h2 : (i : Int) < (acc.length : Int) := by omega
      have h0 : (0 : Int) ≤ (i : Int) := by omega
      have hw := wrap_nat i l.length (by omega) (by omega)
      have hs := ih (i + 1) (acc.set i (cv60 (rd_T60 l (i : Int)))) (by omega) (by simp [ha]) (fun j hjl => ?_)
      · refine Ev.step (f := fun k => (laws_toEdge.f (rd_T60 l (i : Int)).f0 (rd_T60 l (i : Int)).f1 (rd_T60 l (i : Int)).f2).bind fun t => laws_toEdgeS.l0 k l (acc.set i (⟨t.1, t.2.1, t.2.2⟩ : S58)) ((i + 1 : Nat) : Int)) (fun k => ?_) (Ev.bind (laws_toEdge.ev (rd_T60 l (i : Int))) hs)
        simp only [laws_toEdgeS.l0, if_pos h1, if_pos h0, if_pos h2, hw, Int.toNat_natCast]
      · rcases Nat.lt_or_ge j i with hlt | hge
        · rw [List.getElem?_set_ne (by omega)]; exact hj j hlt
        · obtain rfl : j = i := by omega
          rw [List.getElem?_set_self (by omega)]
          exact (get_map l _ j z60 (by omega)).symm
  unfold laws_toEdgeS.f
  refine Ev.pos (by omega) (Ev.pos (by omega) ?_)
  refine key l.length 0 _ (by omega) (by simp) (fun j hj => absurd hj (by omega))
theorem laws_eqEdge.ev (x0 : Int) (x1 : Int) (x2 : Int) : Ev (fun k => laws_eqEdge.f x0 x1 x2 x0 x1 x2) true := by
  unfold laws_eqEdge.f
  repeat (first | exact Ev.now _ | refine Ev.pos rfl ?_ | (refine Ev.bind (Ev.eq rfl) ?_; try dsimp only))
theorem laws_eqEdgeS.ev (l : List (S58)) (hl : l.length ≤ 9223372036854775807) : Ev (fun k => laws_eqEdgeS.f k l l) true := by
  have key : ∀ (d i : Nat), i + d = l.length → Ev (fun k => laws_eqEdgeS.l0 k l l (i : Int)) true := by
    intro d
    induction d with
    | zero =>
      intro i hi
      refine Ev.step (f := fun _ => some true) (fun k => ?_) (Ev.now _)
      simp only [laws_eqEdgeS.l0]
      rw [if_neg (by omega)]
    | succ d ih =>
      intro i hi
      have h1 : (i : Int) < (l.length : Int) := by omega
      have h0 : (0 : Int) ≤ (i : Int) := by omega
      have hw := wrap_nat i l.length (by omega) (by omega)
      refine Ev.step (f := fun k => (laws_eqEdge.f (rd_T58 l (i : Int)).f0 (rd_T58 l (i : Int)).f1 (rd_T58 l (i : Int)).f2 (rd_T58 l (i : Int)).f0 (rd_T58 l (i : Int)).f1 (rd_T58 l (i : Int)).f2).bind fun t => if t = true then laws_eqEdgeS.l0 k l l ((i + 1 : Nat) : Int) else some false) (fun k => ?_) (Ev.bind (laws_eqEdge.ev (rd_T58 l (i : Int)).f0 (rd_T58 l (i : Int)).f1 (rd_T58 l (i : Int)).f2) (Ev.pos rfl (ih (i + 1) (by omega))))
      simp only [laws_eqEdgeS.l0, if_pos h1, if_pos h0, hw]
  unfold laws_eqEdgeS.f
  exact Ev.pos rfl (key l.length 0 (by omega))
/-! ### plain: l1Has -/
theorem getD_elem {α : Type} (l : List α) (i : Nat) (d : α) (h : i < l.length) : l.getD i d = l[i] := by
  rw [List.getD_eq_getElem?_getD, List.getElem?_eq_getElem h]; rfl
theorem l1Has_ev (l : List Int) (a : Int) (hl : l.length ≤ 1048576) : Ev (fun k => spec_l1Has.f k l a) (l.contains a) := by
  have key : ∀ (d i : Nat), i + d = l.length → Ev (fun k => spec_l1Has.l0 k l a (i : Int)) ((l.drop i).contains a) := by
    intro d
    induction d with
    | zero =>
      intro i hi
      rw [List.drop_eq_nil_of_le (by omega)]
      refine Ev.step (f := fun _ => some false) (fun k => ?_) (Ev.val (Ev.now _) (by simp))
      simp only [spec_l1Has.l0]
      rw [if_neg (by omega)]
    | succ d ih =>
      intro i hi
      have h1 : (i : Int) < (l.length : Int) := by omega
      have h0 : (0 : Int) ≤ (i : Int) := by omega
      have hw := wrap_nat i l.length (by omega) (by omega)
      have hx : rd l (i : Int) = l[i]'(by omega) := getD_elem l i _ (by omega)
      rw [List.drop_eq_getElem_cons (by omega), ← hx]
      have hn := ih (i + 1) (by omega)
      generalize hX : rd l (i : Int) = x at *
      by_cases hq : x = a
      · refine Ev.step (f := fun _ => some true) (fun k => ?_) (Ev.val (Ev.now _) (by simp [hq]))
        simp only [spec_l1Has.l0, if_pos h1, if_pos h0, hX, if_pos hq]
      · refine Ev.step (fun k => ?_) (Ev.val hn (by rw [List.contains_cons, show (a == x) = false from beq_eq_false_iff_ne.2 (fun e => hq e.symm)]; simp))
        simp only [spec_l1Has.l0, if_pos h1, if_pos h0, hX, if_neg hq, hw]
  exact key l.length 0 (by omega)

/-! ### plain: reach -/
def passR (p : S58 → Bool) (fr : Int) : List S58 → List Int → Bool → List Int × Bool
  | [], o, g => (o, g)
  | e :: es, o, g => if (p e && (e.f0 == fr || o.contains e.f0) && !o.contains e.f1) = true then passR p fr es (o ++ [e.f1]) true else passR p fr es o g
def reachR (es : List S58) (p : S58 → Bool) (fr : Int) : Nat → List Int → Option (List Int)
  | 0, _ => none
  | k + 1, o => if (passR p fr es o false).2 = true then reachR es p fr k (passR p fr es o false).1 else some (passR p fr es o false).1
theorem passR_spec (es0 : List S58) (p : S58 → Bool) (fr : Int) : ∀ (es : List S58) (o : List Int) (g : Bool), (∀ e ∈ es, e ∈ es0) → o.Nodup → (∀ x ∈ o, x ∈ es0.map (fun e => e.f1) ∧ Path es0 p fr x) →
    ∃ nw, passR p fr es o g = (o ++ nw, g || !nw.isEmpty) ∧ (o ++ nw).Nodup ∧ (∀ x ∈ o ++ nw, x ∈ es0.map (fun e => e.f1) ∧ Path es0 p fr x) ∧ (nw = [] → ∀ e ∈ es, p e = true → (e.f0 = fr ∨ e.f0 ∈ o) → e.f1 ∈ o)
  | [], o, g, _, h1, h2 => ⟨[], by simp [passR], by simpa using h1, by simpa using h2, by simp⟩
  | e :: es, o, g, h0, h1, h2 => by
    unfold passR
    by_cases c : (p e && (e.f0 == fr || o.contains e.f0) && !o.contains e.f1) = true
    · rw [if_pos c]
      simp only [Bool.and_eq_true, Bool.or_eq_true, beq_iff_eq, List.contains_iff_mem, Bool.not_eq_true', ← Bool.not_eq_true] at c
      obtain ⟨⟨c1, c2⟩, c3⟩ := c
      have he : e.f1 ∈ succs es0 p e.f0 := by
        unfold succs
        exact List.mem_map.2 ⟨e, List.mem_filter.2 ⟨h0 e (by simp), by simp [c1]⟩, rfl⟩
      have hp : Path es0 p fr e.f1 := by
        rcases c2 with c2 | c2
        · exact .one _ (c2 ▸ he)
        · exact .snoc _ _ (h2 _ c2).2 he
      have hn : (o ++ [e.f1]).Nodup := List.nodup_append.2 ⟨h1, by simp, fun x hx y hy he => by rw [List.mem_singleton.1 hy] at he; exact c3 (he ▸ hx)⟩
      obtain ⟨nw, g1, g2, g3, _⟩ := passR_spec es0 p fr es (o ++ [e.f1]) true (fun x hx => h0 x (by simp [hx])) hn (fun x hx => by
        rcases List.mem_append.1 hx with hx | hx
        · exact h2 x hx
        · rw [List.mem_singleton.1 hx]; exact ⟨succs_mem _ _ _ _ he, hp⟩)
      exact ⟨e.f1 :: nw, by rw [g1]; simp, by simpa using g2, by simpa using g3, by simp⟩
    · rw [if_neg c]
      obtain ⟨nw, g1, g2, g3, g4⟩ := passR_spec es0 p fr es o g (fun x hx => h0 x (by simp [hx])) h1 h2
      refine ⟨nw, g1, g2, g3, fun hnw x hx hpx hfx => ?_⟩
      rcases List.mem_cons.1 hx with rfl | hx
      · simp only [Bool.and_eq_true, Bool.or_eq_true, beq_iff_eq, List.contains_iff_mem, Bool.not_eq_true', ← Bool.not_eq_true, not_and, Classical.not_not] at c
        exact c ⟨hpx, hfx⟩
      · exact g4 hnw x hx hpx hfx
theorem reachR_spec (es : List S58) (p : S58 → Bool) (fr : Int) : ∀ (k : Nat) (o : List Int), o.Nodup → (∀ x ∈ o, x ∈ es.map (fun e => e.f1) ∧ Path es p fr x) → es.length - o.length < k → ∃ r, reachR es p fr k o = some r ∧ (∀ x, x ∈ r ↔ Path es p fr x) ∧ r.length ≤ es.length
  | 0, _, _, _, h => absurd h (Nat.not_lt_zero _)
  | k + 1, o, h1, h2, h3 => by
    obtain ⟨nw, g1, g2, g3, g4⟩ := passR_spec es p fr es o false (fun _ h => h) h1 h2
    have hlen := nodup_len _ _ g2 (fun x hx => (g3 x hx).1)
    rw [List.length_map] at hlen
    unfold reachR
    rw [g1]
    cases nw with
    | nil =>
      rw [List.append_nil] at g2 g3 hlen ⊢
      refine ⟨o, rfl, fun x => ⟨fun hx => (g3 x hx).2, fun hx => ?_⟩, hlen⟩
      have hcl := g4 rfl
      have hs : ∀ a, (a = fr ∨ a ∈ o) → ∀ n ∈ succs es p a, n ∈ o := fun a ha n hn => by
        unfold succs at hn
        obtain ⟨e, he, rfl⟩ := List.mem_map.1 hn
        obtain ⟨he1, he2⟩ := List.mem_filter.1 he
        simp only [Bool.and_eq_true, beq_iff_eq] at he2
        exact hcl e he1 he2.1 (he2.2 ▸ ha)
      induction hx with
      | one b hb => exact hs fr (.inl rfl) b hb
      | snoc b c _ hc ih => exact hs b (.inr ih) c hc
    | cons n nw =>
      simp only [List.isEmpty_cons, Bool.not_false, Bool.or_true, if_true]
      exact reachR_spec es p fr k _ g2 g3 (by simp only [List.length_append, List.length_cons] at hlen ⊢; omega)
theorem passR_miss (p : S58 → Bool) (fr : Int) (e : S58) (l : List S58) (o : List Int) (g : Bool) (h : (p e && (e.f0 == fr || o.contains e.f0) && !o.contains e.f1) = false) : passR p fr (e :: l) o g = passR p fr l o g := by
  show (if _ then _ else _) = _
  rw [if_neg (by rw [h]; decide)]
theorem passR_hit (p : S58 → Bool) (fr : Int) (e : S58) (l : List S58) (o : List Int) (g : Bool) (h : (p e && (e.f0 == fr || o.contains e.f0) && !o.contains e.f1) = true) : passR p fr (e :: l) o g = passR p fr l (o ++ [e.f1]) true := by
  show (if _ then _ else _) = _
  rw [if_pos h]
theorem reach_l1 (es : List S58) (ks fr : Int) (hes : es.length ≤ 1048576) (R : List Int) : ∀ (d i : Nat) (o : List Int) (g : Bool), i + d = es.length → o.Nodup → (∀ x ∈ o, x ∈ es.map (fun e => e.f1)) →
    Ev (fun k => spec_l11Reach.l0 k es ks fr (passR (amongB ks) fr (es.drop i) o g).1 (passR (amongB ks) fr (es.drop i) o g).2) R → Ev (fun k => spec_l11Reach.l1 k es ks fr o g (i : Int)) R := by
  intro d
  induction d with
  | zero =>
    intro i o g hi hn hs hR
    rw [List.drop_eq_nil_of_le (by omega)] at hR
    refine Ev.step (fun k => ?_) hR
    simp only [spec_l11Reach.l1, passR]
    rw [if_neg (by omega)]
  | succ d ih =>
    intro i o g hi hn hs hR
    have h1 : (i : Int) < (es.length : Int) := by omega
    have h0 : (0 : Int) ≤ (i : Int) := by omega
    have hw := wrap_nat i es.length (by omega) (by omega)
    have hx : rd_T58 es (i : Int) = es[i]'(by omega) := getD_elem es i _ (by omega)
    have hmem : rd_T58 es (i : Int) ∈ es := by rw [hx]; exact List.getElem_mem _
    have hol := nodup_len o _ hn hs
    rw [List.length_map] at hol
    rw [List.drop_eq_getElem_cons (by omega), ← hx] at hR
    have hskip := fun h => ih (i + 1) o g (by omega) hn hs h
    have hput : rd_T58 es (i : Int) ∈ es → (rd_T58 es (i : Int)).f1 ∉ o → _ := fun hm hno => ih (i + 1) (o ++ [(rd_T58 es (i : Int)).f1]) true (by omega) (List.nodup_append.2 ⟨hn, by simp, fun x hx y hy e => by rw [List.mem_singleton.1 hy] at e; exact hno (e ▸ hx)⟩) (fun x hx => by
      rcases List.mem_append.1 hx with hx | hx
      · exact hs x hx
      · rw [List.mem_singleton.1 hx]; exact List.mem_map.2 ⟨_, hm, rfl⟩)
    have hput := hput hmem
    clear hx hmem
    generalize hX : rd_T58 es (i : Int) = x at *
    have hlen : o.length < 17592186044416 := by omega
    by_cases c : Go.bits .and .i64 x.f2 ks = 0
    · have hp : amongB ks x = false := by unfold amongB; rw [c]; rfl
      rw [passR_miss _ _ _ _ _ _ (by rw [hp]; rfl)] at hR
      refine Ev.step (fun k => ?_) (hskip hR)
      simp only [spec_l11Reach.l1, if_pos h1, if_pos h0, hX, if_pos c, hw]
    · have hp : amongB ks x = true := by unfold amongB; exact bne_iff_ne.2 c
      by_cases cf : x.f0 = fr
      · refine Ev.step (f := fun k => (spec_l1Has.f k o x.f1).bind fun t => if t = true then spec_l11Reach.l1 k es ks fr o g ((i + 1 : Nat) : Int) else if o.length < 17592186044416 then spec_l11Reach.l1 k es ks fr (o ++ [x.f1]) true ((i + 1 : Nat) : Int) else none) (fun k => ?_) (Ev.bind (l1Has_ev o x.f1 (by omega)) ?_)
        · simp only [spec_l11Reach.l1, if_pos h1, if_pos h0, hX, if_neg c, if_pos cf, hw]
        · cases h2 : o.contains x.f1 with
          | true =>
            rw [passR_miss _ _ _ _ _ _ (by rw [h2]; simp)] at hR
            exact Ev.pos rfl (hskip hR)
          | false =>
            rw [passR_hit _ _ _ _ _ _ (by rw [hp, h2, cf]; simp)] at hR
            exact Ev.neg (by decide) (Ev.pos hlen (hput (by simpa using h2) hR))
      · refine Ev.step (f := fun k => (spec_l1Has.f k o x.f0).bind fun t => if t = true then ((spec_l1Has.f k o x.f1).bind fun t => if t = true then spec_l11Reach.l1 k es ks fr o g ((i + 1 : Nat) : Int) else if o.length < 17592186044416 then spec_l11Reach.l1 k es ks fr (o ++ [x.f1]) true ((i + 1 : Nat) : Int) else none) else spec_l11Reach.l1 k es ks fr o g ((i + 1 : Nat) : Int)) (fun k => ?_) (Ev.bind (l1Has_ev o x.f0 (by omega)) ?_)
        · simp only [spec_l11Reach.l1, if_pos h1, if_pos h0, hX, if_neg c, if_neg cf, hw]
        · have cfb : (x.f0 == fr) = false := beq_eq_false_iff_ne.2 cf
          cases h3 : o.contains x.f0 with
          | false =>
            rw [passR_miss _ _ _ _ _ _ (by rw [h3, cfb]; simp)] at hR
            exact Ev.neg (by decide) (hskip hR)
          | true =>
            refine Ev.pos rfl (Ev.bind (l1Has_ev o x.f1 (by omega)) ?_)
            cases h2 : o.contains x.f1 with
            | true =>
              rw [passR_miss _ _ _ _ _ _ (by rw [h2]; simp)] at hR
              exact Ev.pos rfl (hskip hR)
            | false =>
              rw [passR_hit _ _ _ _ _ _ (by rw [hp, h2, h3]; simp)] at hR
              exact Ev.neg (by decide) (Ev.pos hlen (hput (by simpa using h2) hR))
theorem reach_l0 (es : List S58) (ks fr : Int) (hes : es.length ≤ 1048576) : ∀ (n : Nat) (o r : List Int), o.Nodup → (∀ x ∈ o, x ∈ es.map (fun e => e.f1) ∧ Path es (amongB ks) fr x) → reachR es (amongB ks) fr n o = some r → Ev (fun k => spec_l11Reach.l0 k es ks fr o true) r
  | 0, _, _, _, _, h => by simp [reachR] at h
  | n + 1, o, r, hn, hs, h => by
    obtain ⟨nw, g1, g2, g3, _⟩ := passR_spec es (amongB ks) fr es o false (fun _ h => h) hn hs
    unfold reachR at h
    refine Ev.step (f := fun k => spec_l11Reach.l1 k es ks fr o false ((0 : Nat) : Int)) (fun k => ?_) (reach_l1 es ks fr hes r es.length 0 o false (by omega) hn (fun x hx => (hs x hx).1) ?_)
    · simp only [spec_l11Reach.l0, if_true]; rfl
    · rw [List.drop_zero]
      rw [g1] at h ⊢
      cases hg : (false || !nw.isEmpty) with
      | true =>
        rw [hg] at h
        rw [if_pos rfl] at h
        exact reach_l0 es ks fr hes n _ r g2 g3 h
      | false =>
        rw [hg] at h
        rw [if_neg (show ¬ (false = true) by decide)] at h
        injection h with h
        subst h
        refine Ev.step (f := fun _ => some (o ++ nw)) (fun k => ?_) (Ev.now _)
        simp only [spec_l11Reach.l0, Bool.false_eq_true, if_false]
theorem reach_ev (es : List S58) (ks fr : Int) (hes : es.length ≤ 1048576) : ∃ r, Ev (fun k => spec_l11Reach.f k es ks fr) r ∧ (∀ x, r.contains x = leadsB es (amongB ks) fr x) ∧ r.length ≤ es.length := by
  obtain ⟨r, h1, h2, h3⟩ := reachR_spec es (amongB ks) fr (es.length + 1) [] List.nodup_nil (by simp) (by simp)
  refine ⟨r, ?_, fun x => ?_, h3⟩
  · unfold spec_l11Reach.f
    exact reach_l0 es ks fr hes _ [] r List.nodup_nil (by simp) h1
  · rw [Bool.eq_iff_iff, List.contains_iff_mem, h2, (leads_bfs es (amongB ks) fr x).2]

/-! ### plain: onerw -/
theorem onerw_ev (es : List S58) (hes : es.length ≤ 1048576) : Ev (fun k => spec_OneRwCycle.f k es) (es.any (rwB es)) := by
  have key : ∀ (d i : Nat), i + d = es.length → Ev (fun k => spec_OneRwCycle.l0 k es (i : Int)) ((es.drop i).any (rwB es)) := by
    intro d
    induction d with
    | zero =>
      intro i hi
      rw [List.drop_eq_nil_of_le (by omega)]
      refine Ev.step (f := fun _ => some false) (fun k => ?_) (Ev.val (Ev.now _) (by simp))
      simp only [spec_OneRwCycle.l0]
      rw [if_neg (by omega)]
    | succ d ih =>
      intro i hi
      have h1 : (i : Int) < (es.length : Int) := by omega
      have h0 : (0 : Int) ≤ (i : Int) := by omega
      have hw := wrap_nat i es.length (by omega) (by omega)
      have hx : rd_T58 es (i : Int) = es[i]'(by omega) := getD_elem es i _ (by omega)
      rw [List.drop_eq_getElem_cons (by omega), ← hx, List.any_cons]
      have hn := ih (i + 1) (by omega)
      generalize hX : rd_T58 es (i : Int) = x at *
      rw [show rwB es x = (x.f2 == 4 && (x.f0 == x.f1 || leadsB es (amongB 3) x.f1 x.f0)) from rfl]
      by_cases c4 : x.f2 = 4
      · by_cases cf : x.f0 = x.f1
        · refine Ev.step (f := fun _ => some true) (fun k => ?_) (Ev.val (Ev.now _) (by rw [beq_iff_eq.2 c4, beq_iff_eq.2 cf]; simp))
          simp only [spec_OneRwCycle.l0, if_pos h1, if_pos h0, hX, if_pos c4, if_pos cf]
        · obtain ⟨r, hr, hc, hl⟩ := reach_ev es 3 x.f1 hes
          refine Ev.step (f := fun k => (spec_l11Reach.f k es 3 x.f1).bind fun t => (spec_l1Has.f k t x.f0).bind fun b => if b = true then some true else spec_OneRwCycle.l0 k es ((i + 1 : Nat) : Int)) (fun k => ?_) (Ev.bind hr (Ev.bind (l1Has_ev r x.f0 (by omega)) ?_))
          · simp only [spec_OneRwCycle.l0, if_pos h1, if_pos h0, hX, if_pos c4, if_neg cf, hw]
          · rw [hc, beq_iff_eq.2 c4, beq_eq_false_iff_ne.2 cf, Bool.true_and, Bool.false_or]
            cases leadsB es (amongB 3) x.f1 x.f0 with
            | true => exact Ev.pos rfl (Ev.val (Ev.now _) (by simp))
            | false => exact Ev.neg (by decide) (Ev.val hn (by rw [Bool.false_or]))
      · refine Ev.step (fun k => ?_) (Ev.val hn (by rw [beq_eq_false_iff_ne.2 c4, Bool.false_and, Bool.false_or]))
        simp only [spec_OneRwCycle.l0, if_pos h1, if_pos h0, hX, if_neg c4, hw]
  have h := key es.length 0 (by omega)
  rw [List.drop_zero] at h
  exact h

theorem FnExactOneRwCycle_of (l0 : List (S60)) (h0 : (l0.length ≤ maxLen ∧ ∀ y ∈ l0, ok60 y)) (r_0 : Bool) (hs : (l0.length ≤ 1048576) → Ev (fun k => spec_OneRwCycle.f k (l0.map cv60)) r_0) (hi : (l0.length ≤ 1048576) → Ev (fun k => impl_OneRwCycle.f (l0.map cv60)) r_0) : ∃ k, laws_FnExactOneRwCycle.f k l0 = some true := by
  refine Ev.rounds ?_
  unfold laws_FnExactOneRwCycle.f
  obtain ⟨q0, e0, m0, b0⟩ := laws_szEdgeS.ev l0 1048576 (by omega) (by omega) h0.1
  refine Ev.bind (Ev.eq e0) ?_
  by_cases c0 : q0 < 0
  · exact Ev.pos c0 (Ev.now _)
  refine Ev.neg c0 ?_
  have d0 := b0 (by omega)
  have hbd : (l0.length ≤ 1048576) := d0
  have fs := hs hbd
  have fi := hi hbd
  have t0 := laws_toEdgeS.ev l0 d0
  have u0 : (l0.map cv60).length ≤ 1048576 := by have := d0; simp only [List.length_map]; exact this
  have v0 := laws_eqEdgeS.ev (l0.map cv60) (by omega)
  repeat (first | exact Ev.now _ | (with_reducible refine Ev.bind fs ?_) | (with_reducible refine Ev.bind fi ?_) | (with_reducible refine Ev.bind t0 ?_) | (with_reducible refine Ev.bind v0 ?_) | (with_reducible refine Ev.pos rfl ?_) | (refine Ev.neg (by omega) ?_) | (refine Ev.neg (by decide) ?_) | (refine Ev.neg (by simp; done) ?_))
end Go.Proofs.Ytifpmjnbkodgfaa.XFnExactOneRwCycle
