/- Part 5 of the proof that the law FnExactRollTo answers true at every input: memory as trees, the program walked over them, and what it computes; no condition. -/
import Derived.Test.YtnlbjfdmjlnlgaaGreatU4
namespace Go.Proofs.YtnlbjfdmjlnlgaaGreat
open Go Go.Px Go.RowKit Go.Proofs
set_option linter.unnecessarySimpa false
set_option linter.unusedVariables false
set_option linter.unusedSimpArgs false
set_option maxRecDepth 100000
set_option maxHeartbeats 1000000
attribute [-simp] Int.not_le Int.not_lt
def holR (k : Int) (r : DRow) : List Cell := if r.key = k then r.enc else [.v (.int .i64 r.key), .x]
def hol (k : Int) (l : List DRow) (i : Nat) : List (List Cell) := (l.take i).map (holR k) ++ (l.drop i).map DRow.enc
theorem hol_len {k : Int} {l : List DRow} {i : Nat} : (hol k l i).length = l.length := by simp [hol]; omega
theorem hol_get {k : Int} {l : List DRow} {i : Nat} (hi : i < l.length) : (hol k l i)[i]? = some l[i].enc := by
  unfold hol
  rw [List.getElem?_append_right (by simp; omega)]
  simp [Nat.min_eq_left (Nat.le_of_lt hi), hi]
theorem hol_next {k : Int} {l : List DRow} {i : Nat} (hi : i < l.length) : hol k l (i + 1) = (hol k l i).set i (holR k l[i]) := by
  unfold hol
  rw [List.take_succ_eq_append_getElem hi, List.set_append_right _ _ (by simp; omega), List.drop_eq_getElem_cons hi]
  simp only [List.length_map, List.length_take, Nat.min_eq_left (Nat.le_of_lt hi), Nat.sub_self, List.map_append, List.map_cons, List.map_nil, List.set_cons_zero, List.append_assoc, List.cons_append, List.nil_append]
theorem hol_no {k : Int} {l : List DRow} {i : Nat} (hi : i < l.length) (h : l[i].key = k) : hol k l (i + 1) = hol k l i := by
  have h1 := hol_next (k := k) hi
  have h2 := hol_get (k := k) hi
  have : holR k l[i] = l[i].enc := by unfold holR; rw [if_pos h]
  rw [h1, this]
  exact set_at h2
theorem hol_clean {k : Int} {l : List DRow} {i : Nat} {K : Cell → Prop} : CleanRows K (hol k l i) := by
  unfold hol
  rw [CleanRows_append]
  refine ⟨?_, by simp⟩
  intro row hr
  obtain ⟨t, -, rfl⟩ := List.mem_map.1 hr
  unfold holR
  split
  · simp
  · simp [Clean.v]
/-- the rows behind a chain that was set: of a key that may not be there -/
def outF (k : Int) (c : List DVersion) (l : List DRow) : List DRow :=
  if c.length = 0 then l.filter (fun r => decide (r.key ≠ k)) else l.filter (fun r => decide (r.key < k)) ++ ⟨k, c⟩ :: l.filter (fun r => decide (k < r.key))
theorem outF_len {k : Int} {c : List DVersion} {l : List DRow} (hs : c.length = 0 ∨ True) : (outF k c l).length ≤ l.length + 1 := by
  unfold outF
  split
  · have := List.length_filter_le (fun r : DRow => decide (r.key ≠ k)) l; omega
  · have h : ∀ l : List DRow, (l.filter (fun r => decide (r.key < k))).length + (l.filter (fun r => decide (k < r.key))).length ≤ l.length := by
      intro l
      induction l with
      | nil => simp
      | cons r l ih =>
        by_cases h1 : r.key < k
        · have h2 : ¬ k < r.key := by omega
          simp [h1, h2]; omega
        · by_cases h2 : k < r.key
          · simp [h1, h2]; omega
          · simp [h1, h2]; omega
    have := h l
    simp; omega
/-- ahead of the key -/
def ltK (k : Int) (l : List DRow) : Prop := ∀ r ∈ l, r.key < k
theorem ltK_next {k : Int} {l : List DRow} {r : DRow} (h : ltK k l) (hr : r.key < k) : ltK k (l ++ [r]) := fun x hx => by
  rcases List.mem_append.1 hx with h1 | h1
  · exact h x h1
  · rw [List.mem_singleton.1 h1]; exact hr
theorem ltK_lt {k : Int} {l : List DRow} (h : ltK k l) : l.filter (fun r => decide (r.key < k)) = l := List.filter_eq_self.2 (fun r hr => by simpa using h r hr)
theorem ltK_gt {k : Int} {l : List DRow} (h : ltK k l) : l.filter (fun r => decide (k < r.key)) = [] := List.filter_eq_nil_iff.2 (fun r hr => by have := h r hr; simp; omega)
theorem outF_end {k : Int} {c : List DVersion} {l : List DRow} (hc : ¬ c.length = 0) (h : ltK k l) : outF k c l = l ++ [⟨k, c⟩] := by
  unfold outF
  rw [if_neg hc, ltK_lt h, ltK_gt h]
theorem outF_eq {k : Int} {c : List DVersion} {l : List DRow} {r : DRow} (hc : ¬ c.length = 0) (h : ltK k l) (hr : r.key = k) : outF k c (l ++ [r]) = l ++ [⟨k, c⟩] := by
  unfold outF
  rw [if_neg hc, List.filter_append, List.filter_append, ltK_lt h, ltK_gt h]
  simp [hr]
theorem outF_gt {k : Int} {c : List DVersion} {l : List DRow} {r : DRow} (hc : ¬ c.length = 0) (h : ltK k l) (hr : k < r.key) : outF k c (l ++ [r]) = (l ++ [⟨k, c⟩]) ++ [r] := by
  unfold outF
  rw [if_neg hc, List.filter_append, List.filter_append, ltK_lt h, ltK_gt h]
  simp [hr, show ¬ r.key < k by omega]
/-- behind the key's place -/
def pastK (k : Int) (c : List DVersion) (l : List DRow) (i : Nat) : Prop := c.length = 0 ∨ ∃ j, ∃ hj : j < l.length, j < i ∧ k ≤ l[j].key
theorem pastK_gt {k : Int} {c : List DVersion} {l : List DRow} {i : Nat} (hs : sortedR l) (h : pastK k c l i) (hi : i < l.length) : c.length = 0 ∨ (¬ c.length = 0 ∧ k < l[i].key) := by
  by_cases hc : c.length = 0
  · exact .inl hc
  · rcases h with h | ⟨j, hj, hji, hk⟩
    · exact absurd h hc
    · exact .inr ⟨hc, by have := hs j i hji hi; omega⟩
theorem outF_skip {k : Int} {c : List DVersion} {l : List DRow} {r : DRow} (h : c.length = 0 ∨ (¬ c.length = 0 ∧ k < r.key)) (hr : r.key = k) : outF k c (l ++ [r]) = outF k c l := by
  rcases h with h | ⟨-, h⟩
  · unfold outF; rw [if_pos h, if_pos h, List.filter_append]; simp [hr]
  · omega
theorem outF_more {k : Int} {c : List DVersion} {l : List DRow} {r : DRow} (h : c.length = 0 ∨ (¬ c.length = 0 ∧ k < r.key)) (hr : ¬ r.key = k) : outF k c (l ++ [r]) = outF k c l ++ [r] := by
  rcases h with h | ⟨h, h2⟩
  · unfold outF; rw [if_pos h, if_pos h, List.filter_append]; simp [hr]
  · unfold outF; rw [if_neg h, if_neg h, List.filter_append, List.filter_append]; simp [h2, show ¬ r.key < k by omega]
set_option maxHeartbeats 8000000 in
theorem spec_l6Set (H : HH) {r y} {x : DEngine} {k : Int} {c : List DVersion} (hl : x.le 1048576) (hs : sortedR x.rows) (hcb : c.length ≤ 1048576)
    (hy : y = { x with rows := outF k c x.rows }) (hr0 : r.1 ≠ 0) (hrc : ∀ q, CleanH (hit [(r, q)]) H) :
    PUpdW Tryz.prog 121 [.c (.pt r [] 4 0 0), I k, .c (.own 4 (c.map DVersion.enc))] ((r, .own 4 [x.enc]) :: H) (.t []) ((r, .own 4 [y.enc]) :: H) r (fun q => q.head? = some (0, 3)) := by
  obtain ⟨⟨b1, b1p⟩, b2, b2p⟩ := hl
  refine PUpdWB2.of [0, 1, 2, 6, 7, 8, 19, 35, 51, 53, 71] Tryz.func121 rfl (by simp [Tryz.f121]) ?_
  intro d hd0 hfr0 hcl0 hout0
  have hrn : ∀ n, ¬ r = (d, n) := fun n h => by have := hfr0 n; rw [look_cons, if_pos h] at this; cases this
  have hrm : ∀ n, ¬ (d, n) = r := fun n h => hrn n h.symm
  have hrd : ¬ r.1 = d := fun h => hrn r.2 (by rw [← h])
  have hfr : ∀ n, Px.look H (d, n) = none := fun n => by have := hfr0 n; rwa [look_cons, if_neg (hrn n)] at this
  have hcl : CleanH (atD d) H := ((CleanH_cons _ _ _ _).1 hcl0).2
  have hout : outH d H = H := by have := hout0; rw [outH_cons, if_neg hrd] at this; exact (List.cons.inj this).2
  have hcd : ∀ n q, CleanH (hit [((d, n), q)]) H := fun n q => hcl.at
  clear hfr0 hcl0 hout0
  simp (maxSteps := 4000000) [hd0, hfr, hout, hcl, hcd, delA_none, hrn, hrm, hrd, hr0, hrc, Tryz.f121, DEngine.enc]
  obtain ⟨I0, hI⟩ : ∃ I0 : Nat → St → Prop, ∀ m st, I0 m st ↔ ∃ i : Nat, i + m = x.rows.length ∧ ∃ lg, (∀ a b q, ((a, b), q) ∈ lg → (a, b) = r ∧ q.head? = some (0, 3)) ∧
      ((¬ c.length = 0 ∧ ltK k (x.rows.take i) ∧ ∃ O, O = x.rows.take i ∧ st = ⟨[(0, .c (.pt r [] 4 0 0)), (1, I k), (2, .c (.sl (d, 2) [] 4 0 c.length)), (6, .c (.sl (d, 6) [] 2 0 O.length)), (7, B false), (8, I i)],
          ((d, 6), .own 2 (O.map DRow.enc)) :: ((d, 2), .own 4 (c.map DVersion.enc)) :: (r, .own 4 [[.v (.int .i64 x.next), .v (.int .i64 x.clock), .own 5 (x.txns.map DTxn.enc), .own 2 (hol k x.rows i)]]) :: H, lg⟩) ∨
       (pastK k c x.rows i ∧ ∃ O, O = outF k c (x.rows.take i) ∧ st = ⟨[(0, .c (.pt r [] 4 0 0)), (1, I k), (6, .c (.sl (d, 6) [] 2 0 O.length)), (7, B true), (8, I i)],
          ((d, 6), .own 2 (O.map DRow.enc)) :: (r, .own 4 [[.v (.int .i64 x.next), .v (.int .i64 x.clock), .own 5 (x.txns.map DTxn.enc), .own 2 (hol k x.rows i)]]) :: H, lg⟩)) := ⟨_, fun _ _ => Iff.rfl⟩
  refine LoopK.intro I0 (x.rows.length + 1) ?_ ?_
  · by_cases hc : c = []
    · subst hc
      exact LK.intro x.rows.length [0, 1, 6, 7, 8] [2] (by omega) (by decide) (by simp (maxSteps := 4000000) [hd0, hfr, hout, hcl, hcd, delA_none, hrn, hrm, hrd, hr0, hrc, hit, hit1]) ((hI _ _).2 ⟨0, by omega, [], by simp, .inr ⟨.inl rfl, [], by simp [outF], by simp (maxSteps := 4000000) [hd0, hfr, hout, hcl, hcd, delA_none, hrn, hrm, hrd, hr0, hrc, hol]⟩⟩)
    · exact LK.intro x.rows.length [0, 1, 2, 6, 7, 8] [] (by omega) (by decide) (by simp (maxSteps := 4000000) [hd0, hfr, hout, hcl, hcd, delA_none, hrn, hrm, hrd, hr0, hrc, hit, hit1]) ((hI _ _).2 ⟨0, by omega, [], by simp, .inl ⟨by simpa using hc, by simp [ltK], [], by simp, by simp (maxSteps := 4000000) [hd0, hfr, hout, hcl, hcd, delA_none, hrn, hrm, hrd, hr0, hrc, hol, hc]⟩⟩)
  rintro m st hst
  obtain ⟨i, him, lg, hlg, hAB⟩ := (hI _ _).1 hst
  clear hst
  have hlg' : ∀ p, ∀ a b q, ((a, b), q) ∈ (r, (0, 3) :: p) :: lg → (a, b) = r ∧ q.head? = some (0, 3) := fun p a b q h => by
    rcases List.mem_cons.1 h with h | h
    · cases h; exact ⟨rfl, rfl⟩
    · exact hlg _ _ _ h
  have hLl := hol_len (k := k) (l := x.rows) (i := i)
  have hLc := fun K => hol_clean (k := k) (l := x.rows) (i := i) (K := K)
  by_cases hi : i < x.rows.length
  · have w1 : IntKind.i64.wrap ((i : Int) + 1) = i + 1 := w64 (by omega) (by omega)
    have hLg := hol_get (k := k) hi
    have hLn := hol_next (k := k) hi
    have hLo := hol_no (k := k) hi
    have htk := List.take_succ_eq_append_getElem hi
    have hcb2 : x.rows[i].chain.length ≤ 1048576 := b2p _ (List.getElem_mem hi)
    generalize hol k x.rows i = L at *
    have hiL : i < L.length := by omega
    have hLe : L[i] = x.rows[i].enc := by rw [List.getElem?_eq_getElem hiL] at hLg; exact Option.some.inj hLg
    rcases hAB with ⟨hc, hlt, O, hO, rfl⟩ | ⟨hp, O, hO, rfl⟩
    · rw [← hO] at hlt
      have hOl : O.length ≤ 1048576 := by rw [hO, List.length_take]; omega
      have hpn' : k ≤ x.rows[i].key → pastK k c x.rows (i + 1) := fun h => .inr ⟨i, hi, Nat.lt_succ_self i, h⟩
      rcases Int.lt_trichotomy x.rows[i].key k with hk | hk | hk
      · simp (maxSteps := 4000000) [hd0, hfr, hout, hcl, hcd, delA_none, hrn, hrm, hrd, hr0, hrc, hLl, hLe, eq_true (show (i : Int) < x.rows.length by omega), hi, hiL, DRow.enc, hLc, w1, eq_false (show ¬ k < x.rows[i].key by omega), eq_false (show ¬ x.rows[i].key = k by omega)]
        refine ⟨by omega, ?_⟩
        refine LK.absorbO (d, 6) [(O.length, 1)] r [(0, 3), (i, 1)] hd0 hr0 hrd (hrm 6) (by simp) (by simp) ?_
        simp (maxSteps := 4000000) [hd0, hfr, hout, hcl, hcd, delA_none, hrn, hrm, hrd, hr0, hrc, List.getElem?_append_right, List.set_append_right, hLe, hiL, DRow.enc, hLc, DTxn.enc, DUndo.enc, DVersion.enc]
        have hX : holR k x.rows[i] = [.v (.int .i64 x.rows[i].key), .x] := by unfold holR; rw [if_neg (by omega)]
        rw [hX] at hLn
        refine LK.intro (m - 1) [0, 1, 2, 6, 7, 8] [] (by omega) (by decide) (by simp (maxSteps := 4000000) [hd0, hfr, hout, hcl, hcd, delA_none, hrn, hrm, hrd, hr0, hrc, hit, hit1]) ((hI _ _).2 ⟨i + 1, by omega, _, hlg' [(i, 1)], .inl ⟨hc, by rw [htk, ← hO]; exact ltK_next hlt hk, O ++ [x.rows[i]], by rw [htk, hO], ?_⟩⟩)
        rw [hLn]
        simp [DRow.enc]
      · have hpn := hpn' (by omega)
        simp (maxSteps := 4000000) [hd0, hfr, hout, hcl, hcd, delA_none, hrn, hrm, hrd, hr0, hrc, hLl, hLe, eq_true (show (i : Int) < x.rows.length by omega), hi, hiL, DRow.enc, hLc, w1, hk]
        refine ⟨by omega, ?_⟩
        refine LK.intro (m - 1) [0, 1, 6, 7, 8] [] (by omega) (by decide) (by simp (maxSteps := 4000000) [hd0, hfr, hout, hcl, hcd, delA_none, hrn, hrm, hrd, hr0, hrc, hit, hit1]) ((hI _ _).2 ⟨i + 1, by omega, _, hlg, .inr ⟨hpn, O ++ [⟨k, c⟩], by rw [htk, ← hO]; exact (outF_eq hc hlt hk).symm, ?_⟩⟩)
        rw [hLo hk]
        simp [DRow.enc]
      · have hX : holR k x.rows[i] = [.v (.int .i64 x.rows[i].key), .x] := by unfold holR; rw [if_neg (by omega)]
        rw [hX] at hLn
        have hpn := hpn' (by omega)
        simp (maxSteps := 4000000) [hd0, hfr, hout, hcl, hcd, delA_none, hrn, hrm, hrd, hr0, hrc, hLl, hLe, eq_true (show (i : Int) < x.rows.length by omega), hi, hiL, DRow.enc, hLc, w1, eq_true hk, eq_false (show ¬ x.rows[i].key = k by omega)]
        refine ⟨by omega, by omega, ?_⟩
        refine LK.absorbO (d, 6) [(O.length + 1, 1)] r [(0, 3), (i, 1)] hd0 hr0 hrd (hrm 6) (by simp) (by simp) ?_
        simp (maxSteps := 4000000) [hd0, hfr, hout, hcl, hcd, delA_none, hrn, hrm, hrd, hr0, hrc, List.getElem?_append_right, List.set_append_right, hLe, hiL, DRow.enc, hLc, DTxn.enc, DUndo.enc, DVersion.enc]
        refine LK.intro (m - 1) [0, 1, 6, 7, 8] [] (by omega) (by decide) (by simp (maxSteps := 4000000) [hd0, hfr, hout, hcl, hcd, delA_none, hrn, hrm, hrd, hr0, hrc, hit, hit1]) ((hI _ _).2 ⟨i + 1, by omega, _, hlg' [(i, 1)], .inr ⟨hpn, (O ++ [⟨k, c⟩]) ++ [x.rows[i]], by rw [htk, ← hO]; exact (outF_gt hc hlt hk).symm, ?_⟩⟩)
        rw [hLn]
        simp [DRow.enc]
    · have hp2 := pastK_gt hs hp hi
      have hOl : O.length ≤ 1048577 := by
        have := outF_len (k := k) (c := c) (l := x.rows.take i) (.inr trivial)
        rw [← hO, List.length_take] at this; omega
      have hpn : pastK k c x.rows (i + 1) := hp.imp id (fun ⟨j, hj, h1, h2⟩ => ⟨j, hj, by omega, h2⟩)
      by_cases hk : x.rows[i].key = k
      · simp (maxSteps := 4000000) [hd0, hfr, hout, hcl, hcd, delA_none, hrn, hrm, hrd, hr0, hrc, hLl, hLe, eq_true (show (i : Int) < x.rows.length by omega), hi, hiL, DRow.enc, hLc, w1, hk]
        refine LK.intro (m - 1) [0, 1, 6, 7, 8] [] (by omega) (by decide) (by simp (maxSteps := 4000000) [hd0, hfr, hout, hcl, hcd, delA_none, hrn, hrm, hrd, hr0, hrc, hit, hit1]) ((hI _ _).2 ⟨i + 1, by omega, _, hlg, .inr ⟨hpn, O, by rw [htk, outF_skip hp2 hk]; exact hO, ?_⟩⟩)
        rw [hLo hk]
        simp (maxSteps := 4000000) [hd0, hfr, hout, hcl, hcd, delA_none, hrn, hrm, hrd, hr0, hrc]
      · have hX : holR k x.rows[i] = [.v (.int .i64 x.rows[i].key), .x] := by unfold holR; rw [if_neg hk]
        rw [hX] at hLn
        simp (maxSteps := 4000000) [hd0, hfr, hout, hcl, hcd, delA_none, hrn, hrm, hrd, hr0, hrc, hLl, hLe, eq_true (show (i : Int) < x.rows.length by omega), hi, hiL, DRow.enc, hLc, w1, eq_false hk]
        refine ⟨by omega, ?_⟩
        refine LK.absorbO (d, 6) [(O.length, 1)] r [(0, 3), (i, 1)] hd0 hr0 hrd (hrm 6) (by simp) (by simp) ?_
        simp (maxSteps := 4000000) [hd0, hfr, hout, hcl, hcd, delA_none, hrn, hrm, hrd, hr0, hrc, List.getElem?_append_right, List.set_append_right, hLe, hiL, DRow.enc, hLc, DTxn.enc, DUndo.enc, DVersion.enc]
        refine LK.intro (m - 1) [0, 1, 6, 7, 8] [] (by omega) (by decide) (by simp (maxSteps := 4000000) [hd0, hfr, hout, hcl, hcd, delA_none, hrn, hrm, hrd, hr0, hrc, hit, hit1]) ((hI _ _).2 ⟨i + 1, by omega, _, hlg' [(i, 1)], .inr ⟨hpn, O ++ [x.rows[i]], by rw [htk, outF_more hp2 hk, hO], ?_⟩⟩)
        rw [hLn]
        simp [DRow.enc]
  · have hie : i = x.rows.length := by omega
    subst hie
    rw [List.take_length] at hAB
    generalize hol k x.rows x.rows.length = L at *
    rcases hAB with ⟨hc, hlt, O, hO, rfl⟩ | ⟨hp, O, hO, rfl⟩
    · have hOl : O.length ≤ 1048576 := by rw [hO]; exact b2
      rw [outF_end hc hlt, ← hO] at hy
      simp (maxSteps := 4000000) [hd0, hfr, hout, hcl, hcd, delA_none, hrn, hrm, hrd, hr0, hrc, hLl, hLc]
      refine ⟨by omega, ?_, ?_⟩
      · subst hy; simp [DRow.enc]
      · rintro a b q (⟨h, rfl⟩ | h)
        · exact ⟨h, rfl⟩
        · exact hlg _ _ _ h
    · rw [← hO] at hy
      simp (maxSteps := 4000000) [hd0, hfr, hout, hcl, hcd, delA_none, hrn, hrm, hrd, hr0, hrc, hLl, hLc]
      refine ⟨?_, ?_⟩
      · subst hy; simp [DRow.enc]
      · rintro a b q (⟨h, rfl⟩ | h)
        · exact ⟨h, rfl⟩
        · exact hlg _ _ _ h
end Go.Proofs.YtnlbjfdmjlnlgaaGreat


namespace Go.Proofs.YtnlbjfdmjlnlgaaGreat
open Go Go.Px Go.RowKit Go.Proofs
set_option linter.unnecessarySimpa false
set_option linter.unusedVariables false
set_option linter.unusedSimpArgs false
set_option maxRecDepth 100000
set_option maxHeartbeats 1000000
attribute [-simp] Int.not_le Int.not_lt
theorem setC_outF {l : List DRow} {k : Int} {c : List DVersion} (hs : sortedR l) (hf : foundR l k = true) : setC l (rowP l k) c = outF k c l := by
  obtain ⟨hp, hk⟩ := foundR_key hf
  obtain ⟨-, h2, -⟩ := rowP_spec (k := k) l
  generalize rowP l k = p at *
  have hA : ∀ r ∈ l.take p, r.key < k := fun r hr => by
    obtain ⟨j, hj, rfl⟩ := List.getElem_of_mem hr
    rw [List.getElem_take]
    rw [List.length_take] at hj
    exact h2 j (by omega) (by omega)
  have hB : ∀ r ∈ l.drop (p + 1), k < r.key := fun r hr => by
    obtain ⟨j, hj, rfl⟩ := List.getElem_of_mem hr
    rw [List.getElem_drop]
    rw [List.length_drop] at hj
    have := hs p (p + 1 + j) (by omega) (by omega)
    omega
  have hd : l = l.take p ++ l[p] :: l.drop (p + 1) := by rw [List.getElem_cons_drop, List.take_append_drop]
  generalize hr : l[p] = rp at *
  have e1 : ∀ q : DRow → Bool, l.filter q = (l.take p).filter q ++ (if q rp = true then [rp] else []) ++ (l.drop (p + 1)).filter q := fun q => by
    conv => lhs; rw [hd]
    rw [List.filter_append, List.filter_cons]
    split <;> simp
  unfold setC outF
  split
  · rw [e1, List.eraseIdx_eq_take_drop_succ]
    rw [List.filter_eq_self.2 (fun r hr => by have := hA r hr; simp; omega), List.filter_eq_self.2 (fun r hr => by have := hB r hr; simp; omega)]
    simp [hk]
  · rw [List.getElem?_eq_getElem hp, hr]
    show l.set p { rp with chain := c } = _
    rw [List.set_eq_take_append_cons_drop, if_pos hp, e1, e1]
    rw [List.filter_eq_self.2 (fun r hr => by have := hA r hr; simpa using this), List.filter_eq_nil_iff.2 (fun r hr => by have := hB r hr; simp; omega), List.filter_eq_nil_iff.2 (fun r hr => by have := hA r hr; simp; omega), List.filter_eq_self.2 (fun r hr => by have := hB r hr; simpa using this)]
    have hrp : ({ rp with chain := c } : DRow) = ⟨k, c⟩ := by rw [← hk]
    rw [hrp]
    simp [hk]
theorem ixF_rowP {l : List DRow} {k : Int} (hs : sortedR l) (hf : foundR l k = true) : ixF (fun t : DRow => decide (t.key = k)) 0 l = rowP l k := by
  obtain ⟨hp, hk⟩ := foundR_key hf
  obtain ⟨-, h2, -⟩ := rowP_spec (k := k) l
  rcases ixF_some (p := fun t : DRow => decide (t.key = k)) (l := l) (n := 0) with ⟨h3, h4⟩ | ⟨i, hi, h3, h4⟩
  · have := h4 _ (List.getElem_mem hp)
    simp [hk] at this
  · simp only [decide_eq_true_eq] at h4
    rw [h3]
    rcases Nat.lt_trichotomy i (rowP l k) with h | h | h
    · have := h2 i hi h; omega
    · omega
    · have := hs _ _ h hi; omega
theorem spec_l6Row_o (H : HH) {r c0 c1 c2} {l : List DRow} {k : Int} (hb : l.length ≤ 1048576) (ha : arrAt H r [] = some (4, [[c0, c1, c2, .own 2 (l.map DRow.enc)]])) :
    PFun Tryz.prog 120 [.c (.pt r [] 4 0 0), I k] H (I (ixF (fun t : DRow => decide (t.key = k)) 0 l)) := by
  obtain ⟨R, hR⟩ : ∃ R, R = ixF (fun t : DRow => decide (t.key = k)) 0 l := ⟨_, rfl⟩
  rw [← hR]
  have hsub : arrAt H r [(0, 3)] = some (2, l.map DRow.enc) := by simpa using arrAt_sub ha (i := 0) (f := 3) rfl rfl
  refine PFun.of [0, 1, 4, 5, 12, 24] Tryz.func120 rfl (by simp [Tryz.f120]) ?_
  intro d hd0 hfr hcl hout
  have hcd : ∀ n q, CleanH (hit [((d, n), q)]) H := fun n q => hcl.at
  have ha_n : ∀ n, ¬ (d, n) = r := fun n => nm_ne (ne_of_arr hfr ha)
  have ha_d : ¬ r.1 = d := ne_of_arr hfr ha
  have ha_m : ∀ n, ¬ r = (d, n) := fun n => nm_ne' (ne_of_arr hfr ha)
  simp (maxSteps := 4000000) [hd0, hfr, hout, hcl, hcd, delA_none, ha, ha_n, ha_d, ha_m, Tryz.f120]
  refine LoopK.intro (fun m s => ∃ i : Nat, i + m = l.length ∧ ixF (fun t : DRow => decide (t.key = k)) i (l.drop i) = R ∧ s = ⟨[(0, .c (.pt r [] 4 0 0)), (1, I k), (5, I i)], H, []⟩) (l.length + 1)
    (LK.intro l.length [0, 1, 5] [] (by omega) (by decide) (by simp (maxSteps := 4000000) [hd0, hfr, hout, hcl, hcd, delA_none, ha, ha_n, ha_d, ha_m]) ⟨0, by simp [hR]⟩) ?_
  rintro m s ⟨i, him, hinv, rfl⟩
  by_cases hi' : i < l.length
  case neg =>
    rw [List.drop_eq_nil_of_le (by omega)] at hinv
    simp only [ixF] at hinv
    simp (maxSteps := 4000000) [hd0, hfr, hout, hcl, hcd, delA_none, ha, ha_n, ha_d, ha_m, hsub, eq_false (show ¬ (i : Int) < l.length by omega), hinv.symm]
  rw [List.drop_eq_getElem_cons hi'] at hinv
  simp only [ixF] at hinv
  have w1 : IntKind.i64.wrap ((i : Int) + 1) = i + 1 := w64 (by omega) (by omega)
  by_cases he : l[i].key = k
  · rw [if_pos (by simp [he])] at hinv
    simp (maxSteps := 4000000) [hd0, hfr, hout, hcl, hcd, delA_none, ha, ha_n, ha_d, ha_m, hsub, eq_true (show (i : Int) < l.length by omega), hi', DRow.enc, eq_true he, hinv.symm]
  · rw [if_neg (by simp [he])] at hinv
    simp (maxSteps := 4000000) [hd0, hfr, hout, hcl, hcd, delA_none, ha, ha_n, ha_d, ha_m, hsub, eq_true (show (i : Int) < l.length by omega), hi', DRow.enc, eq_false he, w1]
    refine LK.intro (m - 1) [0, 1, 5] [] (by omega) (by decide) (by simp (maxSteps := 4000000) [hd0, hfr, hout, hcl, hcd, delA_none, ha, ha_n, ha_d, ha_m]) ⟨i + 1, by omega, hinv, by simp⟩
theorem openF_cons {c : List DVersion} {id : Int} (h : openF c id = true) : ∃ v l, c = v :: l ∧ v.txn = id ∧ v.at_ = 0 := by
  cases c with
  | nil => simp [openF] at h
  | cons v l =>
    simp only [openF, Bool.and_eq_true, decide_eq_true_eq] at h
    exact ⟨v, l, rfl, h.2, h.1⟩
set_option maxHeartbeats 8000000 in
theorem spec_l6Roll (H : HH) {r y} {ix s : Nat} {x : DEngine} (hl : x.le 1048576) (hix : ix < x.txns.length) (hown : OwnI x.rows x.txns[ix].id_ x.txns[ix].undos) (hs : s ≤ x.txns[ix].undos.length) (hy : y = rollF x ix s) (hr0 : r.1 ≠ 0) (hrc : ∀ q, CleanH (hit [(r, q)]) H) :
    PUpdW Tryz.prog 55 [.c (.pt r [] 4 0 0), I ix, I s] ((r, .own 4 [x.enc]) :: H) (.t []) ((r, .own 4 [y.enc]) :: H) r (rollW ix) := by
  have hl0 := hl
  obtain ⟨⟨b1, b1p⟩, b2, b2p⟩ := hl
  have hy' := hy.trans (rollF_at hix)
  have hub : x.txns[ix].undos.length ≤ 1048576 := b1p _ (List.getElem_mem hix)
  clear hy
  refine PUpdW.of [0, 2, 6, 7, 8, 9, 24, 47] Tryz.func55 rfl (by simp [Tryz.f55]) ?_
  intro d hd0 hfr0 hcl0 hout0
  have hrn : ∀ n, ¬ r = (d, n) := fun n h => by have := hfr0 n; rw [look_cons, if_pos h] at this; cases this
  have hrm : ∀ n, ¬ (d, n) = r := fun n h => hrn n h.symm
  have hrd : ¬ r.1 = d := fun h => hrn r.2 (by rw [← h])
  have hfr : ∀ n, Px.look H (d, n) = none := fun n => by have := hfr0 n; rwa [look_cons, if_neg (hrn n)] at this
  have hcl : CleanH (atD d) H := ((CleanH_cons _ _ _ _).1 hcl0).2
  have hout : outH d H = H := by have := hout0; rw [outH_cons, if_neg hrd] at this; exact (List.cons.inj this).2
  have hcd : ∀ n q, CleanH (hit [((d, n), q)]) H := fun n q => hcl.at
  clear hfr0 hcl0 hout0
  simp (maxSteps := 4000000) [hd0, hfr, hout, hcl, hcd, delA_none, hrn, hrm, hrd, hr0, hrc, Tryz.f55, DEngine.enc, hix]
  obtain ⟨t, ht⟩ : ∃ t, t = x.txns[ix] := ⟨_, rfl⟩
  rw [← ht] at hown hs hy' hub
  have hte : t.enc = [.v (.int .i64 t.id_), .v (.int .i64 t.at_), .v (.int .i64 t.state), .v (.int .i64 t.done), .own 4 (t.undos.map DUndo.enc)] := rfl
  have w0 : IntKind.i64.wrap ((t.undos.length : Int) - 1) = t.undos.length - 1 := w64 (by omega) (by omega)
  simp (maxSteps := 4000000) [hd0, hfr, hout, hcl, hcd, delA_none, hrn, hrm, hrd, hr0, hrc, hix, ← ht, hte, w0]
  obtain ⟨I0, hI⟩ : ∃ I0 : Nat → St → Prop, ∀ m st, I0 m st ↔ ∃ n : Nat, n ≤ t.undos.length ∧ n = s + m ∧ ∃ lg, (∀ a b q, ((a, b), q) ∈ lg → (a, b) = r ∧ q.head? = some (0, 3)) ∧ st = ⟨[(0, .c (.pt r [] 4 0 0)), (2, I s), (6, .c (.pt r [(0, 2)] 5 ix 0)), (7, I ((n : Int) - 1))],
      (r, .own 4 [[.v (.int .i64 x.next), .v (.int .i64 x.clock), .own 5 (x.txns.map DTxn.enc), .own 2 ((rollR x.rows (t.undos.drop n).reverse).map DRow.enc)]]) :: H, lg⟩ := ⟨_, fun _ _ => Iff.rfl⟩
  refine LoopK.intro I0 (t.undos.length - s + 1) (LK.intro (t.undos.length - s) [0, 2, 6, 7] [] (by omega) (by decide) (by simp (maxSteps := 4000000) [hd0, hfr, hout, hcl, hcd, delA_none, hrn, hrm, hrd, hr0, hrc]) ((hI _ _).2 ⟨t.undos.length, by omega, by omega, [], by simp, by simp [rollR]⟩)) ?_
  rintro m st hst
  obtain ⟨n, hn1, hn2, lg, hlg, rfl⟩ := (hI _ _).1 hst
  clear hst
  by_cases hns : s < n
  · obtain ⟨k, rfl⟩ : ∃ k, n = k + 1 := ⟨n - 1, by omega⟩
    have hk : k < t.undos.length := by omega
    have hO := roll_own hown (k + 1) hn1
    obtain ⟨hle1, hle2⟩ := rollR_le (us := (t.undos.drop (k + 1)).reverse) b2 b2p
    have hdr := drop_rev hk
    have hnext : rollR x.rows (t.undos.drop k).reverse = undoR (rollR x.rows (t.undos.drop (k + 1)).reverse) t.undos[k] := by rw [hdr, rollR_append]
    generalize rollR x.rows (t.undos.drop (k + 1)).reverse = R at *
    have hmem : t.undos[k] ∈ t.undos.take (k + 1) := by rw [List.take_succ_eq_append_getElem hk]; exact List.mem_append.2 (.inr (List.mem_singleton.2 rfl))
    obtain ⟨hso, hke, hall, -⟩ := hO
    obtain ⟨huk, huf, huo⟩ := hall _ hmem
    have e1 : ((k + 1 : Nat) : Int) - 1 = k := by omega
    have w3 : IntKind.i64.wrap ((k : Int) - 1) = k - 1 := w64 (by omega) (by omega)
    obtain ⟨hp, hpk⟩ := foundR_key huf
    have hcR : chainR R t.undos[k].key = R[rowP R t.undos[k].key].chain := by
      unfold chainR; rw [if_pos huf, List.getD_eq_getElem?_getD, List.getElem?_eq_getElem hp]; rfl
    have hUn : undoR R t.undos[k] = outF t.undos[k].key (undoC t.undos[k] (chainR R t.undos[k].key)) R := setC_outF hso huf
    have hcl1 : (chainR R t.undos[k].key).length ≤ 1048576 := by rw [hcR]; exact hle2 _ (List.getElem_mem hp)
    have hrow := fun H' (h : arrAt H' r [] = some (4, [[.v (.int .i64 x.next), .v (.int .i64 x.clock), .own 5 (x.txns.map DTxn.enc), .own 2 (R.map DRow.enc)]])) => spec_l6Row_o H' (k := t.undos[k].key) hle1 h
    rw [ixF_rowP hso huf] at hrow
    have hset := fun (H' : HH) (c : List DVersion) (hc : c.length ≤ 1048576) h1 => spec_l6Set H' (r := r) (x := ⟨x.next, x.clock, x.txns, R⟩) (k := t.undos[k].key) (c := c) ⟨⟨b1, b1p⟩, hle1, hle2⟩ hso hc rfl hr0 h1
    obtain ⟨v, l, hvl, hv1, hv2⟩ := openF_cons huo
    rw [hvl] at hcR hUn hcl1
    generalize rowP R t.undos[k].key = p at *
    rw [e1]
    simp (maxSteps := 4000000) [hd0, hfr, hout, hcl, hcd, delA_none, hrn, hrm, hrd, hr0, hrc, hix, ← ht, hte, eq_true (show (s : Int) ≤ (k : Int) by omega), hk, DUndo.enc]
    refine DrawK.intro 12 [0, 2, 6, 7, 8, 45] rfl (by kernel_rfl) (by decide) ?_
    simp (maxSteps := 4000000) [hd0, hfr, hout, hcl, hcd, delA_none, hrn, hrm, hrd, hr0, hrc]
    refine ⟨_, hrow _ (by simp (maxSteps := 4000000) [hd0, hfr, hout, hcl, hcd, delA_none, hrn, hrm, hrd, hr0, hrc]), ?_⟩
    simp (maxSteps := 4000000) [hd0, hfr, hout, hcl, hcd, delA_none, hrn, hrm, hrd, hr0, hrc, hp, DRow.enc, ← hcR]
    refine ⟨_, spec_l5Copy _ (l := v :: l) hcl1 rfl (by simp (maxSteps := 4000000) [hd0, hfr, hout, hcl, hcd, delA_none, hrn, hrm, hrd, hr0, hrc, hp, DRow.enc, ← hcR]), ?_⟩
    simp (maxSteps := 4000000) [hd0, hfr, hout, hcl, hcd, delA_none, hrn, hrm, hrd, hr0, hrc]
    have hsc := fun (c : List DVersion) (hc : c.length ≤ 1048576) => (hset (((d, 8), .own 4 [[.v (.int .i64 t.undos[k].key), .v (.bool t.undos[k].had), .v (.bool t.undos[k].gone), .v (.int .i64 t.undos[k].value)]]) :: H) c hc (fun q => by simp (maxSteps := 4000000) [hd0, hfr, hout, hcl, hcd, delA_none, hrn, hrm, hrd, hr0, hrc, hit, hit1])).swap (hrm 8)
    simp only [DEngine.enc] at hsc
    clear hset
    have hnl : ∀ lg', (∀ e ∈ lg', e.1 = r ∧ e.2.head? = some (0, 3)) → ∀ (a b : Nat) (q : Path), ((a, b), q) ∈ lg' ++ lg → (a, b) = r ∧ q.head? = some (0, 3) := fun lg' hlg' a b q he => by
      rcases List.mem_append.1 he with h | h
      · exact hlg' _ h
      · exact hlg _ _ _ h
    refine ⟨fun hh => ?_, fun hh => ?_⟩
    · have hU : undoC t.undos[k] (v :: l) = ⟨t.id_, 0, t.undos[k].gone, t.undos[k].value⟩ :: l := by unfold undoC; rw [if_pos hh, ← hv1, ← hv2]
      rw [hU] at hUn
      have hs1 := hsc (⟨t.id_, 0, t.undos[k].gone, t.undos[k].value⟩ :: l) (by simpa using hcl1)
      refine DrawK.intro 11 [0, 2, 6, 7, 8, 9, 57, 58] rfl (by kernel_rfl) (by decide) ?_
      simp (maxSteps := 4000000) [hd0, hfr, hout, hcl, hcd, delA_none, hrn, hrm, hrd, hr0, hrc, DVersion.enc, hh, hix, ← ht, hte]
      rw [hh] at hs1
      refine hs1.takeCKo' (i := 2) (r := (d, 9)) (i0 := 0) (n := l.length + 1) (els := [.v (.int .i64 t.id_), .v (.int .i64 0), .v (.bool t.undos[k].gone), .v (.int .i64 t.undos[k].value)] :: l.map DVersion.enc) (by simp [cutD, DVersion.enc]) (by simp (maxSteps := 4000000) [hd0, hfr, hout, hcl, hcd, delA_none, hrn, hrm, hrd, hr0, hrc]) hd0 rfl rfl hrd (by simp (maxSteps := 4000000) [hd0, hfr, hout, hcl, hcd, delA_none, hrn, hrm, hrd, hr0, hrc]) (by simp) (by simp (maxSteps := 4000000) [hd0, hfr, hout, hcl, hcd, delA_none, hrn, hrm, hrd, hr0, hrc, hit, hit1]) (by simp (maxSteps := 4000000) [hd0, hfr, hout, hcl, hcd, delA_none, hrn, hrm, hrd, hr0, hrc, hit, hit1]) (by simp (maxSteps := 4000000) [hd0, hfr, hout, hcl, hcd, delA_none, hrn, hrm, hrd, hr0, hrc, hit, hit1]) (headA fun q => by simp (maxSteps := 4000000) [hd0, hfr, hout, hcl, hcd, delA_none, hrn, hrm, hrd, hr0, hrc, hit, hit1]) (headA fun q => by simp (maxSteps := 4000000) [hd0, hfr, hout, hcl, hcd, delA_none, hrn, hrm, hrd, hr0, hrc, hit, hit1]) (fun lg' hlg' => ?_)
      simp (maxSteps := 4000000) [hd0, hfr, hout, hcl, hcd, delA_none, hrn, hrm, hrd, hr0, hrc, w3]
      refine LK.intro (m - 1) [0, 2, 6, 7] [8] (by omega) (by decide) (by simp (maxSteps := 4000000) [hd0, hfr, hout, hcl, hcd, delA_none, hrn, hrm, hrd, hr0, hrc, hit, hit1]) ((hI _ _).2 ⟨k, by omega, by omega, lg' ++ lg, hnl lg' hlg', ?_⟩)
      rw [hnext, hUn]
      simp (maxSteps := 4000000) [hd0, hfr, hout, hcl, hcd, delA_none, hrn, hrm, hrd, hr0, hrc]
    · have hU : undoC t.undos[k] (v :: l) = l := by unfold undoC; rw [if_neg (by simp [hh])]; rfl
      rw [hU] at hUn
      have hs1 := hsc l (by simp at hcl1; omega)
      simp (maxSteps := 4000000) [hd0, hfr, hout, hcl, hcd, delA_none, hrn, hrm, hrd, hr0, hrc, hh]
      rw [hh] at hs1
      refine ⟨by omega, ?_⟩
      refine hs1.takeCKo' (i := 2) (r := (d, 9)) (i0 := 1) (n := l.length) (els := v.enc :: l.map DVersion.enc) (by simp [cutD]) (by simp (maxSteps := 4000000) [hd0, hfr, hout, hcl, hcd, delA_none, hrn, hrm, hrd, hr0, hrc]) hd0 rfl rfl hrd (by simp (maxSteps := 4000000) [hd0, hfr, hout, hcl, hcd, delA_none, hrn, hrm, hrd, hr0, hrc]) (by simp; omega) (by simp (maxSteps := 4000000) [hd0, hfr, hout, hcl, hcd, delA_none, hrn, hrm, hrd, hr0, hrc, hit, hit1]) (by simp (maxSteps := 4000000) [hd0, hfr, hout, hcl, hcd, delA_none, hrn, hrm, hrd, hr0, hrc, hit, hit1]) (by simp (maxSteps := 4000000) [hd0, hfr, hout, hcl, hcd, delA_none, hrn, hrm, hrd, hr0, hrc, hit, hit1]) (headA fun q => by simp (maxSteps := 4000000) [hd0, hfr, hout, hcl, hcd, delA_none, hrn, hrm, hrd, hr0, hrc, hit, hit1]) (headA fun q => by simp (maxSteps := 4000000) [hd0, hfr, hout, hcl, hcd, delA_none, hrn, hrm, hrd, hr0, hrc, hit, hit1]) (fun lg' hlg' => ?_)
      simp (maxSteps := 4000000) [hd0, hfr, hout, hcl, hcd, delA_none, hrn, hrm, hrd, hr0, hrc, w3]
      refine LK.intro (m - 1) [0, 2, 6, 7] [8] (by omega) (by decide) (by simp (maxSteps := 4000000) [hd0, hfr, hout, hcl, hcd, delA_none, hrn, hrm, hrd, hr0, hrc, hit, hit1]) ((hI _ _).2 ⟨k, by omega, by omega, lg' ++ lg, hnl lg' hlg', ?_⟩)
      rw [hnext, hUn]
      simp (maxSteps := 4000000) [hd0, hfr, hout, hcl, hcd, delA_none, hrn, hrm, hrd, hr0, hrc]
  · have hnn : n = s := by omega
    subst hnn
    have hset : (x.txns.map DTxn.enc).set ix [.v (.int .i64 t.id_), .v (.int .i64 t.at_), .v (.int .i64 t.state), .v (.int .i64 t.done), .own 4 (cutD 0 n (t.undos.map DUndo.enc))] = (x.txns.set ix { t with undos := t.undos.take n }).map DTxn.enc := by
      rw [List.map_set]; simp [cutD, DTxn.enc]
    simp (maxSteps := 4000000) [hd0, hfr, hout, hcl, hcd, delA_none, hrn, hrm, hrd, hr0, hrc, eq_false (show ¬ (n : Int) ≤ (n : Int) - 1 by omega), hix, ← ht, hte]
    rw [hset]
    refine ⟨hs, by simp, ?_, ?_⟩
    · rw [hy']; exact ⟨rfl, rfl, rfl, rfl⟩
    · rintro a b q (⟨h, rfl⟩ | h)
      · exact ⟨h, .inl rfl⟩
      · exact ⟨(hlg _ _ _ h).1, .inr (hlg _ _ _ h).2⟩
end Go.Proofs.YtnlbjfdmjlnlgaaGreat


namespace Go.Proofs.YtnlbjfdmjlnlgaaGreat
open Go Go.Px Go.RowKit Go.Proofs
set_option linter.unnecessarySimpa false
set_option linter.unusedVariables false
set_option linter.unusedSimpArgs false
set_option maxRecDepth 100000
set_option maxHeartbeats 1000000
attribute [-simp] Int.not_le Int.not_lt
theorem resF_bad {x y : DEngine} {v c : Int} (h : engF x ≠ 0) : resF x y v c = badE (engF x) := by unfold resF; rw [if_pos h]
theorem resF_code {x y : DEngine} {v c : Int} (h : engF x = 0) (hc : c ≠ 0) : resF x y v c = badE c := by unfold resF; rw [if_neg (by simp [h]), if_pos hc]
theorem resF_ok {x y : DEngine} {v : Int} (h : engF x = 0) : resF x y v 0 = ⟨0, v, y⟩ := by unfold resF; rw [if_neg (by simp [h])]; simp
set_option maxHeartbeats 8000000 in
theorem spec_RollTo (H : HH) {r1 q1 r2 q2} {x : DEngine} {id sv : Int} (hl : x.le 1048576) (a1 : arrAt H r1 q1 = some (5, x.txns.map DTxn.enc)) (a2 : arrAt H r2 q2 = some (2, x.rows.map DRow.enc)) :
    PFun Tryz.prog 21 [.a (eRow x r1 q1 r2 q2), I id, I sv] H (.a (rollToR x id sv).enc) := by
  have hl2 := hl
  obtain ⟨⟨b1, b1p⟩, b2, b2p⟩ := hl2
  obtain ⟨R, hR⟩ : ∃ R, R = rollToR x id sv := ⟨_, rfl⟩
  rw [← hR]
  unfold rollToR at hR
  refine PFun.of [1, 2, 3, 6, 7, 8, 9, 16, 28] Tryz.func21 rfl (by simp [Tryz.f21]) ?_
  intro d hd0 hfr hcl hout
  have hcd : ∀ n q, CleanH (hit [((d, n), q)]) H := fun n q => hcl.at
  have a1_n : ∀ n, ¬ (d, n) = r1 := fun n => nm_ne (ne_of_arr hfr a1)
  have a1_d : ¬ r1.1 = d := ne_of_arr hfr a1
  have a1_m : ∀ n, ¬ r1 = (d, n) := fun n => nm_ne' (ne_of_arr hfr a1)
  have a2_n : ∀ n, ¬ (d, n) = r2 := fun n => nm_ne (ne_of_arr hfr a2)
  have a2_d : ¬ r2.1 = d := ne_of_arr hfr a2
  have a2_m : ∀ n, ¬ r2 = (d, n) := fun n => nm_ne' (ne_of_arr hfr a2)
  simp (maxSteps := 4000000) [hd0, hfr, hout, hcl, hcd, delA_none, a1, a1_n, a1_d, a1_m, a2, a2_n, a2_d, a2_m, Tryz.f21, eRow]
  refine (spec_l6Asked _ (x := x) (r1 := r1) (q1 := q1) (r2 := r2) (q2 := q2) hl (by simp (maxSteps := 4000000) [hd0, hfr, hout, hcl, hcd, delA_none, a1, a1_n, a1_d, a1_m, a2, a2_n, a2_d, a2_m, eRow]) (by simp (maxSteps := 4000000) [hd0, hfr, hout, hcl, hcd, delA_none, a1, a1_n, a1_d, a1_m, a2, a2_n, a2_d, a2_m]) (by simp (maxSteps := 4000000) [hd0, hfr, hout, hcl, hcd, delA_none, a1, a1_n, a1_d, a1_m, a2, a2_n, a2_d, a2_m])).useCK ?_
  by_cases e0 : engF x = 0
  case neg =>
    rw [resF_bad e0] at hR
    rw [askF_bad e0]
    simp (maxSteps := 4000000) [hd0, hfr, hout, hcl, hcd, delA_none, a1, a1_n, a1_d, a1_m, a2, a2_n, a2_d, a2_m, eq_false e0]
    refine (spec_l6Bad _).useCK ?_
    simp (maxSteps := 4000000) [hd0, hfr, hout, hcl, hcd, delA_none, a1, a1_n, a1_d, a1_m, a2, a2_n, a2_d, a2_m, badE, DEngineResult.enc, hR]
  rcases ixF_some (p := fun t : DTxn => decide (t.id_ = id)) (l := x.txns) (n := 0) with ⟨h2, h3⟩ | ⟨i, hi, h2, h3⟩
  · have h3' : ∀ t ∈ x.txns, t.id_ ≠ id := fun t ht => by simpa using h3 t ht
    rw [rolR_none h3', resF_code e0 (by simp)] at hR
    rw [askF_none e0 h3']
    simp (maxSteps := 4000000) [hd0, hfr, hout, hcl, hcd, delA_none, a1, a1_n, a1_d, a1_m, a2, a2_n, a2_d, a2_m]
    refine (spec_l6Bad _).useCK ?_
    simp (maxSteps := 4000000) [hd0, hfr, hout, hcl, hcd, delA_none, a1, a1_n, a1_d, a1_m, a2, a2_n, a2_d, a2_m, badE, DEngineResult.enc, hR]
  have h2' : ixF (fun t : DTxn => decide (t.id_ = id)) 0 x.txns = i := by rw [h2]; omega
  have hid : x.txns[i].id_ = id := by simpa using h3
  rw [rolR_some hi h2'] at hR
  rw [askF_some e0 hi h2']
  by_cases h5 : x.txns[i].state = 1
  case neg =>
    rw [if_pos h5, resF_code e0 (by simp)] at hR
    rw [if_pos h5]
    simp (maxSteps := 4000000) [hd0, hfr, hout, hcl, hcd, delA_none, a1, a1_n, a1_d, a1_m, a2, a2_n, a2_d, a2_m]
    refine (spec_l6Bad _).useCK ?_
    simp (maxSteps := 4000000) [hd0, hfr, hout, hcl, hcd, delA_none, a1, a1_n, a1_d, a1_m, a2, a2_n, a2_d, a2_m, badE, DEngineResult.enc, hR]
  have h5' : ¬ x.txns[i].state ≠ 1 := fun h => h h5
  rw [if_neg h5'] at hR
  rw [if_neg h5']
  unfold roG at hR
  simp (maxSteps := 4000000) [hd0, hfr, hout, hcl, hcd, delA_none, a1, a1_n, a1_d, a1_m, a2, a2_n, a2_d, a2_m, hi, DTxn.enc]
  refine (spec_l1In _ _ _ _).useCK ?_
  by_cases hw : inR sv 0 x.txns[i].undos.length = true
  case neg =>
    rw [if_neg hw, resF_code e0 (by simp)] at hR
    simp only [Bool.not_eq_true] at hw
    simp (maxSteps := 4000000) [hd0, hfr, hout, hcl, hcd, delA_none, a1, a1_n, a1_d, a1_m, a2, a2_n, a2_d, a2_m, hw]
    refine (spec_l6Bad _).useCK ?_
    simp (maxSteps := 4000000) [hd0, hfr, hout, hcl, hcd, delA_none, a1, a1_n, a1_d, a1_m, a2, a2_n, a2_d, a2_m, badE, DEngineResult.enc, hR]
  rw [if_pos hw] at hR
  obtain ⟨s, rfl⟩ : ∃ s : Nat, sv = s := ⟨sv.toNat, by simp [inR] at hw; omega⟩
  simp only [Int.toNat_natCast] at hR
  have hsl : s ≤ x.txns[i].undos.length := by simp [inR] at hw; omega
  rw [resF_ok e0] at hR
  have hro := fun H1 r h0 h1 => spec_l6Roll H1 (r := r) (ix := i) (s := s) (x := x) hl hi (OwnI_of e0 (List.getElem_mem hi)) hsl rfl h0 h1
  rw [rollF_at hi] at hro
  simp only [DEngine.enc] at hro
  simp (maxSteps := 4000000) [hd0, hfr, hout, hcl, hcd, delA_none, a1, a1_n, a1_d, a1_m, a2, a2_n, a2_d, a2_m, hw]
  refine (spec_l6Copy _ (x := x) (r1 := r1) (q1 := q1) (r2 := r2) (q2 := q2) hl (by simp (maxSteps := 4000000) [hd0, hfr, hout, hcl, hcd, delA_none, a1, a1_n, a1_d, a1_m, a2, a2_n, a2_d, a2_m]) (by simp (maxSteps := 4000000) [hd0, hfr, hout, hcl, hcd, delA_none, a1, a1_n, a1_d, a1_m, a2, a2_n, a2_d, a2_m])).useCK ?_
  simp (maxSteps := 4000000) [hd0, hfr, hout, hcl, hcd, delA_none, a1, a1_n, a1_d, a1_m, a2, a2_n, a2_d, a2_m, hi, DTxn.enc, DEngine.enc]
  refine (hro _ (d, 9) hd0 (fun q => by simp (maxSteps := 4000000) [hd0, hfr, hout, hcl, hcd, delA_none, a1, a1_n, a1_d, a1_m, a2, a2_n, a2_d, a2_m, hit, hit1])).useCK rfl (rollA (by simp (maxSteps := 4000000) [hd0, hfr, hout, hcl, hcd, delA_none, a1, a1_n, a1_d, a1_m, a2, a2_n, a2_d, a2_m, hit, hit1]) (fun q => by simp (maxSteps := 4000000) [hd0, hfr, hout, hcl, hcd, delA_none, a1, a1_n, a1_d, a1_m, a2, a2_n, a2_d, a2_m, hit, hit1])) (rollA (by simp (maxSteps := 4000000) [hd0, hfr, hout, hcl, hcd, delA_none, a1, a1_n, a1_d, a1_m, a2, a2_n, a2_d, a2_m, hit, hit1]) (fun q => by simp (maxSteps := 4000000) [hd0, hfr, hout, hcl, hcd, delA_none, a1, a1_n, a1_d, a1_m, a2, a2_n, a2_d, a2_m, hit, hit1])) ?_
  simp (maxSteps := 4000000) [hd0, hfr, hout, hcl, hcd, delA_none, a1, a1_n, a1_d, a1_m, a2, a2_n, a2_d, a2_m, hi, DTxn.enc]
  rw [hR]
  simp [DEngineResult.enc, DEngine.enc, List.map_set, DTxn.enc]
theorem rolG_le {x : DEngine} {id : Int} {g : Nat → DTxn → Int × Int × DEngine} (h : x.le 1048576) (hg : ∀ i (hi : i < x.txns.length), (g i x.txns[i]).2.2.le 1048576) : (rolR x id g).2.2.le 1048576 := by
  unfold rolR
  simp only
  split
  · exact h
  · rename_i hn
    split
    · exact h
    · obtain ⟨i, hi, h2⟩ : ∃ i, ∃ hi : i < x.txns.length, ixF (fun t : DTxn => decide (t.id_ = id)) 0 x.txns = i := by
        rcases ixF_some (p := fun t : DTxn => decide (t.id_ = id)) (l := x.txns) (n := 0) with ⟨h2, h3⟩ | ⟨i, hi, h2, h3⟩
        · omega
        · exact ⟨i, hi, by rw [h2]; omega⟩
      rw [h2]
      simp only [Int.toNat_natCast, List.getD_eq_getElem?_getD, List.getElem?_eq_getElem hi, Option.getD_some]
      exact hg i hi
theorem rolE_le {x : DEngine} {i : Nat} {t : DTxn} {us : List DUndo} (h : x.le 1048576) (ht : t.undos.length ≤ 1048576) : DEngine.le 1048576 { x with txns := x.txns.set i t, rows := rollR x.rows us } := by
  obtain ⟨⟨b1, b1p⟩, b2, b2p⟩ := h
  obtain ⟨k1, k2⟩ := rollR_le (us := us) b2 b2p
  refine ⟨⟨by simpa using b1, fun y hy => ?_⟩, k1, k2⟩
  rcases List.mem_or_eq_of_mem_set hy with h | rfl
  · exact b1p y h
  · exact ht
theorem resF_le {x y : DEngine} {v c : Int} (h : y.le 1048576) : (resF x y v c).le 1048576 := by
  unfold resF
  split
  · exact badE_le
  · split
    · exact badE_le
    · exact h
theorem rollToR_le {x : DEngine} {id s : Int} (h : x.le 1048576) : (rollToR x id s).le 1048576 :=
  resF_le (rolG_le h fun i hi => by
    unfold roG
    split
    · have := h.1.2 _ (List.getElem_mem hi)
      have h2 : x.txns[i].undos.length ≤ 1048576 := this
      exact rolE_le h (by simp; omega)
    · exact h)
end Go.Proofs.YtnlbjfdmjlnlgaaGreat


namespace Go.Proofs.YtnlbjfdmjlnlgaaGreat
open Go Go.Px Go.RowKit Go.Proofs
set_option linter.unnecessarySimpa false
set_option linter.unusedVariables false
set_option linter.unusedSimpArgs false
set_option maxRecDepth 100000
set_option maxHeartbeats 1000000
attribute [-simp] Int.not_le Int.not_lt
theorem laws_FnExactRollTo (H : HH) {r0_2 q0_2} {r0_3 q0_3} {x0 : DEngine} {x1 : Int} {x2 : Int} (w0 : x0.wf) (w1 : (Lit.int .i64 x1).wf = true) (w2 : (Lit.int .i64 x2).wf = true) (hm0 : x0.le 9223372036854775807)
    (a0_2 : arrAt H r0_2 q0_2 = some (5, x0.txns.map DTxn.enc)) (a0_3 : arrAt H r0_3 q0_3 = some (2, x0.rows.map DRow.enc)) :
    PFun Tryz.prog 4 [.a [.v (.int .i64 x0.next), .v (.int .i64 x0.clock), .sl r0_2 q0_2 5 0 x0.txns.length, .sl r0_3 q0_3 2 0 x0.rows.length], .c (.v (.int .i64 x1)), .c (.v (.int .i64 x2))] H (B true) := by
  refine PFun.of [1, 2, 3, 6, 7, 8, 9, 10, 11, 12, 13, 14, 19, 34, 39, 50, 58, 61, 70, 75, 78] Tryz.func4 rfl (by simp [Tryz.f4]) ?_
  intro d hd0 hfr hcl hout
  have hcd : ∀ n q, CleanH (hit [((d, n), q)]) H := fun n q => hcl.at
  have a0_2_n : ∀ n, ¬ (d, n) = r0_2 := fun n => nm_ne (ne_of_arr hfr a0_2)
  have a0_2_d : ¬ r0_2.1 = d := ne_of_arr hfr a0_2
  have a0_2_m : ∀ n, ¬ r0_2 = (d, n) := fun n => nm_ne' (ne_of_arr hfr a0_2)
  have a0_3_n : ∀ n, ¬ (d, n) = r0_3 := fun n => nm_ne (ne_of_arr hfr a0_3)
  have a0_3_d : ¬ r0_3.1 = d := ne_of_arr hfr a0_3
  have a0_3_m : ∀ n, ¬ r0_3 = (d, n) := fun n => nm_ne' (ne_of_arr hfr a0_3)
  simp (maxSteps := 4000000) [hd0, hfr, hout, hcl, hcd, delA_none, a0_2, a0_2_n, a0_2_d, a0_2_m, a0_3, a0_3_n, a0_3_d, a0_3_m, Tryz.f4]
  have hok0 := DEngine.ok.2 hm0
  refine (laws_szEngine _ (row := x0.enc) hok0 (by simp only [DEngine.enc, Refs_v, Refs_own, Refs_nil, List.length_map]; exact ⟨_, rfl, ⟨_, rfl, ⟨_, _, _, rfl, by simp (maxSteps := 4000000) [hd0, hfr, hout, hcl, hcd, delA_none, a0_2, a0_2_n, a0_2_d, a0_2_m, a0_3, a0_3_n, a0_3_d, a0_3_m], ⟨_, _, _, rfl, by simp (maxSteps := 4000000) [hd0, hfr, hout, hcl, hcd, delA_none, a0_2, a0_2_n, a0_2_d, a0_2_m, a0_3, a0_3_n, a0_3_d, a0_3_m], rfl⟩⟩⟩⟩) (by omega) (by omega)).useCK ?_
  by_cases s0 : (cntR x0.enc : Int) ≤ 1048576
  case neg => rw [szV_neg s0]; simp (maxSteps := 4000000) [hd0, hfr, hout, hcl, hcd, delA_none, a0_2, a0_2_n, a0_2_d, a0_2_m, a0_3, a0_3_n, a0_3_d, a0_3_m]
  rw [szV_pos s0]
  obtain ⟨L1, hL1⟩ : ∃ L : Int, L = 1048576 - (cntR x0.enc : Int) := ⟨_, rfl⟩
  rw [← hL1]
  simp (maxSteps := 4000000) [hd0, hfr, hout, hcl, hcd, delA_none, a0_2, a0_2_n, a0_2_d, a0_2_m, a0_3, a0_3_n, a0_3_d, a0_3_m, show ¬ (L1 < 0) by omega]
  have hok02 : okEngine 1048576 x0.enc := okEngine_le hok0 (by omega)
  have hl0 : x0.le 1048576 := DEngine.ok.1 hok02
  have hT0 : ∀ H {r0_2 q0_2} {r0_3 q0_3}, arrAt H r0_2 q0_2 = some (5, x0.txns.map DTxn.enc) → arrAt H r0_3 q0_3 = some (2, x0.rows.map DRow.enc) → PFun Tryz.prog 14 [.a [.v (.int .i64 x0.next), .v (.int .i64 x0.clock), .sl r0_2 q0_2 5 0 x0.txns.length, .sl r0_3 q0_3 2 0 x0.rows.length]] H (.a [.v (.int .i64 x0.next), .v (.int .i64 x0.clock), .own 5 (x0.txns.map DTxn.enc), .own 2 (x0.rows.map DRow.enc)]) := fun H r0_2 q0_2 r0_3 q0_3 h0 h1 =>
    laws_toEngine H (row := x0.enc) hok02 (by simp only [DEngine.enc, Refs_v, Refs_own, Refs_nil, List.length_map]; exact ⟨_, rfl, ⟨_, rfl, ⟨_, _, _, rfl, h0, ⟨_, _, _, rfl, h1, rfl⟩⟩⟩⟩)
  obtain ⟨y, hy⟩ : ∃ y, y = rollToR x0 x1 x2 := ⟨_, rfl⟩
  have hyl : y.le 1048576 := by rw [hy]; exact rollToR_le hl0
  have hSr : ∀ H {r0_2 q0_2} {r0_3 q0_3}, arrAt H r0_2 q0_2 = some (5, x0.txns.map DTxn.enc) → arrAt H r0_3 q0_3 = some (2, x0.rows.map DRow.enc) → PFun Tryz.prog 21 [.a [.v (.int .i64 x0.next), .v (.int .i64 x0.clock), .sl r0_2 q0_2 5 0 x0.txns.length, .sl r0_3 q0_3 2 0 x0.rows.length], .c (.v (.int .i64 x1)), .c (.v (.int .i64 x2))] H (.a y.enc) := fun H r0_2 q0_2 r0_3 q0_3 h0 h1 => by rw [hy]; exact spec_RollTo _ hl0 h0 h1
  have hIr : ∀ H {r0_2 q0_2} {r0_3 q0_3}, arrAt H r0_2 q0_2 = some (5, x0.txns.map DTxn.enc) → arrAt H r0_3 q0_3 = some (2, x0.rows.map DRow.enc) → PFun Tryz.prog 22 [.a [.v (.int .i64 x0.next), .v (.int .i64 x0.clock), .sl r0_2 q0_2 5 0 x0.txns.length, .sl r0_3 q0_3 2 0 x0.rows.length], .c (.v (.int .i64 x1)), .c (.v (.int .i64 x2))] H (.a y.enc) := fun H r0_2 q0_2 r0_3 q0_3 h0 h1 => by rw [hy]; exact impl_RollTo _ hl0 h0 h1
  have hS : ∀ H, PFun Tryz.prog 21 [.a [.v (.int .i64 x0.next), .v (.int .i64 x0.clock), .own 5 (x0.txns.map DTxn.enc), .own 2 (x0.rows.map DRow.enc)], .c (.v (.int .i64 x1)), .c (.v (.int .i64 x2))] H (.a y.enc) := fun H => PFun.root rfl (fun d => y.pure _) (fun d hd hf => by simpa using hSr _ (r0_2 := (d, 2)) (q0_2 := []) (r0_3 := (d, 3)) (q0_3 := []) (by simp) (by simp))
  have hI : ∀ H, PFun Tryz.prog 22 [.a [.v (.int .i64 x0.next), .v (.int .i64 x0.clock), .own 5 (x0.txns.map DTxn.enc), .own 2 (x0.rows.map DRow.enc)], .c (.v (.int .i64 x1)), .c (.v (.int .i64 x2))] H (.a y.enc) := fun H => PFun.root rfl (fun d => y.pure _) (fun d hd hf => by simpa using hIr _ (r0_2 := (d, 2)) (q0_2 := []) (r0_3 := (d, 3)) (q0_3 := []) (by simp) (by simp))
  clear hy
  have hyok : okEngineResult 1048576 y.enc := DEngineResult.ok.2 hyl
  have hylv := okEngineResult_lvsb hyok
  have hE : ∀ H {n m : Nat}, arrAt H (d, n) [] = some (6, [y.enc]) → arrAt H (d, m) [] = some (6, [y.enc]) → PFun Tryz.prog 16 [.a [.v (.int .i64 y.code), .v (.int .i64 y.value), .v (.int .i64 y.engine.next), .v (.int .i64 y.engine.clock), .sl (d, n) [(0, 4)] 5 0 y.engine.txns.length, .sl (d, n) [(0, 5)] 2 0 y.engine.rows.length], .a [.v (.int .i64 y.code), .v (.int .i64 y.value), .v (.int .i64 y.engine.next), .v (.int .i64 y.engine.clock), .sl (d, m) [(0, 4)] 5 0 y.engine.txns.length, .sl (d, m) [(0, 5)] 2 0 y.engine.rows.length]] H (B true) := fun H n m h1 h2 =>
    laws_eqEngineResult H (row := y.enc) hyok (by simp only [DEngineResult.enc, Refs_v, Refs_own, Refs_nil, List.length_map]; exact ⟨_, rfl, ⟨_, rfl, ⟨_, rfl, ⟨_, rfl, ⟨_, _, _, rfl, arrAt_sub h1 (i := 0) (f := 4) rfl rfl, ⟨_, _, _, rfl, arrAt_sub h1 (i := 0) (f := 5) rfl rfl, rfl⟩⟩⟩⟩⟩⟩) (by simp only [DEngineResult.enc, Refs_v, Refs_own, Refs_nil, List.length_map]; exact ⟨_, rfl, ⟨_, rfl, ⟨_, rfl, ⟨_, rfl, ⟨_, _, _, rfl, arrAt_sub h2 (i := 0) (f := 4) rfl rfl, ⟨_, _, _, rfl, arrAt_sub h2 (i := 0) (f := 5) rfl rfl, rfl⟩⟩⟩⟩⟩⟩)
  refine (hT0 _ (by simp (maxSteps := 4000000) [hd0, hfr, hout, hcl, hcd, delA_none, a0_2, a0_2_n, a0_2_d, a0_2_m, a0_3, a0_3_n, a0_3_d, a0_3_m]) (by simp (maxSteps := 4000000) [hd0, hfr, hout, hcl, hcd, delA_none, a0_2, a0_2_n, a0_2_d, a0_2_m, a0_3, a0_3_n, a0_3_d, a0_3_m])).useCK ?_
  simp (maxSteps := 4000000) [hd0, hfr, hout, hcl, hcd, delA_none, a0_2, a0_2_n, a0_2_d, a0_2_m, a0_3, a0_3_n, a0_3_d, a0_3_m]
  refine (hS _).useCK ?_
  simp (maxSteps := 4000000) [hd0, hfr, hout, hcl, hcd, delA_none, a0_2, a0_2_n, a0_2_d, a0_2_m, a0_3, a0_3_n, a0_3_d, a0_3_m, DEngineResult.enc]
  refine (hT0 _ (by simp (maxSteps := 4000000) [hd0, hfr, hout, hcl, hcd, delA_none, a0_2, a0_2_n, a0_2_d, a0_2_m, a0_3, a0_3_n, a0_3_d, a0_3_m]) (by simp (maxSteps := 4000000) [hd0, hfr, hout, hcl, hcd, delA_none, a0_2, a0_2_n, a0_2_d, a0_2_m, a0_3, a0_3_n, a0_3_d, a0_3_m])).useCK ?_
  simp (maxSteps := 4000000) [hd0, hfr, hout, hcl, hcd, delA_none, a0_2, a0_2_n, a0_2_d, a0_2_m, a0_3, a0_3_n, a0_3_d, a0_3_m]
  refine (hIr _ (by simp (maxSteps := 4000000) [hd0, hfr, hout, hcl, hcd, delA_none, a0_2, a0_2_n, a0_2_d, a0_2_m, a0_3, a0_3_n, a0_3_d, a0_3_m]) (by simp (maxSteps := 4000000) [hd0, hfr, hout, hcl, hcd, delA_none, a0_2, a0_2_n, a0_2_d, a0_2_m, a0_3, a0_3_n, a0_3_d, a0_3_m])).useCK ?_
  simp (maxSteps := 4000000) [hd0, hfr, hout, hcl, hcd, delA_none, a0_2, a0_2_n, a0_2_d, a0_2_m, a0_3, a0_3_n, a0_3_d, a0_3_m, DEngineResult.enc]
  refine (hE _ (by simp (maxSteps := 4000000) [hd0, hfr, hout, hcl, hcd, delA_none, a0_2, a0_2_n, a0_2_d, a0_2_m, a0_3, a0_3_n, a0_3_d, a0_3_m, DEngineResult.enc]) (by simp (maxSteps := 4000000) [hd0, hfr, hout, hcl, hcd, delA_none, a0_2, a0_2_n, a0_2_d, a0_2_m, a0_3, a0_3_n, a0_3_d, a0_3_m, DEngineResult.enc])).useCK ?_
  simp (maxSteps := 4000000) [hd0, hfr, hout, hcl, hcd, delA_none, a0_2, a0_2_n, a0_2_d, a0_2_m, a0_3, a0_3_n, a0_3_d, a0_3_m]
  refine DrawK.intro 5 [1, 2, 3, 8, 9, 10, 39] rfl (by kernel_rfl) (by decide) ?_
  simp (maxSteps := 4000000) [hd0, hfr, hout, hcl, hcd, delA_none, a0_2, a0_2_n, a0_2_d, a0_2_m, a0_3, a0_3_n, a0_3_d, a0_3_m]
  refine ⟨_, hT0 _ (by simp (maxSteps := 4000000) [hd0, hfr, hout, hcl, hcd, delA_none, a0_2, a0_2_n, a0_2_d, a0_2_m, a0_3, a0_3_n, a0_3_d, a0_3_m]) (by simp (maxSteps := 4000000) [hd0, hfr, hout, hcl, hcd, delA_none, a0_2, a0_2_n, a0_2_d, a0_2_m, a0_3, a0_3_n, a0_3_d, a0_3_m]), ?_⟩
  simp (maxSteps := 4000000) [hd0, hfr, hout, hcl, hcd, delA_none, a0_2, a0_2_n, a0_2_d, a0_2_m, a0_3, a0_3_n, a0_3_d, a0_3_m]
  repeat (first | (refine And.intro (by kernel_rfl) ?_) | (refine And.intro (by omega) ?_))
  have hEx0 : ∀ H, arrAt H (d, 9) [] = some (4, [x0.enc]) → PFun Tryz.prog 17 [.a [.v (.int .i64 x0.next), .v (.int .i64 x0.clock), .sl (d, 9) [(0, 2)] 5 0 x0.txns.length, .sl (d, 9) [(0, 3)] 2 0 x0.rows.length], .a [.v (.int .i64 x0.next), .v (.int .i64 x0.clock), .own 5 (x0.txns.map DTxn.enc), .own 2 (x0.rows.map DRow.enc)]] H (B true) := fun H h => by
    refine PFun.root rfl (fun d => by simp) (fun d2 hd hf => ?_)
    have n1 : ∀ n, ¬ (d2, n) = (d, 9) := fun n => nm_ne (ne_of_arr hf h)
    have := laws_eqEngine (((d2, 6), .own 5 (x0.txns.map DTxn.enc)) :: ((d2, 7), .own 2 (x0.rows.map DRow.enc)) :: H) (row := x0.enc) (cs := [.v (.int .i64 x0.next), .v (.int .i64 x0.clock), .sl (d, 9) [(0, 2)] 5 0 x0.txns.length, .sl (d, 9) [(0, 3)] 2 0 x0.rows.length]) (cs' := [.v (.int .i64 x0.next), .v (.int .i64 x0.clock), .sl (d2, 6) [] 5 0 x0.txns.length, .sl (d2, 7) [] 2 0 x0.rows.length]) hok02 (by simp only [DEngine.enc, Refs_v, Refs_own, Refs_nil, List.length_map]; exact ⟨_, rfl, ⟨_, rfl, ⟨_, _, _, rfl, (by simp only [arrAt_cons, n1, if_false]; exact arrAt_sub h (i := 0) (f := 2) rfl rfl), ⟨_, _, _, rfl, (by simp only [arrAt_cons, n1, if_false]; exact arrAt_sub h (i := 0) (f := 3) rfl rfl), rfl⟩⟩⟩⟩) (by simp only [DEngine.enc, Refs_v, Refs_own, Refs_nil, List.length_map]; exact ⟨_, rfl, ⟨_, rfl, ⟨_, _, _, rfl, by simp, ⟨_, _, _, rfl, by simp, rfl⟩⟩⟩⟩)
    simpa using this
  refine ⟨_, hEx0 _ (by simp (maxSteps := 4000000) [hd0, hfr, hout, hcl, hcd, delA_none, a0_2, a0_2_n, a0_2_d, a0_2_m, a0_3, a0_3_n, a0_3_d, a0_3_m, DEngine.enc]), ?_⟩
  simp (maxSteps := 4000000) [hd0, hfr, hout, hcl, hcd, delA_none, a0_2, a0_2_n, a0_2_d, a0_2_m, a0_3, a0_3_n, a0_3_d, a0_3_m]
  have hlv0 := okEngine_lvsb hok02
  have hM0 : ∀ H, arrAt H (d, 9) [] = some (4, [x0.enc]) → PUpd Tryz.prog 18 [.a [.v (.int .i64 x0.next), .v (.int .i64 x0.clock), .sl (d, 9) [(0, 2)] 5 0 x0.txns.length, .sl (d, 9) [(0, 3)] 2 0 x0.rows.length], I (1)] H (I (1 + lvS x0.enc)) (setA H (d, 9) [] (.own 4 [mkS (1) x0.enc])) := fun H h => by
    have := laws_markEngine H (r := (d, 9)) (q := []) (z := 4) (i := 0) (f := 0) (rows := [x0.enc]) (pre := []) (seg := x0.enc) (post := []) (k := 1) hok02 (by omega) (by omega) h hd0 (by simp) rfl
    simpa [ldcs, ldc, DEngine.enc] using this
  have hmx0 : mkS (1) x0.enc = [.v (.int .i64 x0.next), .v (.int .i64 x0.clock), .own 5 (mkRs (1) (x0.txns.map DTxn.enc)), .own 2 (mkRs (1 + lvRs (x0.txns.map DTxn.enc)) (x0.rows.map DRow.enc))] := by simp [DEngine.enc, mkS]
  refine (hM0 _ (by simp (maxSteps := 4000000) [hd0, hfr, hout, hcl, hcd, delA_none, a0_2, a0_2_n, a0_2_d, a0_2_m, a0_3, a0_3_n, a0_3_d, a0_3_m, DEngine.enc])).useCK ?_
  simp (maxSteps := 4000000) [hd0, hfr, hout, hcl, hcd, delA_none, a0_2, a0_2_n, a0_2_d, a0_2_m, a0_3, a0_3_n, a0_3_d, a0_3_m, hmx0, show ¬ (1 + (lvS x0.enc : Int) < 0) by omega]
  refine (hE _ (by simp (maxSteps := 4000000) [hd0, hfr, hout, hcl, hcd, delA_none, a0_2, a0_2_n, a0_2_d, a0_2_m, a0_3, a0_3_n, a0_3_d, a0_3_m, DEngineResult.enc]) (by simp (maxSteps := 4000000) [hd0, hfr, hout, hcl, hcd, delA_none, a0_2, a0_2_n, a0_2_d, a0_2_m, a0_3, a0_3_n, a0_3_d, a0_3_m, DEngineResult.enc])).useCK ?_
  simp (maxSteps := 4000000) [hd0, hfr, hout, hcl, hcd, delA_none, a0_2, a0_2_n, a0_2_d, a0_2_m, a0_3, a0_3_n, a0_3_d, a0_3_m]
  have hMR : ∀ H, arrAt H (d, 10) [] = some (6, [y.enc]) → PUpd Tryz.prog 19 [.a [.v (.int .i64 y.code), .v (.int .i64 y.value), .v (.int .i64 y.engine.next), .v (.int .i64 y.engine.clock), .sl (d, 10) [(0, 4)] 5 0 y.engine.txns.length, .sl (d, 10) [(0, 5)] 2 0 y.engine.rows.length], I 1] H (I (1 + lvS y.enc)) (setA H (d, 10) [] (.own 6 [mkS 1 y.enc])) := fun H h => by
    have := laws_markEngineResult H (r := (d, 10)) (q := []) (z := 6) (i := 0) (f := 0) (rows := [y.enc]) (pre := []) (seg := y.enc) (post := []) (k := 1) hyok (by omega) (by omega) h hd0 (by simp) rfl
    simpa [ldcs, ldc, DEngineResult.enc] using this
  have hmy : mkS 1 y.enc = [.v (.int .i64 y.code), .v (.int .i64 y.value), .v (.int .i64 y.engine.next), .v (.int .i64 y.engine.clock), .own 5 (mkRs (1) (y.engine.txns.map DTxn.enc)), .own 2 (mkRs (1 + lvRs (y.engine.txns.map DTxn.enc)) (y.engine.rows.map DRow.enc))] := by simp [DEngineResult.enc, mkS]
  refine (hMR _ (by simp (maxSteps := 4000000) [hd0, hfr, hout, hcl, hcd, delA_none, a0_2, a0_2_n, a0_2_d, a0_2_m, a0_3, a0_3_n, a0_3_d, a0_3_m, DEngineResult.enc])).useCK ?_
  simp (maxSteps := 4000000) [hd0, hfr, hout, hcl, hcd, delA_none, a0_2, a0_2_n, a0_2_d, a0_2_m, a0_3, a0_3_n, a0_3_d, a0_3_m, hmy, mkRs_length]
  have hH : ∀ H, arrAt H (d, 10) [] = some (6, [mkS 1 y.enc]) → PFun Tryz.prog 20 [.a [.v (.int .i64 y.code), .v (.int .i64 y.value), .v (.int .i64 y.engine.next), .v (.int .i64 y.engine.clock), .sl (d, 10) [(0, 4)] 5 0 y.engine.txns.length, .sl (d, 10) [(0, 5)] 2 0 y.engine.rows.length], I 1] H (I (1 + lvS y.enc)) := fun H h =>
    laws_heldEngineResult H (row := y.enc) hyok (by omega) (by omega) (by rw [hmy] at h ⊢; simp only [Refs_v, Refs_own, Refs_nil, List.length_map, mkRs_length]; exact ⟨_, rfl, ⟨_, rfl, ⟨_, rfl, ⟨_, rfl, ⟨_, _, _, rfl, arrAt_sub h (i := 0) (f := 4) rfl rfl, ⟨_, _, _, rfl, arrAt_sub h (i := 0) (f := 5) rfl rfl, rfl⟩⟩⟩⟩⟩⟩)
  refine (hH _ (by simp (maxSteps := 4000000) [hd0, hfr, hout, hcl, hcd, delA_none, a0_2, a0_2_n, a0_2_d, a0_2_m, a0_3, a0_3_n, a0_3_d, a0_3_m, hmy])).useCK ?_
  simp (maxSteps := 4000000) [hd0, hfr, hout, hcl, hcd, delA_none, a0_2, a0_2_n, a0_2_d, a0_2_m, a0_3, a0_3_n, a0_3_d, a0_3_m, hmy, mkRs_length, show ¬ (1 + (lvS y.enc : Int) < 0) by omega]
  refine (hT0 _ (by simp (maxSteps := 4000000) [hd0, hfr, hout, hcl, hcd, delA_none, a0_2, a0_2_n, a0_2_d, a0_2_m, a0_3, a0_3_n, a0_3_d, a0_3_m]) (by simp (maxSteps := 4000000) [hd0, hfr, hout, hcl, hcd, delA_none, a0_2, a0_2_n, a0_2_d, a0_2_m, a0_3, a0_3_n, a0_3_d, a0_3_m])).useCK ?_
  simp (maxSteps := 4000000) [hd0, hfr, hout, hcl, hcd, delA_none, a0_2, a0_2_n, a0_2_d, a0_2_m, a0_3, a0_3_n, a0_3_d, a0_3_m, hmy, mkRs_length]
  refine (hI _).useCK ?_
  simp (maxSteps := 4000000) [hd0, hfr, hout, hcl, hcd, delA_none, a0_2, a0_2_n, a0_2_d, a0_2_m, a0_3, a0_3_n, a0_3_d, a0_3_m, hmy, mkRs_length, DEngineResult.enc]
  refine (hE _ (by simp (maxSteps := 4000000) [hd0, hfr, hout, hcl, hcd, delA_none, a0_2, a0_2_n, a0_2_d, a0_2_m, a0_3, a0_3_n, a0_3_d, a0_3_m, DEngineResult.enc]) (by simp (maxSteps := 4000000) [hd0, hfr, hout, hcl, hcd, delA_none, a0_2, a0_2_n, a0_2_d, a0_2_m, a0_3, a0_3_n, a0_3_d, a0_3_m, DEngineResult.enc])).useCK ?_
  simp (maxSteps := 4000000) [hd0, hfr, hout, hcl, hcd, delA_none, a0_2, a0_2_n, a0_2_d, a0_2_m, a0_3, a0_3_n, a0_3_d, a0_3_m, hmy, mkRs_length, mkRs_length]
  refine (hH _ (by simp (maxSteps := 4000000) [hd0, hfr, hout, hcl, hcd, delA_none, a0_2, a0_2_n, a0_2_d, a0_2_m, a0_3, a0_3_n, a0_3_d, a0_3_m, hmy])).useCK ?_
  simp (maxSteps := 4000000) [hd0, hfr, hout, hcl, hcd, delA_none, a0_2, a0_2_n, a0_2_d, a0_2_m, a0_3, a0_3_n, a0_3_d, a0_3_m, hmy, mkRs_length, show ¬ (1 + (lvS y.enc : Int) < 0) by omega]
  try simp [DEngineResult.enc]
end Go.Proofs.YtnlbjfdmjlnlgaaGreat


namespace Go.Px
set_option linter.unusedSimpArgs false
open Go.RowKit Go.Deep
set_option linter.unusedVariables false
/-- Values that are read as cells, whatever references mean. -/
def In (w : World) (L : List Cell) (V : List Value) : Prop := ∃ F, (∀ R, VRep R w L V F) ∧ ∀ b ∈ F, b < w.heap.size
theorem In.nil {w} : In w [] [] := ⟨[], fun _ => .nil, by simp⟩
theorem In.append {w L V L' V'} (h : In w L V) (h' : In w L' V') : In w (L ++ L') (V ++ V') := by
  obtain ⟨F, h1, h2⟩ := h
  obtain ⟨F', h3, h4⟩ := h'
  exact ⟨F ++ F', fun R => (h1 R).append (h3 R), fun b hb => (List.mem_append.1 hb).elim (h2 b) (h4 b)⟩
theorem In.length {w L V} (h : In w L V) : V.length = L.length := by
  obtain ⟨F, h1, _⟩ := h
  exact (h1 fun _ _ => True).length
theorem look_roots {l : List Cell} : ∀ {k j : Nat} {z els}, l[j]? = some (.own z els) → look (roots k l) (0, k + j) = some (.own z els) := by
  induction l with
  | nil => intro k j z els h; simp at h
  | cons c t ih =>
    intro k j z els h
    cases j with
    | zero => simp at h; subst h; simp [roots, look]
    | succ j =>
      have := ih (k := k + 1) (j := j) (by simpa using h)
      rw [show k + 1 + j = k + (j + 1) by omega] at this
      cases c with
      | own z' els' =>
        simp only [roots, look]
        rw [if_neg (fun e => by have := congrArg Prod.snd e; simp at this)]
        exact this
      | _ => simpa [roots] using this
/-- What came in, as named objects; and the references of each argument. -/
theorem In.open {w : World} {L : List Cell} {V : List Value} (h : In w L V) : ∃ β : Nm → Value, Holds w.heap.size (VP w β (roots 0 L)) w β (roots 0 L) [] ∧
    ∀ L0 L1 L2 V0 V1 V2, L = L0 ++ L1 ++ L2 → V = V0 ++ V1 ++ V2 → In w L0 V0 → In w L1 V1 → noRef L1 = true → VRep (VP w β (roots 0 L)) w (refs L0.length L1) V1 [] := by
  have hlen := h.length
  obtain ⟨F, h1, h2⟩ := h
  refine ⟨fun r => V.getD r.2 undef, roots_holds (h1 _) h2 (fun j v hj => ?_), fun L0 L1 L2 V0 V1 V2 hL hV i0 i1 hn => ?_⟩
  · show V.getD (0 + j) undef = v
    rw [Nat.zero_add, List.getD_eq_getElem?_getD, hj]; rfl
  · have l0 := i0.length
    have l1 := i1.length
    obtain ⟨F1, k1, k2⟩ := i1
    refine refs_rep (R := fun _ _ => True) (R' := fun _ _ => True) hn (k1 _) (fun j v hj => ?_) (fun j z els hj => ?_)
    · show V.getD (L0.length + j) undef = v
      have hlt := (List.getElem?_eq_some_iff.1 hj).1
      rw [List.getD_eq_getElem?_getD, hV, List.append_assoc, List.getElem?_append_right (by omega), List.getElem?_append_left (by omega), ← l0, Nat.add_sub_cancel_left, hj]; rfl
    · have hlt := (List.getElem?_eq_some_iff.1 hj).1
      have : L[L0.length + j]? = some (.own z els) := by
        rw [hL, List.append_assoc, List.getElem?_append_right (by omega), List.getElem?_append_left (by omega), Nat.add_sub_cancel_left, hj]
      have := look_roots (k := 0) this
      rwa [Nat.zero_add] at this
theorem Px.Op.in_ {α : Type} {P : Program} {t : TypeId} {n : Nat} {enc : α → List Cell} {q : α → Prop} (h : Px.Op P t n enc q) {H : Type} {e : TypeId × Value → H} {w : World} {base : Nat} {held : Bool} {fuel : Nat} {cs : List Value} {x : DataW H × List MemPlace}
    (hx : DataW.trod e P w base (fun _ => true) held fuel t cs = some x) (hz : w.noneFrozen x.2) : ∃ v : α, In w (enc v) cs ∧ q v := by
  obtain ⟨v, F, h1, h2, h3, h4⟩ := h H e w base held fuel cs x hx hz
  exact ⟨v, ⟨F, h1, h3⟩, h4⟩
theorem VRep.single {R w c v F} (h : VRep R w [c] [v] F) : Rep R w c v F := by
  cases h with | cons a b => cases b; simpa using a
end Go.Px

