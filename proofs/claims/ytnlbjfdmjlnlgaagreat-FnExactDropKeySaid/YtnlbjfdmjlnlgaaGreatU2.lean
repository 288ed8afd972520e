/- Part 2 of the proof that the law FnExactDropKey answers true at every input: memory as trees, the program walked over them, and what it computes; no condition. -/
import Derived.Laws.BytesString
import Derived.Laws.Cells
import Derived.Orders
import Derived.Deep.Slices
import Derived.ChangeShapes
import Derived.Below
import Derived.Test.YtnlbjfdmjlnlgaaGreatU1
namespace Go.Px
open Go.RowKit
set_option linter.unusedVariables false
set_option linter.unusedSimpArgs false
set_option linter.constructorNameAsVariable false

/-- A reference to a local object becomes the array itself, taken out of the object. -/
def gather1 (d : Nat) (H : HH) : Cell → Option (Cell × HH)
  | .sl r q z i n =>
    if r.1 = d then
      match look H r with
      | some co =>
        match co.get q with
        | some (.own z' els) => if z' = z ∧ i + n = els.length then some (.own z (els.drop i), putH H r (Cell.set .x q co)) else none
        | _ => none
      | none => none
    else some (.sl r q z i n, H)
  | c => some (c, H)
def gatherL (d : Nat) : HH → List Cell → Option (List Cell × HH)
  | H, [] => some ([], H)
  | H, c :: t =>
    match gather1 d H c with
    | some (c', H1) => (match gatherL d H1 t with
      | some (t', H2) => some (c' :: t', H2)
      | none => none)
    | none => none
mutual
def gatherT (d : Nat) : HH → T → Option (T × HH)
  | H, .c x => (gather1 d H x).map fun p => (.c p.1, p.2)
  | H, .a l => (gatherL d H l).map fun p => (.a p.1, p.2)
  | H, .t l => (gatherTs d H l).map fun p => (.t p.1, p.2)
  | H, .u => some (.u, H)
def gatherTs (d : Nat) : HH → List T → Option (List T × HH)
  | H, [] => some ([], H)
  | H, x :: l =>
    match gatherT d H x with
    | some (x', H1) => (match gatherTs d H1 l with
      | some (l', H2) => some (x' :: l', H2)
      | none => none)
    | none => none
end

/-- objects of which parts were taken, beside the objects as they were -/
def SubInv (w : World) (β : Nm → Value) (H0 H : HH) : Prop :=
  ∀ r co, look H r = some co → ∃ co0, look H0 r = some co0 ∧ ∀ q z els, co.get q = some (.own z els) → ∃ els0, co0.get q = some (.own z els0) ∧ els0.length = els.length ∧ hdr w q co (β r) = hdr w q co0 (β r)

theorem SubInv.refl {w β H0 H} (h : ∀ r c, look H r = some c → look H0 r = some c) : SubInv w β H0 H := fun r co hl => ⟨co, h r co hl, fun q z els hg => ⟨els, hg, rfl, rfl⟩⟩

theorem set_get_none {q q' : Path} {c : Cell} (h : q <+: q') : ∀ {c0 z els}, c.get q = some c0 → (Cell.set .x q c).get q' ≠ some (.own z els) := by
  induction q generalizing q' c with
  | nil =>
    intro c0 z els _ hh
    cases q' with
    | nil => simp [Cell.set, Cell.get] at hh
    | cons a t => simp [Cell.set, Cell.get] at hh
  | cons a p ih =>
    intro c0 z els hg hh
    obtain ⟨i, f⟩ := a
    obtain ⟨t, rfl⟩ := h
    obtain ⟨z1, els1, row, c', rfl, hi, hf, hg'⟩ := get_own hg
    have h1 := (List.getElem?_eq_some_iff.1 hi).1
    have h2 := (List.getElem?_eq_some_iff.1 hf).1
    simp only [Cell.set, hi, hf, List.cons_append, Cell.get, List.getElem?_set_self h1, Option.bind_some, List.getElem?_set_self h2] at hh
    exact ih (List.prefix_append p t) hg' hh

theorem set_get_back {c1} : ∀ {P q : Path} {c c0 z els}, c.get P = some c0 → (Cell.set c1 P c).get q = some (.own z els) → ¬ P <+: q → ∃ els', c.get q = some (.own z els') ∧ els.length = els'.length
  | [], q, c, c0, z, els, hP, hq, hn => absurd (List.nil_prefix) hn
  | (i, f) :: p, [], c, c0, z, els, hP, hq, hn => by
    obtain ⟨z', els0, row, c', rfl, hi, hf, hg'⟩ := get_own hP
    simp only [Cell.set, hi, hf, Cell.get, Option.some.injEq, Cell.own.injEq] at hq
    obtain ⟨rfl, rfl⟩ := hq
    exact ⟨els0, rfl, by simp⟩
  | (i, f) :: p, (i2, f2) :: q, c, c0, z, els, hP, hq, hn => by
    obtain ⟨z', els0, row, c', rfl, hi, hf, hg'⟩ := get_own hP
    have h1' := (List.getElem?_eq_some_iff.1 hi).1
    have h2' := (List.getElem?_eq_some_iff.1 hf).1
    simp only [Cell.set, hi, hf] at hq
    by_cases hii : i2 = i
    · subst hii
      by_cases hff : f2 = f
      · subst hff
        simp only [Cell.get, List.getElem?_set_self h1', Option.bind_some, List.getElem?_set_self h2'] at hq
        obtain ⟨els', k1, k2⟩ := set_get_back hg' hq (fun hp => hn ((List.prefix_cons_inj _).2 hp))
        exact ⟨els', by simp only [Cell.get, hi, hf, Option.bind_some]; exact k1, k2⟩
      · simp only [Cell.get, List.getElem?_set_self h1', Option.bind_some, List.getElem?_set_ne (fun e => hff e.symm)] at hq
        exact ⟨els, by simp only [Cell.get, hi, Option.bind_some]; exact hq, rfl⟩
    · simp only [Cell.get, List.getElem?_set_ne (fun e => hii e.symm)] at hq
      exact ⟨els, by simp only [Cell.get]; exact hq, rfl⟩

theorem gather1_rep {d g w β H0 H F c x Fc c' H'} (hd : d ≠ 0) (hs : SubInv w β H0 H) (hh : Holds g (VP w β H0) w β H F) (hr : Rep (VP w β H0) w c x Fc) (hn : (Fc ++ F).Nodup) (h : gather1 d H c = some (c', H')) :
    ∃ Fc' F', Rep (VP w β H0) w c' x Fc' ∧ Holds g (VP w β H0) w β H' F' ∧ (Fc' ++ F').Nodup ∧ (∀ b ∈ Fc' ++ F', b ∈ Fc ++ F) ∧ SubInv w β H0 H' ∧ ∀ r, r.1 ≠ d → look H' r = look H r := by
  have hplain : c' = c → H' = H → ∃ Fc' F', Rep (VP w β H0) w c' x Fc' ∧ Holds g (VP w β H0) w β H' F' ∧ (Fc' ++ F').Nodup ∧ (∀ b ∈ Fc' ++ F', b ∈ Fc ++ F) ∧ SubInv w β H0 H' ∧ ∀ r, r.1 ≠ d → look H' r = look H r := by
    rintro rfl rfl
    exact ⟨Fc, F, hr, hh, hn, fun b hb => hb, hs, fun _ _ => rfl⟩
  cases c with
  | sl r q z i n =>
    simp only [gather1] at h
    by_cases hrd : r.1 = d
    · rw [if_pos hrd] at h
      split at h
      · rename_i co hl
        split at h
        · rename_i z' els hg
          split at h
          · rename_i hc
            obtain ⟨rfl, hn'⟩ := hc
            cases h
            have h0 : r.1 ≠ 0 := by rw [hrd]; exact hd
            have hFc : Fc = [] := by
              cases hr with
              | ref => rfl
            subst hFc
            have hv : VP w β H0 (.sl r q z' i n) x := by
              cases hr with
              | ref _ _ h => exact h
            obtain ⟨co0', els0', h', e1, e2, e3, e4, e5⟩ := hv
            obtain ⟨co0, f1, f2⟩ := hs r co hl
            rw [f1] at e1; cases e1
            obtain ⟨els0, f3, f4, f5⟩ := f2 q z' els hg
            rw [f3] at e2; cases e2
            obtain ⟨Fr, G1, m1, m2, m3, m4⟩ := hh.zoom h0 hl
            have hnF : F.Nodup := by simpa using hn
            have hn1 := m1.nodup_iff.1 hnF
            obtain ⟨nr, nG1, ndis⟩ := List.nodup_append.1 hn1
            have key : ∃ F0 G x0, hdr w q co (β r) = some x0 ∧ Rep (VP w β H0) w (.own z' els) x0 F0 ∧ Fr.Perm (F0 ++ G) ∧ (∃ F', F'.Perm G ∧ Rep (VP w β H0) w (Cell.set .x q co) (β r) F') ∧
                ∀ (cq : Cell) (q' : Path), ¬ q <+: q' → co.get q' = some cq → hdr w q' (Cell.set .x q co) (β r) = hdr w q' co (β r) := by
              by_cases hq : q = []
              · subst hq
                simp [Cell.get] at hg
                subst hg
                exact ⟨Fr, [], β r, rfl, m2, by simp, ⟨[], .refl _, .x _ m2.flat⟩, fun cq q' hp _ => absurd List.nil_prefix hp⟩
              · obtain ⟨a, x0, F0, G, k1, k2, k3, k4, k5, k6, k7, k8, k9⟩ := m2.zoom nr hq hg
                obtain ⟨F', p1, p2⟩ := k8 (fun _ => False) (VP w β H0) w .x x0 [] (fun b _ => But.of_eq rfl) k3 (clean_false _) (fun _ _ _ _ h => h) (.x x0 k6.flat)
                exact ⟨F0, G, x0, k1, k6, k7, ⟨F', by simpa using p1, p2⟩, fun cq q' hp hq' => k9 w .x cq q' (fun b _ => But.of_eq rfl) hp hq'⟩
            obtain ⟨F0, G, x0, k1, k2, k3, ⟨F', p1, p2⟩, k4⟩ := key
            have hx0 : x0 = h' := by
              rw [k1, e3] at f5; exact Option.some.inj f5
            subst hx0
            obtain ⟨F0', r1, r2⟩ := rep_drop k2 e5 hn'
            obtain ⟨F'', q1, q2⟩ := m3 (fun _ => False) (VP w β H0) w (Cell.set .x q co) .x F' (fun _ _ => rfl) (fun _ _ => rfl) (fun e _ => clean_false e.2) (fun _ _ _ _ h => h) p2
            have hnr := k3.nodup_iff.1 nr
            obtain ⟨u1, u2, u3⟩ := List.nodup_append.1 hnr
            have hF'' : ∀ b ∈ F'', b ∈ G ∨ b ∈ G1 := fun b hb => (List.mem_append.1 (q1.subset hb)).imp (fun h => p1.subset h) id
            have hperm : F''.Perm (G ++ G1) := q1.trans (List.Perm.append_right _ p1)
            refine ⟨F0', F'', r1, q2, ?_, ?_, ?_, ?_⟩
            · refine List.nodup_append.2 ⟨List.Nodup.sublist r2 u1, hperm.nodup_iff.2 (List.nodup_append.2 ⟨u2, nG1, fun a ha b hb => ndis a (k3.symm.subset (by simp [ha])) b hb⟩), fun a ha b hb => ?_⟩
              rcases hF'' b hb with hb | hb
              · exact u3 a (r2.subset ha) b hb
              · exact ndis a (k3.symm.subset (by simp [r2.subset ha])) b hb
            · intro b hb
              simp only [List.nil_append]
              rcases List.mem_append.1 hb with hb | hb
              · exact m1.symm.subset (List.mem_append.2 (.inl (k3.symm.subset (by simp [r2.subset hb]))))
              · rcases hF'' b hb with hb | hb
                · exact m1.symm.subset (List.mem_append.2 (.inl (k3.symm.subset (by simp [hb]))))
                · exact m1.symm.subset (List.mem_append.2 (.inr hb))
            · intro r' c2 hl'
              by_cases hrr : r' = r
              · subst hrr
                rw [look_putH_self hl] at hl'
                cases hl'
                refine ⟨_, f1, fun q' z2 els2 hg2 => ?_⟩
                have hnp : ¬ q <+: q' := fun hp => set_get_none hp hg hg2
                have : ∃ els3, co.get q' = some (.own z2 els3) ∧ els2.length = els3.length := set_get_back hg hg2 hnp
                obtain ⟨els3, t1, t2⟩ := this
                obtain ⟨els4, t3, t4, t5⟩ := f2 q' z2 els3 t1
                exact ⟨els4, t3, by omega, (k4 _ q' hnp t1).trans t5⟩
              · rw [look_putH_ne hrr] at hl'
                exact hs r' c2 hl'
            · intro r' hr'
              exact look_putH_ne (fun e => hr' (by rw [e, hrd]))
          · cases h
        · cases h
      · cases h
    · rw [if_neg hrd] at h
      cases h
      exact hplain rfl rfl
  | _ => simp only [gather1, Option.some.injEq, Prod.mk.injEq] at h; exact hplain h.1.symm h.2.symm

theorem nodup_three {A B F A' F' B' F'' : List Nat} (hn : (A ++ B ++ F).Nodup) (h1 : (A' ++ F').Nodup) (s1 : ∀ b ∈ A' ++ F', b ∈ A ++ F) (h2 : (B' ++ F'').Nodup) (s2 : ∀ b ∈ B' ++ F'', b ∈ B ++ F') : (A' ++ B' ++ F'').Nodup ∧ ∀ b ∈ A' ++ B' ++ F'', b ∈ A ++ B ++ F := by
  have d1 : ∀ a ∈ A, ∀ b ∈ B, a ≠ b := fun a ha b hb => by
    have := List.nodup_append.1 (List.nodup_append.1 hn).1
    exact this.2.2 a ha b hb
  have d2 : ∀ f ∈ F, ∀ b ∈ B, f ≠ b := fun f hf b hb e => (List.nodup_append.1 hn).2.2 b (by simp [hb]) f hf e.symm
  obtain ⟨u1, u2, u3⟩ := List.nodup_append.1 h1
  constructor
  · rw [List.append_assoc]
    refine List.nodup_append.2 ⟨u1, h2, fun a ha b hb => ?_⟩
    rcases List.mem_append.1 (s2 b hb) with hb | hb
    · rcases List.mem_append.1 (s1 a (by simp [ha])) with ha | ha
      · exact d1 a ha b hb
      · exact d2 a ha b hb
    · exact u3 a ha b hb
  · intro b hb
    rw [List.append_assoc] at hb
    rcases List.mem_append.1 hb with hb | hb
    · rcases List.mem_append.1 (s1 b (by simp [hb])) with hb | hb <;> simp [hb]
    · rcases List.mem_append.1 (s2 b hb) with hb | hb
      · simp [hb]
      · rcases List.mem_append.1 (s1 b (by simp [hb])) with hb | hb <;> simp [hb]

theorem nodup_mid {A B F : List Nat} (hn : (A ++ B ++ F).Nodup) : (A ++ F).Nodup := by
  refine hn.sublist ?_
  rw [List.append_assoc]
  exact List.Sublist.append (.refl _) (List.sublist_append_right _ _)
theorem nodup_step {A B F A' F' : List Nat} (hn : (A ++ B ++ F).Nodup) (h1 : (A' ++ F').Nodup) (s1 : ∀ b ∈ A' ++ F', b ∈ A ++ F) : (B ++ F').Nodup := by
  have h := List.nodup_append.1 (List.nodup_append.1 hn).1
  refine List.nodup_append.2 ⟨h.2.1, (List.nodup_append.1 h1).2.1, fun a ha b hb e => ?_⟩
  subst e
  rcases List.mem_append.1 (s1 a (by simp [hb])) with hb | hb
  · exact h.2.2 a hb a ha rfl
  · exact (List.nodup_append.1 hn).2.2 a (by simp [ha]) a hb rfl

theorem gatherL_rep {d g w β H0} (hd : d ≠ 0) : ∀ {l vs Fl l' H H' F}, SubInv w β H0 H → Holds g (VP w β H0) w β H F → VRep (VP w β H0) w l vs Fl → (Fl ++ F).Nodup → gatherL d H l = some (l', H') →
    ∃ Fl' F', VRep (VP w β H0) w l' vs Fl' ∧ Holds g (VP w β H0) w β H' F' ∧ (Fl' ++ F').Nodup ∧ (∀ b ∈ Fl' ++ F', b ∈ Fl ++ F) ∧ SubInv w β H0 H' ∧ ∀ r, r.1 ≠ d → look H' r = look H r
  | [], _, _, l', H, H', F, hs, hh, .nil, hn, h => by
    simp [gatherL] at h
    obtain ⟨rfl, rfl⟩ := h
    exact ⟨[], F, .nil, hh, hn, fun b hb => hb, hs, fun _ _ => rfl⟩
  | c :: t, _, _, l', H, H', F, hs, hh, .cons (x := x) (F := F1) (xs := xs) (G := G1) hr ht, hn, h => by
    simp only [gatherL] at h
    split at h
    · rename_i c' H1 h1
      split at h
      · rename_i t' H2 h2
        cases h
        obtain ⟨Fc', F', k1, k2, k3, k4, k5, k6⟩ := gather1_rep hd hs hh hr (nodup_mid hn) h1
        obtain ⟨Ft', F'', m1, m2, m3, m4, m5, m6⟩ := gatherL_rep hd k5 k2 ht (nodup_step hn k3 k4) h2
        obtain ⟨n1, n2⟩ := nodup_three hn k3 k4 m3 m4
        exact ⟨Fc' ++ Ft', F'', .cons k1 m1, m2, n1, n2, m5, fun r hr => (m6 r hr).trans (k6 r hr)⟩
      · cases h
    · cases h

mutual
theorem gatherT_rep {d g w β H0} (hd : d ≠ 0) : ∀ {y v Fl y' H H' F}, SubInv w β H0 H → Holds g (VP w β H0) w β H F → TRep (VP w β H0) w y v Fl → (Fl ++ F).Nodup → gatherT d H y = some (y', H') →
    ∃ Fl' F', TRep (VP w β H0) w y' v Fl' ∧ Holds g (VP w β H0) w β H' F' ∧ (Fl' ++ F').Nodup ∧ (∀ b ∈ Fl' ++ F', b ∈ Fl ++ F) ∧ SubInv w β H0 H' ∧ ∀ r, r.1 ≠ d → look H' r = look H r
  | .c x, _, _, y', H, H', F, hs, hh, .c hr, hn, h => by
    simp only [gatherT, Option.map_eq_some_iff] at h
    obtain ⟨⟨c', H1⟩, h1, h2⟩ := h
    cases h2
    obtain ⟨Fc', F', k1, k2, k3, k4, k5, k6⟩ := gather1_rep hd hs hh hr hn h1
    exact ⟨Fc', F', .c k1, k2, k3, k4, k5, k6⟩
  | .a l, _, _, y', H, H', F, hs, hh, .a hr, hn, h => by
    simp only [gatherT, Option.map_eq_some_iff] at h
    obtain ⟨⟨c', H1⟩, h1, h2⟩ := h
    cases h2
    obtain ⟨Fc', F', k1, k2, k3, k4, k5, k6⟩ := gatherL_rep hd hs hh hr hn h1
    exact ⟨Fc', F', .a k1, k2, k3, k4, k5, k6⟩
  | .t l, _, _, y', H, H', F, hs, hh, .t hr, hn, h => by
    simp only [gatherT, Option.map_eq_some_iff] at h
    obtain ⟨⟨c', H1⟩, h1, h2⟩ := h
    cases h2
    obtain ⟨Fc', F', k1, k2, k3, k4, k5, k6⟩ := gatherTs_rep hd hs hh hr hn h1
    exact ⟨Fc', F', .t k1, k2, k3, k4, k5, k6⟩
  | .u, _, _, y', H, H', F, hs, hh, .u v, hn, h => by
    simp only [gatherT, Option.some.injEq, Prod.mk.injEq] at h
    obtain ⟨rfl, rfl⟩ := h
    exact ⟨[], F, .u v, hh, hn, fun b hb => hb, hs, fun _ _ => rfl⟩
theorem gatherTs_rep {d g w β H0} (hd : d ≠ 0) : ∀ {l vs Fl l' H H' F}, SubInv w β H0 H → Holds g (VP w β H0) w β H F → TReps (VP w β H0) w l vs Fl → (Fl ++ F).Nodup → gatherTs d H l = some (l', H') →
    ∃ Fl' F', TReps (VP w β H0) w l' vs Fl' ∧ Holds g (VP w β H0) w β H' F' ∧ (Fl' ++ F').Nodup ∧ (∀ b ∈ Fl' ++ F', b ∈ Fl ++ F) ∧ SubInv w β H0 H' ∧ ∀ r, r.1 ≠ d → look H' r = look H r
  | [], _, _, l', H, H', F, hs, hh, .nil, hn, h => by
    simp [gatherTs] at h
    obtain ⟨rfl, rfl⟩ := h
    exact ⟨[], F, .nil, hh, hn, fun b hb => hb, hs, fun _ _ => rfl⟩
  | c :: t, _, _, l', H, H', F, hs, hh, .cons hr ht, hn, h => by
    simp only [gatherTs] at h
    split at h
    · rename_i c' H1 h1
      split at h
      · rename_i t' H2 h2
        cases h
        obtain ⟨Fc', F', k1, k2, k3, k4, k5, k6⟩ := gatherT_rep hd hs hh hr (nodup_mid hn) h1
        obtain ⟨Ft', F'', m1, m2, m3, m4, m5, m6⟩ := gatherTs_rep hd k5 k2 ht (nodup_step hn k3 k4) h2
        obtain ⟨n1, n2⟩ := nodup_three hn k3 k4 m3 m4
        exact ⟨Fc' ++ Ft', F'', .cons k1 m1, m2, n1, n2, m5, fun r hr => (m6 r hr).trans (k6 r hr)⟩
      · cases h
    · cases h
end

end Go.Px


namespace Go.Px
open Go.RowKit
set_option linter.unusedVariables false
set_option linter.unusedSimpArgs false
set_option linter.constructorNameAsVariable false

theorem Holds.filter {g R w β} (p : Nm × Cell → Bool) {H F} (h : Holds g R w β H F) : ∃ F', Holds g R w β (H.filter p) F' ∧ F'.Sublist F := by
  induction h with
  | nil => exact ⟨[], .nil, .refl _⟩
  | @sh r c t F1 F h0 hr hb _ ih =>
    obtain ⟨F', h1, h2⟩ := ih
    by_cases hp : p (r, c) = true
    · exact ⟨F', by rw [List.filter_cons, if_pos hp]; exact .sh h0 hr hb h1, h2⟩
    · exact ⟨F', by rw [List.filter_cons, if_neg hp]; exact h1, h2⟩
  | @ow r c t F1 F h0 hr _ ih =>
    obtain ⟨F', h1, h2⟩ := ih
    by_cases hp : p (r, c) = true
    · exact ⟨F1 ++ F', by rw [List.filter_cons, if_pos hp]; exact .ow h0 hr h1, List.Sublist.append (.refl _) h2⟩
    · exact ⟨F', by rw [List.filter_cons, if_neg hp]; exact h1, h2.trans (List.sublist_append_right _ _)⟩

def delA (H : HH) (r : Nm) : HH := H.filter fun x => decide (x.1 ≠ r)
def outH (d : Nat) (H : HH) : HH := H.filter fun x => decide (x.1.1 ≠ d)

theorem look_filter {p : Nm × Cell → Bool} {q : Nm → Bool} (hp : ∀ x, p x = q x.1) {r} (hr : q r = true) : ∀ {H : HH}, look (H.filter p) r = look H r
  | [] => rfl
  | (s, c) :: t => by
    by_cases hs : p (s, c) = true
    · rw [List.filter_cons, if_pos hs]; simp only [look]; rw [look_filter hp hr]
    · rw [List.filter_cons, if_neg hs]
      have : s ≠ r := fun e => by rw [hp, e, hr] at hs; exact hs rfl
      simp only [look, if_neg this]; exact look_filter hp hr

theorem look_delA_self {r} : ∀ {H : HH}, look (delA H r) r = none
  | [] => rfl
  | (s, c) :: t => by
    by_cases hs : s = r
    · have : delA ((s, c) :: t) r = delA t r := by simp [delA, hs]
      rw [this]; exact look_delA_self
    · have : delA ((s, c) :: t) r = (s, c) :: delA t r := by simp [delA, hs]
      rw [this]; simp only [look, if_neg hs]; exact look_delA_self

theorem delA_delH {r} : ∀ {H : HH}, delA (delH H r) r = delA H r
  | [] => rfl
  | (s, c) :: t => by
    by_cases hs : s = r
    · simp [delA, delH, hs]
    · have := delA_delH (r := r) (H := t)
      simpa [delA, delH, hs] using this

theorem Holds.delA {g R w β r c} (h0 : r.1 ≠ 0) {H F} (h : Holds g R w β H F) (hl : look H r = some c) : ∃ Fr G, (∀ b ∈ Fr ++ G, b ∈ F) ∧ (F.Nodup → (Fr ++ G).Nodup) ∧ Rep R w c (β r) Fr ∧ Holds g R w β (delA H r) G := by
  obtain ⟨Fr, G, h1, h2, h3⟩ := h.del h0 hl
  obtain ⟨G', h4, h5⟩ := h3.filter (fun x => decide (x.1 ≠ r))
  have e : (delH H r).filter (fun x => decide (x.1 ≠ r)) = Go.Px.delA H r := delA_delH
  rw [e] at h4
  have hs : (Fr ++ G').Sublist (Fr ++ G) := List.Sublist.append (.refl _) h5
  exact ⟨Fr, G', fun b hb => h1.symm.subset (hs.subset hb), fun hn => List.Nodup.sublist hs (h1.nodup_iff.1 hn), h2, h4⟩

/-- What a result is, and what is left of temporaries and objects. -/
def retOne (P : Program) (d : Nat) (t : List (Nat × T)) (H : HH) : ResultVar → Option (T × List (Nat × T) × HH)
  | .tmp i =>
    match getT t i with
    | some (.c (.sl r q z i0 n)) =>
      if r.1 = d then
        (match q, look H r with
        | [], some (.own z' els) => if z' = z ∧ i0 + n ≤ els.length then some (.c (.own z (cutD i0 n els)), t, delA H r) else none
        | _, _ => none)
      else some (.c (.sl r q z i0 n), t, H)
    | some x => some (x, delT t i, H)
    | none => none
  | .cell i ty =>
    match getT t i with
    | some (.c (.pt r [] z 0 0)) =>
      if r.1 = d then
        (match look H r with
        | some (.own z' [cs]) =>
          if tok P ty ∧ tsz P ty = cs.length then
            (if tagg P ty then some (.a cs, t, delA H r) else (match cs with | [c] => some (.c c, t, delA H r) | _ => none))
          else none
        | _ => none)
      else none
    | _ => none

def runOne (tmps : Array Value) : ResultVar → Sem Value
  | .tmp t => pure (tmps.getD t undef)
  | .cell a t => do loadVar t (← asAddr (tmps.getD a undef))

theorem retOne_rep {P d g w β H0 t H a F G rv x t1 H1} (hd : d ≠ 0) (hh : Holds g (VP w β H0) w β H F) (ht : Tmps (VP w β H0) w a t G) (hn : (F ++ G).Nodup) (hsub : ∀ r c, look H r = some c → look H0 r = some c)
    (h : retOne P d t H rv = some (x, t1, H1)) : ∃ v FT F1 G1, (runOne a rv).run P w = .ok v w ∧ TRep (VP w β H0) w x v FT ∧ Holds g (VP w β H0) w β H1 F1 ∧ Tmps (VP w β H0) w a t1 G1 ∧ (FT ++ (F1 ++ G1)).Nodup ∧ (∀ b ∈ FT ++ (F1 ++ G1), b ∈ F ++ G) ∧
      (∀ r c, look H1 r = some c → look H0 r = some c) ∧ (∀ r, r.1 ≠ d → look H1 r = look H r) := by
  obtain ⟨nF, nG, nd⟩ := List.nodup_append.1 hn
  have hdel : ∀ r c, r.1 = d → look H r = some c → ∃ Fr F1, Rep (VP w β H0) w c (β r) Fr ∧ Holds g (VP w β H0) w β (delA H r) F1 ∧ (Fr ++ (F1 ++ G)).Nodup ∧ (∀ b ∈ Fr ++ (F1 ++ G), b ∈ F ++ G) ∧
      (∀ r' c', look (delA H r) r' = some c' → look H0 r' = some c') ∧ (∀ r', r'.1 ≠ d → look (delA H r) r' = look H r') := by
    intro r c hr hl
    obtain ⟨Fr, F1, k1, k2, k3, k4⟩ := hh.delA (by rw [hr]; exact hd) hl
    have hne : ∀ r', r' ≠ r → look (delA H r) r' = look H r' := fun r' h => look_filter (q := fun s => decide (s ≠ r)) (fun x => rfl) (by simpa using h)
    refine ⟨Fr, F1, k3, k4, ?_, ?_, fun r' c' hl' => ?_, fun r' h => hne r' (fun e => h (by rw [e, hr]))⟩
    · rw [← List.append_assoc]
      exact nodup_sub hn (k2 nF) nG k1 (fun b hb => hb)
    · intro b hb
      rw [← List.append_assoc] at hb
      rcases List.mem_append.1 hb with hb | hb
      · simp [k1 b hb]
      · simp [hb]
    · by_cases e : r' = r
      · subst e; rw [look_delA_self] at hl'; cases hl'
      · rw [hne r' e] at hl'; exact hsub r' c' hl'
  cases rv with
  | tmp i =>
    simp only [retOne] at h
    cases hi : getT t i with
    | none => simp [hi] at h
    | some y =>
      rw [hi] at h
      obtain ⟨v, F1, F2, k1, k2, k3, k4, k5⟩ := ht.take hi nG
      have hrun : (runOne a (.tmp i)).run P w = .ok v w := by simp [runOne, Array.getD_eq_getD_getElem?, k1]
      have hplain : x = y → t1 = delT t i → H1 = H → ∃ v FT F1 G1, (runOne a (.tmp i)).run P w = .ok v w ∧ TRep (VP w β H0) w x v FT ∧ Holds g (VP w β H0) w β H1 F1 ∧ Tmps (VP w β H0) w a t1 G1 ∧ (FT ++ (F1 ++ G1)).Nodup ∧ (∀ b ∈ FT ++ (F1 ++ G1), b ∈ F ++ G) ∧
          (∀ r c, look H1 r = some c → look H0 r = some c) ∧ (∀ r, r.1 ≠ d → look H1 r = look H r) := by
        rintro rfl rfl rfl
        refine ⟨v, F1, F, F2, hrun, k2, hh, k3, ?_, ?_, hsub, fun _ _ => rfl⟩
        · have e : (F1 ++ (F ++ F2)).Perm (F ++ (F1 ++ F2)) := by
            rw [← List.append_assoc, ← List.append_assoc]
            exact List.Perm.append_right _ List.perm_append_comm
          exact e.nodup_iff.2 (nodup_sub hn nF k4 (fun b hb => hb) k5)
        · intro b hb
          rcases List.mem_append.1 hb with hb | hb
          · simp [k5 b (by simp [hb])]
          · rcases List.mem_append.1 hb with hb | hb
            · simp [hb]
            · simp [k5 b (by simp [hb])]
      cases y with
      | c yc =>
        cases yc with
        | sl r q z i0 n =>
          simp only at h
          split at h
          · rename_i hr
            split at h
            · rename_i z' els hq hl
              split at h
              · rename_i hc
                obtain ⟨rfl, hn'⟩ := hc
                cases h
                obtain ⟨Fr, F1', q1, q2, q3, q4, q5, q6⟩ := hdel r _ hr hl
                have hv := trep_ref k2 rfl
                obtain ⟨c', els', hd', e1, e2, e3, e4, e5⟩ := hv
                rw [hsub _ _ hl] at e1; cases e1
                simp [Cell.get] at e2; subst e2
                simp [hdr] at e3; subst e3
                obtain ⟨F0', r1, r2⟩ := rep_cut q1 e5 hn'
                have hs : (F0' ++ (F1' ++ G)).Sublist (Fr ++ (F1' ++ G)) := List.Sublist.append r2 (.refl _)
                exact ⟨v, F0', F1', G, hrun, .c r1, q2, ht, List.Nodup.sublist hs q3, fun b hb => q4 b (hs.subset hb), q5, q6⟩
              · cases h
            · cases h
          · cases h
            have hv := trep_ref k2 rfl
            have : F1 = [] := k2.bare rfl
            subst this
            exact ⟨v, [], F, G, hrun, k2, hh, ht, by simpa using hn, by simp, hsub, fun _ _ => rfl⟩
        | _ => simp only [Option.some.injEq, Prod.mk.injEq] at h; exact hplain h.1.symm h.2.1.symm h.2.2.symm
      | _ => simp only [Option.some.injEq, Prod.mk.injEq] at h; exact hplain h.1.symm h.2.1.symm h.2.2.symm
  | cell i ty =>
    simp only [retOne] at h
    split at h
    · rename_i r z hi
      split at h
      · rename_i hr
        split at h
        · rename_i z' cs hl
          split at h
          · rename_i hc
            obtain ⟨hto, hsz⟩ := hc
            obtain ⟨v, F1, k1, k2, k3⟩ := ht.read hi
            have hv := trep_ref k2 rfl
            obtain ⟨c', els', hd', e1, e2, e3, e4, e5, b, off, n0, cap0, rfl, rfl⟩ := hv
            simp [hdr] at e3
            obtain ⟨Fr, F1', q1, q2, q3, q4, q5, q6⟩ := hdel r _ hr hl
            rcases own_inv q1 with ⟨h', -⟩ | ⟨b', off', cap, arr, el, F2, vs, fr, rfl, hbv, hz', ⟨hb', hfr⟩, hrow, hcap, hsize, hvr, hcells⟩
            · cases h'
            · rw [e3] at hbv
              cases hbv
              simp only [List.flatten_cons, List.flatten_nil, List.append_nil] at hvr
              have hlen := hvr.length
              have hs : (F2 ++ (F1' ++ G)).Sublist ((b :: F2) ++ (F1' ++ G)) := List.sublist_cons_self _ _
              have hcell : ∀ (j : Nat) u, vs[j]? = some u → w.cell? ((⟨b, off, none⟩ : Addr).add j) = some u := fun j u hj => by
                rw [add_none]; simp [World.cell?, hb']; exact hcells j u hj
              have hag := run_isAgg (w := w) hto
              have hsr := run_sizeOf (w := w) hto
              have hld := run_loadCells_list (P := P) w ⟨b, off, none⟩ vs hcell
              rw [hlen, ← hsz] at hld
              have hval : a.getD i undef = .pointer (some ⟨b, off, none⟩) := by
                simp [Array.getD_eq_getD_getElem?, k1]
              split at h
              · rename_i hagg
                cases h
                rw [hagg] at hag
                refine ⟨.agg vs.toArray, F2, F1', G, ?_, .a hvr, q2, ht, List.Nodup.sublist hs q3, fun b hb => q4 b (hs.subset hb), q5, q6⟩
                simp [runOne, hval, asAddr, loadVar, Sem.run_bind, hag, hsr, hld, Result.andThen]
              · rename_i hagg
                split at h
                · rename_i c
                  cases h
                  have : tagg P ty = false := by simpa using hagg
                  rw [this] at hag
                  cases hvr with
                  | @cons _ x Fx _ xs Gx hcr htl =>
                    cases htl
                    refine ⟨x, Fx, F1', G, ?_, .c hcr, q2, ht, by simpa using List.Nodup.sublist hs q3, fun b' hb => q4 b' (hs.subset (by simpa using hb)), q5, q6⟩
                    have := hcell 0 x (by simp)
                    simp [Addr.add] at this
                    simp [runOne, hval, asAddr, loadVar, Sem.run_bind, hag, load, Sem.run, this, Result.andThen]
                · cases h
          · cases h
        · cases h
      · cases h
    · cases h

def retAll (P : Program) (d : Nat) : List (Nat × T) → HH → List ResultVar → Option (List T × HH)
  | t, H, [] => some ([], H)
  | t, H, rv :: rest =>
    match retOne P d t H rv with
    | some (x, t1, H1) => (match retAll P d t1 H1 rest with
      | some (xs, H2) => some (x :: xs, H2)
      | none => none)
    | none => none

theorem retAll_rep {P d g w β H0 a} (hd : d ≠ 0) : ∀ {rs t H F G xs H2}, Holds g (VP w β H0) w β H F → Tmps (VP w β H0) w a t G → (F ++ G).Nodup → (∀ r c, look H r = some c → look H0 r = some c) → retAll P d t H rs = some (xs, H2) →
    ∃ vs FT F2, (rs.mapM (runOne a)).run P w = .ok vs w ∧ vs.length = rs.length ∧ TReps (VP w β H0) w xs vs FT ∧ Holds g (VP w β H0) w β H2 F2 ∧ (FT ++ F2).Nodup ∧ (∀ b ∈ FT ++ F2, b ∈ F ++ G) ∧ (∀ r, r.1 ≠ d → look H2 r = look H r) ∧ (∀ r c, look H2 r = some c → look H0 r = some c)
  | [], t, H, F, G, xs, H2, hh, ht, hn, hs, h => by
    simp [retAll] at h
    obtain ⟨rfl, rfl⟩ := h
    exact ⟨[], [], F, by simp [Sem.run, pure], rfl, .nil, hh, by simpa using (List.nodup_append.1 hn).1, fun b hb => by simp at hb; simp [hb], fun _ _ => rfl, hs⟩
  | rv :: rest, t, H, F, G, xs, H2, hh, ht, hn, hs, h => by
    simp only [retAll] at h
    split at h
    · rename_i x t1 H1 h1
      split at h
      · rename_i xs' H2' h2
        cases h
        obtain ⟨v, FT, F1, G1, k1, k2, k3, k4, k5, k6, k7, k8⟩ := retOne_rep hd hh ht hn hs h1
        obtain ⟨n1, n2, n3⟩ := List.nodup_append.1 k5
        obtain ⟨vs, FT', F2, m1, m2, m3, m4, m5, m6, m7, m8⟩ := retAll_rep hd k3 k4 n2 k7 h2
        refine ⟨v :: vs, FT ++ FT', F2, ?_, by simp [m2], .cons k2 m3, m4, ?_, ?_, fun r hr => (m7 r hr).trans (k8 r hr), m8⟩
        · simp [List.mapM_cons, Sem.run_bind, k1, m1, Result.andThen]
        · rw [List.append_assoc]
          exact List.nodup_append.2 ⟨n1, m5, fun x hx y hy => n3 x hx y (m6 y hy)⟩
        · intro b hb
          rw [List.append_assoc] at hb
          rcases List.mem_append.1 hb with hb | hb
          · exact k6 b (by simp [hb])
          · exact k6 b (List.mem_append.2 (.inr (m6 b hb)))
      · cases h
    · cases h

def packT : List T → T
  | [x] => x
  | l => .t l

theorem results_eq (fn : Func) (a : Array Value) (P : Program) (w : World) (vs : List Value) (hl : vs.length = fn.results.toList.length) (h : (fn.results.toList.mapM (runOne a)).run P w = .ok vs w) :
    (results fn a).run P w = .ok (if h : vs.length = 1 then vs[0] else .tuple vs.toArray) w := by
  have e : results fn a = (do
      let vs ← fn.results.mapM (runOne a)
      pure (if h : vs.size = 1 then vs[0] else .tuple vs) : Sem Value) := by
    unfold results
    rfl
  rw [e, Array.mapM_eq_mapM_toList]
  simp only [Sem.run_bind, Sem.run_map, h, Result.andThen_ok]
  simp [Sem.run, pure]

/-- refers to what an activation of depth d made -/
def atD1 (d : Nat) : Cell → Prop
  | .sl r _ _ _ _ => r.1 = d
  | .pt r _ _ _ _ => r.1 = d
  | _ => False
def atD (d : Nat) : Cell → Prop
  | .fn _ cs => ∃ c ∈ cs, atD1 d c
  | c => atD1 d c

theorem Rep.clean {R : Cell → Value → Prop} {w : World} {K : Cell → Prop} {c : Cell} {x : Value} {F : List Nat} (hR : ∀ c x, isRef c = true → R c x → ¬ K c) (h : Rep R w c x F) : Clean K c := by
  refine Rep.rec (motive_1 := fun c x F _ => Clean K c) (motive_2 := fun b o cs F _ => ∀ c ∈ cs, Clean K c) ?_ ?_ ?_ ?_ ?_ ?_ ?_ h
  · exact fun x _ => Clean.v
  · intro c x hi _ h
    refine Clean.leaf (fun z els e => ?_) (fun _ => hR _ _ hi h)
    subst e; simp [isRef] at hi
  · exact fun x _ => Clean.hole
  · exact fun z A => Clean.own (by simp)
  · intro z b off cap els arr el fr F hz hb hfr hr hl hs _ ih
    exact Clean.own (fun row hrow c hc => ih c (List.mem_flatten.2 ⟨row, hrow, hc⟩))
  · simp
  · intro b o c cs x F G hx _ _ ih1 ih2 c' hc'
    rcases List.mem_cons.1 hc' with rfl | h'
    · exact ih1
    · exact ih2 c' h'

theorem Holds.cleans {g R w β} {K : Cell → Prop} (hR : ∀ c x, isRef c = true → R c x → ¬ K c) {H F} (h : Holds g R w β H F) : ∀ en ∈ H, Clean K en.2 := by
  induction h with
  | nil => simp
  | sh _ hr _ _ ih =>
    intro en he
    rcases List.mem_cons.1 he with rfl | he
    · exact hr.clean hR
    · exact ih en he
  | ow _ hr _ ih =>
    intro en he
    rcases List.mem_cons.1 he with rfl | he
    · exact hr.clean hR
    · exact ih en he

theorem vp_fresh {w β H d} (hf : ∀ x ∈ H, x.1.1 ≠ d) : ∀ c x, isRef c = true → VP w β H c x → ¬ atD d c := by
  have key : ∀ c x, VP1 w β H c x → ¬ atD1 d c := by
    intro c x h hh
    cases c with
    | sl r q z i n => obtain ⟨c, els, hd, e1, -⟩ := h; exact hf _ (look_mem e1) hh
    | pt r q z i f => obtain ⟨c, els, hd, e1, -⟩ := h; exact hf _ (look_mem e1) hh
    | _ => exact hh
  intro c x hr h hh
  cases c with
  | fn f cs =>
    obtain ⟨xs, e1, e2, e3⟩ := h
    obtain ⟨c, hc, hh⟩ := hh
    obtain ⟨i, hi⟩ := List.getElem?_of_mem hc
    have hlt := (List.getElem?_eq_some_iff.1 hi).1
    exact key c _ (e3 i c xs[i] hi (by simp)) hh
  | sl r q z i n => exact key (.sl r q z i n) x h hh
  | pt r q z i f => exact key (.pt r q z i f) x h hh
  | v y => simp [isRef] at hr
  | own z els => simp [isRef] at hr
  | x => simp [isRef] at hr

/-- leaving an activation: what was made there, and is not handed back, is gone -/
theorem vp_out {w β β' H H' d} (hβ : ∀ r, r.1 ≠ d → β' r = β r) (hl : ∀ r, r.1 ≠ d → look H' r = look H r) : ∀ c x, isRef c = true → ¬ atD d c → VP w β H c x → VP w β' H' c x := by
  have key : ∀ c x, ¬ atD1 d c → VP1 w β H c x → VP1 w β' H' c x := by
    intro c x hn h
    cases c with
    | sl r q z i n => obtain ⟨c, els, hd, e1, e2, e3, e4⟩ := h; exact ⟨c, els, hd, (hl r hn).trans e1, e2, by rw [hβ r hn]; exact e3, e4⟩
    | pt r q z i f => obtain ⟨c, els, hd, e1, e2, e3, e4⟩ := h; exact ⟨c, els, hd, (hl r hn).trans e1, e2, by rw [hβ r hn]; exact e3, e4⟩
    | v y => exact h
    | own z els => exact h.elim
    | fn f cs => exact h.elim
    | x => exact h.elim
  intro c x hr hn h
  cases c with
  | fn f cs =>
    obtain ⟨xs, e1, e2, e3⟩ := h
    exact ⟨xs, e1, e2, fun i c y hc hy => key c y (fun hh => hn ⟨c, List.mem_of_getElem? hc, hh⟩) (e3 i c y hc hy)⟩
  | sl r q z i n => exact key (.sl r q z i n) x hn h
  | pt r q z i f => exact key (.pt r q z i f) x hn h
  | v y => simp [isRef] at hr
  | own z els => simp [isRef] at hr
  | x => simp [isRef] at hr

theorem out_notD {w0 β0 y x d} {H0 : HH} (h : VP1 w0 β0 H0 y x) (hf : ∀ x ∈ H0, x.1.1 ≠ d) : ¬ atD1 d y := by
  intro hh
  cases y with
  | sl r q z i n => obtain ⟨c, els, hd, e1, -⟩ := h; exact hf _ (look_mem e1) hh
  | pt r q z i f => obtain ⟨c, els, hd, e1, -⟩ := h; exact hf _ (look_mem e1) hh
  | _ => exact hh

def enumT : Nat → List T → List (Nat × T)
  | _, [] => []
  | i, x :: l => (i, x) :: enumT (i + 1) l

theorem enumT_rep {R w} {a : Array Value} : ∀ {l vs F i}, TReps R w l vs F → (∀ (j : Nat) v, vs[j]? = some v → a[i + j]? = some v) → Tmps R w a (enumT i l) F
  | _, _, _, i, .nil, _ => .nil
  | _, _, _, i, .cons (v := v) (vs := vs) hr ht, h => .cons (h 0 v (by simp)) hr (enumT_rep ht (fun j u hj => by have := h (j + 1) u (by simpa using hj); rwa [show i + 1 + j = i + (j + 1) by omega]))

theorem TReps.length {R w} : ∀ {l vs F}, TReps R w l vs F → vs.length = l.length
  | _, _, _, .nil => rfl
  | _, _, _, .cons _ h => by simp [h.length]

/-- What is asked when an activation ends. -/
def Ret (P : Program) (d : Nat) (rs : List ResultVar) (Q : T → HH → List (Nm × Path) → Prop) (s : St) : Prop :=
  match retAll P d s.t s.H rs with
  | some (xs, H2) =>
    (match gatherTs d H2 xs with
    | some (xs', H3) => T.cleans (atD d) xs' ∧ CleanH (atD d) (outH d H3) ∧ Q (packT xs') (outH d H3) s.lg
    | none => False)
  | none => False

def retK (P : Program) (d : Nat) (rs : List ResultVar) (Q : T → HH → List (Nm × Path) → Prop) : Exit → St → Prop
  | .normal, s => Ret P d rs Q s
  | .ret, s => Ret P d rs Q s
  | _, _ => False

theorem le_sum_of_mem {n : Nat} : ∀ {l : List Nat}, n ∈ l → n ≤ l.sum
  | [], h => by simp at h
  | m :: l, h => by
    rcases List.mem_cons.1 h with rfl | h
    · simp
    · have := le_sum_of_mem h; simp; omega
theorem exists_fresh (H : HH) : ∃ d, d ≠ 0 ∧ ∀ x ∈ H, x.1.1 ≠ d := by
  refine ⟨(H.map fun x => x.1.1).sum + 1, by omega, fun x hx => ?_⟩
  have : x.1.1 ≤ (H.map fun x => x.1.1).sum := le_sum_of_mem (List.mem_map.2 ⟨x, hx, rfl⟩)
  omega

theorem PCalls.of_code {P : Program} {f : FuncId} {fn : Func} {c : Code} {args : List T} {H : HH} {Q} (hf : P.funcs[f]? = some fn) (hb : fn.body = some c) (hN : args.length ≤ fn.ntmps)
    (h : ∀ d, d ≠ 0 → (∀ x ∈ H, x.1.1 ≠ d) → (∀ en ∈ H, Clean (atD d) en.2) → SCode ⟨P, d, fn.ntmps⟩ c { t := enumT 0 args, H := H, lg := [] } (retK P d fn.results.toList Q)) : PCalls P f args H Q := by
  intro g w β F FA vs hgl hh ht hn hlow
  obtain ⟨d, hd0, hfr⟩ := exists_fresh H
  have hlen := ht.length
  let e : Env := { g := g, w0 := w, β0 := β, H0 := H, F0 := F ++ FA, N := fn.ntmps, d := d }
  have hrel : Rel e { t := enumT 0 args, H := H, lg := [] } { tmps := vs.toArray ++ Array.replicate (fn.ntmps - vs.toArray.size) undef, defers := [] } w := by
    refine ⟨rfl, β, F, FA, { holds := hh, tmps := enumT_rep ht (fun j v hj => ?_), nd := hn, low := hlow, ext := Ext.refl w _, gle := hgl, out := fun _ _ => rfl, fresh := hfr, stab := fun _ _ _ h => h, size := ?_, hd := hd0 }⟩
    · have hlt := (List.getElem?_eq_some_iff.1 hj).1
      rw [Array.getElem?_append_left (by simpa using hlt)]
      simpa using hj
    · have hN' : vs.length ≤ fn.ntmps := by omega
      show (vs.toArray ++ Array.replicate (fn.ntmps - vs.toArray.size) undef).size = fn.ntmps
      simp; omega
  refine calls_of_wp hf hb (Code.wp_mono (fun ex a' w' => ?_) (h d hd0 hfr (hh.cleans (vp_fresh hfr)) e _ w rfl rfl hrel))
  rintro ⟨s', hk, hdf, β', F', G', hx⟩
  have hret : Ret P d fn.results.toList Q s' → a'.defers = [] ∧ ∃ v, (results fn a'.tmps).run P w' = .ok v w' ∧ ∃ x T H' lg F' FT, Ending.returned v = .returned x ∧ Q T H' lg ∧ Holds g (VP w' β H') w' β H' F' ∧ TRep (VP w' β H') w' T x FT ∧ (F' ++ FT).Nodup ∧ Ext w w' (F ++ FA) (F' ++ FT) ∧
      ∀ y x, ¬ hit1 lg y → VP1 w β H y x → VP1 w' β H' y x := by
    intro hr
    unfold Ret at hr
    split at hr
    · rename_i xs0 H1 hall
      split at hr
      rotate_left
      · exact hr.elim
      rename_i xs H2 hga
      obtain ⟨hcl, hclH, hq⟩ := hr
      obtain ⟨vs', FT0, F20, m1, m2, j3, j4, j5, j6, j7, j8⟩ := retAll_rep (g := g) (β := β') hd0 hx.holds hx.tmps hx.nd (fun _ _ h => h) hall
      obtain ⟨FT, F2, m3, m4, m5, i6, i7, i8⟩ := gatherTs_rep hd0 (SubInv.refl j8) j4 j3 j5 hga
      have m6 : ∀ b ∈ FT ++ F2, b ∈ F' ++ G' := fun b hb => j6 b (i6 b hb)
      have m7 : ∀ r, r.1 ≠ d → look H2 r = look s'.H r := fun r hr => (i8 r hr).trans (j7 r hr)
      have hres := results_eq fn a'.tmps P w' vs' m2 m1
      obtain ⟨F3, q1, q2⟩ := m4.filter (fun x => decide (x.1.1 ≠ d))
      have hlook : ∀ r, r.1 ≠ d → look (outH d H2) r = look s'.H r := fun r hr => (look_filter (q := fun s => decide (s.1 ≠ d)) (fun x => rfl) (by simpa using hr)).trans (m7 r hr)
      have hβ : ∀ r, r.1 ≠ d → β r = β' r := fun r hr => (hx.out r hr).symm
      have hvp := vp_out (w := w') hβ hlook
      have q3 : Holds g (VP w' β (outH d H2)) w' β (outH d H2) F3 := q1.mono (fun en he => hβ en.1 (by have := (List.mem_filter.1 he).2; simpa using this)) hclH hvp (fun _ _ => rfl) (fun _ _ => rfl)
      have m3' : TReps (VP w' β (outH d H2)) w' xs vs' FT := by
        have : TRep (VP w' β (outH d H2)) w' (.t xs) (.tuple vs'.toArray) FT := (TRep.t m3).mono (K := atD d) hcl hvp (fun _ _ => rfl)
        generalize hv : Value.tuple vs'.toArray = v at this
        cases this with
        | @t _ vs2 _ h => cases hv; simpa using h
      have hpack : TRep (VP w' β (outH d H2)) w' (packT xs) (if h : vs'.length = 1 then vs'[0] else .tuple vs'.toArray) FT := by
        have hl := m3'.length
        cases m3' with
        | nil => simpa [packT] using TRep.t TReps.nil
        | @cons x v Fx l vs0 G0 hr ht =>
          cases ht with
          | nil => simpa [packT] using hr
          | cons hr2 ht2 => simpa [packT] using TRep.t (TReps.cons hr (TReps.cons hr2 ht2))
      obtain ⟨n1, n2, n3⟩ := List.nodup_append.1 m5
      have hsub : ∀ b ∈ F3 ++ FT, b ∈ F' ++ G' := fun b hb => by
        rcases List.mem_append.1 hb with hb | hb
        · exact m6 b (by simp [q2.subset hb])
        · exact m6 b (by simp [hb])
      refine ⟨hdf, _, hres, _, packT xs, outH d H2, s'.lg, F3, FT, rfl, hq, q3, hpack, ?_, hx.ext.sub hsub, fun y x hy hv => ?_⟩
      · exact List.nodup_append.2 ⟨List.Nodup.sublist q2 n2, n1, fun x hx y hy e => n3 y hy x (q2.subset hx) e.symm⟩
      · have h1 := hx.stab y x hy hv
        have hnD := out_notD hv hfr
        cases y with
        | sl r q z i n => exact hvp (.sl r q z i n) x rfl hnD h1
        | pt r q z i f => exact hvp (.pt r q z i f) x rfl hnD h1
        | v y => exact h1
        | own z els => exact h1.elim
        | fn f cs => exact h1.elim
        | x => exact h1.elim
    · exact hr.elim
  cases ex with
  | normal => exact hret hk
  | ret => exact hret hk
  | _ => exact hk.elim

end Go.Px


namespace Go.Px
open Go.RowKit
set_option linter.unusedVariables false
set_option linter.unusedSimpArgs false
set_option linter.constructorNameAsVariable false

/-- the bytes of rows of one byte each -/
def bytesOf : List (List Cell) → Option (List Int)
  | [] => some []
  | [.v (.int .u8 n)] :: r => (bytesOf r).map (n :: ·)
  | _ => none
theorem bytesOf_iff : ∀ {rows : List (List Cell)} {l}, bytesOf rows = some l → rows = l.map fun n => [Cell.v (.int .u8 n)]
  | [], l, h => by simp [bytesOf] at h; subst h; rfl
  | row :: r, l, h => by
    unfold bytesOf at h
    split at h
    · rename_i hh; simp at hh
    · rename_i n r' hh
      simp only [List.cons.injEq] at hh
      obtain ⟨rfl, rfl⟩ := hh
      cases hr : bytesOf r with
      | none => simp [hr] at h
      | some l' =>
        simp [hr] at h
        subst h
        simp [← bytesOf_iff hr]
    · cases h
/-- the string of bytes -/
def baOf (l : List Int) : ByteArray := l.foldl (fun r n => r.push (UInt8.ofNat n.toNat)) ByteArray.empty

theorem VRep.bytes {R w} : ∀ {l : List Int} {vs F}, VRep R w (l.map fun n => [Cell.v (.int .u8 n)]).flatten vs F → vs = l.map (Value.int .u8)
  | [], _, _, h => by cases h; rfl
  | n :: l, vs, F, h => by
    simp only [List.map_cons, List.flatten_cons, List.cons_append, List.nil_append] at h
    cases h with
    | cons h1 h2 =>
      have := VRep.bytes h2
      subst this
      cases h1 with
      | v => rfl
      | ref hc => cases hc

theorem SOp.bytesStr {cx o s K dst src dt x rows l t2 e} (ho : o.op = .convert src dt x) (hdst : o.dst = some dst) (hN : dst < cx.N) (hs : Src s s.t x rows 1 t2) (hl : bytesOf rows = some l)
    (hsrc : cx.P.underlying src = some (.slice e)) (he : cx.P.underlying e = some (.int .u8)) (hd : cx.P.underlying dt = some .string)
    (hK : K { s with t := setT s.t dst (.c (.v (.string (baOf l)))) }) : SOp cx o s K := by
  refine SOp.plain hdst hN (fun w a β F G ev hx => ⟨.string (baOf l), ?_, .c (.v _ rfl)⟩) hK
  obtain ⟨X, c, vs, F2, G', h1, h2, h3, h4, h5, h6, h7⟩ := hs.rep (a := a) hx hx.tmps (List.nodup_append.1 hx.nd).2.1
  have hr := bytesOf_iff hl
  have hv : vs = l.map (Value.int .u8) := by rw [hr] at h2; exact h2.bytes
  have hlen : rows.length = l.length := by rw [hr]; simp
  rw [hlen] at h1
  have hrun : (convert src dt (.slice X l.length c)).run cx.P w = .ok (.string (baOf l)) w := by
    rw [run_convert_bytes_string w src dt e X l.length c hsrc he hd]
    rcases h3 with h3 | ⟨b, o', rfl, h3⟩
    · have : l = [] := by rw [h3] at hv; simpa using hv.symm
      subst this
      cases X with
      | none => simp [Conv.bytesToString, baOf, Sem.run, pure]
      | some A =>
        refine run_bytesToString w A 0 c [] ?_
        simpa using run_loadCells_list (P := cx.P) (w := w) A [] (by simp)
    · refine run_bytesToString w _ l.length c l ?_
      have := run_loadCells_list (P := cx.P) (w := w) ⟨b, o', none⟩ vs (fun j v hj => by
        have := h3 j v hj
        rw [add_none]; exact this)
      rw [hv] at this
      simpa using this
  simp [execOp, ho, h1, Sem.run_bind, hrun, Result.andThen, Sem.run, pure]
end Go.Px


namespace Go.Px
open Go.RowKit
set_option linter.unusedVariables false
set_option linter.unusedSimpArgs false
set_option linter.constructorNameAsVariable false

/-- A call that hands back x and leaves all that was there. -/
def PFun (P : Program) (f : FuncId) (args : List T) (H : HH) (x : T) : Prop := PCalls P f args H (fun T H' lg => T = x ∧ H' = H ∧ lg = [])

def usesO : Operand → List Nat
  | .tmp i => [i]
  | _ => []
def consO (val : List (Nat × T)) : Operand → List Nat
  | .tmp i => match getT val i with | some x => if x.bare then [] else [i] | none => []
  | _ => []
def delL (t : List (Nat × T)) (l : List Nat) : List (Nat × T) := l.foldl delT t

def Agree (t val : List (Nat × T)) (us : List Nat) : Prop := ∀ j ∈ us, getT t j = getT val j

theorem rdO_agree {t val o} (h : Agree t val (usesO o)) : rdO t o = rdO val o := by
  cases o with
  | tmp i => exact h i (by simp [usesO])
  | _ => rfl

theorem tkO_agree {t val o x} (h : Agree t val (usesO o)) (hx : rdO val o = some x) : tkO t o = some (x, delL t (consO val o)) := by
  cases o with
  | tmp i =>
    have h1 := h i (by simp [usesO])
    have h2 : getT val i = some x := hx
    rw [h2] at h1
    simp only [tkO, h1, Option.map_some, consO, h2]
    by_cases hb : x.bare = true
    · simp [hb, delL]
    · simp [hb, delL]
  | const v => simp [rdO] at hx; subst hx; simp [tkO, rdO, consO, delL]
  | func f => simp [rdO] at hx; subst hx; simp [tkO, rdO, consO, delL]
  | global g => simp [rdO] at hx

theorem getT_delT_ne {t : List (Nat × T)} {i j : Nat} (h : j ≠ i) : getT (delT t i) j = getT t j := by
  induction t with
  | nil => rfl
  | cons e t ih =>
    obtain ⟨k, x⟩ := e
    by_cases hk : k = i
    · subst hk
      have : delT ((k, x) :: t) k = delT t k := by simp [delT]
      rw [this, ih]
      simp only [getT, if_neg (fun e => h (Eq.symm e))]
    · have : delT ((k, x) :: t) i = (k, x) :: delT t i := by simp [delT, hk]
      rw [this]
      simp only [getT, ih]

theorem getT_delL_ne : ∀ {l : List Nat} {t : List (Nat × T)} {j : Nat}, j ∉ l → getT (delL t l) j = getT t j
  | [], t, j, h => rfl
  | i :: l, t, j, h => by
    simp at h
    show getT (delL (delT t i) l) j = _
    rw [getT_delL_ne h.2, getT_delT_ne h.1]

theorem getT_setT_ne {t : List (Nat × T)} {i j : Nat} {x} (h : j ≠ i) : getT (setT t i x) j = getT t j := by
  simp only [setT, getT, if_neg (fun e => h (Eq.symm e))]
  exact getT_delT_ne h
theorem getT_setT_self {t : List (Nat × T)} {i : Nat} {x} : getT (setT t i x) i = some x := by simp [setT, getT]

/-- a bound of a slice expression -/
def bnd (t : List (Nat × T)) (dflt : Nat) : Option Operand → Option Int
  | none => some dflt
  | some o => match rdO t o with | some (.c (.v (.int _ n))) => some n | _ => none


theorem SOp.emptyLit {cx o s K dst t el zl} (ho : o.op = .buildSlice t 0 #[]) (hdst : o.dst = some dst) (hN : dst < cx.N) (hel : tel cx.P t = some el) (hto : tok cx.P el = true) (hz : tzero cx.P el = some zl)
    (hK : K { s with t := setT s.t dst (.c (.own (tsz cx.P el) [])) }) : SOp cx o s K := by
  intro e a w next Q hd hNe hr hk
  obtain ⟨hdf, β, F, G, hx⟩ := hr
  have hsr := run_sizeOf (w := w) hto
  have hrun : (execOp a.eval o).run cx.P w = .ok (.value (.slice (some ⟨w.heap.size, 0, none⟩) 0 0)) { w with heap := w.heap.push (.cells #[] el) } := by
    simp [execOp, ho, Instr.buildSlice, run_underlying (tel_iff hel), Sem.run_bind, hsr, Result.andThen, Instr.fill, Go.newRow, Go.newObj, Sem.run, pure, bind, Sem.bind, Array.range_zero']
  unfold Oper.wp
  rw [hrun]
  show next (a.put o.dst _) _
  obtain ⟨G'', hr'⟩ := hx.putW (dst := dst) (x := .c (.own (tsz cx.P el) [])) (Fx := []) (below_push w _) (Frs.push w _ _ _) hx.tmps (.c (.nil _ (some ⟨w.heap.size, 0, none⟩))) (by simpa using (List.nodup_append.1 hx.nd).2.1) (by simp) (fun b hb => hb) (by rw [hNe]; exact hN)
  refine hk _ _ _ hK ⟨by rw [Act.put_defers]; exact hdf, β, F, G'', ?_⟩
  simpa [Act.put, hdst] using hr'

/-- the source of an append, read -/
def srcV (H : HH) (x : Option T) (z : Nat) (K : List (List Cell) → Prop) : Prop :=
  match x with
  | some (.c (.own z2 els2)) => (els2 ≠ [] → z2 = z) ∧ K els2
  | some (.c (.sl r q z2 i n)) =>
    (match arrAt H r q with
    | some (z', els) => z' = z2 ∧ (∀ row ∈ (els.drop i).take n, ∀ c ∈ row, isOwn c = false) ∧ ((els.drop i).take n ≠ [] → z2 = z) ∧ K ((els.drop i).take n)
    | none => False)
  | _ => False
def partsV (val : List (Nat × T)) : List (Nat × Operand) → Option (List (Nat × List Cell))
  | [] => some []
  | (k, o) :: rest =>
    match rdO val o with
    | some x => (match x.cells with
      | some cs => (match partsV val rest with
        | some ps => some ((k, cs) :: ps)
        | none => none)
      | none => none)
    | none => none
def tinfo (P : Program) (t : TypeId) : Option (Nat × Nat) := (P.info? t).map fun i => (i.size, i.bytes)
theorem tinfo_iff {P : Program} {t sz bs} (h : tinfo P t = some (sz, bs)) : ∃ i, P.info? t = some i ∧ i.size = sz ∧ i.bytes = bs := by
  unfold tinfo at h
  cases hi : P.info? t with
  | none => simp [hi] at h
  | some i => simp [hi] at h; exact ⟨i, rfl, h.1, h.2⟩
/-- a slice with three bounds: its value is not looked at -/
theorem SOp.slice3 {cx o s K dst t x r q z i n el} {lo hi mx : Operand} {kl kh km : IntKind} {l h m : Nat} (ho : o.op = .slice t x (some lo) (some hi) (some mx)) (hdst : o.dst = some dst) (hN : dst < cx.N) (hx : rdO s.t x = some (.c (.sl r q z i n)))
    (hel : tel cx.P t = some el) (hto : tok cx.P el = true) (hlo : rdO s.t lo = some (.c (.v (.int kl l)))) (hhi : rdO s.t hi = some (.c (.v (.int kh h)))) (hmx : rdO s.t mx = some (.c (.v (.int km m))))
    (h1 : l ≤ h) (h2 : h ≤ m) (h3 : m ≤ n) (hK : K { s with t := setT s.t dst .u }) : SOp cx o s K := by
  refine SOp.plain hdst hN (fun w a β F G e hh => ?_) hK
  have hv := rd_ref hh.tmps hx rfl
  have hsz := run_sizeOf (w := w) hto
  obtain ⟨c, els, hd, e1, e2, e3, e4, e5⟩ := hv
  obtain ⟨A, cap, hx2, hcap⟩ : ∃ A cap, a.eval x = .slice A n cap ∧ n ≤ cap := by
    rcases e5 with ⟨b, off, n0, cap0, cap, rfl, e6, e7, e8⟩ | ⟨rfl, A, e6, -⟩
    · exact ⟨_, _, e6, e7⟩
    · exact ⟨_, _, e6, Nat.le_refl _⟩
  have hl := ev_v hh.tmps hlo
  have hh' := ev_v hh.tmps hhi
  have hm := ev_v hh.tmps hmx
  have hsb : (Instr.sliceBounds true n cap (some (a.eval lo)) (some (a.eval hi)) (some (a.eval mx))).run cx.P w = .ok (l, h, m) w := by
    simp [Instr.sliceBounds, hl, hh', hm, Instr.sliceBound, asIntOf, Sem.run_bind, Result.andThen, Sem.run, pure, show (m : Int) ≤ cap by omega, show (h : Int) ≤ m by omega, show (l : Int) ≤ h by omega]
  exact ⟨_, by simp [execOp, ho, Instr.sliceAt, Instr.slice, run_underlying (tel_iff hel), hx2, Sem.run_bind, hsb, hsz, Result.andThen]; rfl, .u _⟩
/-- What an operation gives that turns nothing. -/
def PVal (cx : Cx) (val : List (Nat × T)) (H : HH) (o : Oper) (K : T → Prop) : Prop :=
  match o.op with
  | .move x | .assign x => (match rdO val x with | some y => K y | none => False)
  | .nilCheck x => (match rdO val x with | some (.c (.pt r q z i f)) => K (.c (.pt r q z i f)) | _ => False)
  | .binOp op t x y _ =>
    (match rdO val x, rdO val y with
    | some (.c (.v a)), some (.c (.v b)) => (match pbin op a b with | some z => K (.c (.v z)) | none => (match pbool op a b with | some z => cx.P.underlying t = some .bool ∧ K (.c (.v z)) | none => False))
    | _, _ => False)
  | .unOp op _ x => (match rdO val x with | some (.c (.v a)) => (match pun op a with | some z => K (.c (.v z)) | none => False) | _ => False)
  | .convert src dt x =>
    (match rdO val x, cx.P.underlying dt with
    | some (.c (.v (.int _ n))), some (.int k') => (cx.P.underlying src).isSome = true ∧ K (.c (.v (.int k' (k'.wrap n))))
    | y, some .string =>
      (match tel cx.P src with
      | some e => cx.P.underlying e = some (.int .u8) ∧ srcV H y 1 (fun rows => match bytesOf rows with | some l => K (.c (.v (.string (baOf l)))) | none => False)
      | none => False)
    | _, _ => False)
  | .pick c x y =>
    (match rdO val c with
    | some (.c (.v (.bool b))) => (match (if b then rdO val x else rdO val y) with | some (.c (.v z)) => flat z = true ∧ K (.c (.v z)) | _ => False)
    | _ => False)
  | .fieldAddr st x k =>
    (match rdO val x, tfield cx.P st k with
    | some (.c (.pt r q z i f)), some (off, ft) => (tok cx.P ft = true ∧ tsz cx.P ft ≠ 0 ∧ f + off < z) ∧ K (.c (.pt r q z i (f + off)))
    | _, _ => False)
  | .indexAddr t x ix =>
    (match rdO val x, rdO val ix, tel cx.P t with
    | some (.c (.sl r q z i n)), some (.c (.v (.int _ j))), some el => (tok cx.P el = true ∧ tsz cx.P el = z ∧ 0 < z ∧ 0 ≤ j ∧ j < n) ∧ K (.c (.pt r q z (i + j.toNat) 0))
    | _, _, _ => False)
  | .slice t x lo hi mx =>
    (match mx with
    | none =>
      (match rdO val x, tel cx.P t with
      | some (.c (.sl r q z i n)), some el =>
        (match bnd val 0 lo, bnd val n hi with
        | some l, some h => (tok cx.P el = true ∧ (n ≠ 0 → tsz cx.P el = z) ∧ 0 ≤ l ∧ l ≤ h ∧ h ≤ n) ∧ K (.c (.sl r q z (i + l.toNat) (h.toNat - l.toNat)))
        | _, _ => False)
      | _, _ => False)
    | some mo =>
      (match rdO val x, tel cx.P t, lo, hi with
      | some (.c (.sl r q z i n)), some el, some lo, some hi =>
        (match rdO val lo, rdO val hi, rdO val mo with
        | some (.c (.v (.int _ l))), some (.c (.v (.int _ h))), some (.c (.v (.int _ m))) => (tok cx.P el = true ∧ 0 ≤ l ∧ l ≤ h ∧ h ≤ m ∧ m ≤ n) ∧ K .u
        | _, _, _ => False)
      | _, _, _, _ => False))
  | .build t parts =>
    (match partsV val parts.toList, tzc cx.P t, tplaces cx.P t with
    | some ps, some zl, some pl => (parts.toList.flatMap fun x => usesO x.2).Nodup ∧ (match fillG (fun k => pl[k]?) ps zl with | some l => K (.a l) | none => False)
    | _, _, _ => False)
  | .buildSlice t len parts =>
    (match tel cx.P t with
    | some el =>
      if len = 0 ∧ parts.toList = [] then (tok cx.P el = true ∧ (tzc cx.P el).isSome = true) ∧ K (.c (.own (tsz cx.P el) []))
      else (match tzc cx.P el, partsV val parts.toList with
        | some zl, some ps => ((parts.toList.flatMap fun x => usesO x.2).Nodup ∧ tok cx.P el = true ∧ 0 < zl.length ∧ tsz cx.P el = zl.length ∧ ps.length = len ∧ 0 < len ∧ len * zl.length ≤ 16777216) ∧ (match dense zl.length 0 ps with | some els => K (.c (.own zl.length els)) | none => False)
        | _, _ => False)
    | none => False)
  | .load t x =>
    (match rdO val x with
    | some (.c (.pt r q z i f)) =>
      tok cx.P t = true ∧
      (match arrAt H r q with
      | some (z', els) =>
        z' = z ∧ (match els[i]? with
        | some row => if tagg cx.P t then f + tsz cx.P t ≤ row.length ∧ K (.a (ldcs r q i f ((row.drop f).take (tsz cx.P t)))) else (match row[f]? with | some c => K (.c (ldc r q i f c)) | none => False)
        | none => False)
      | none => False)
    | _ => False)
  | .call c =>
    (match c.callee with
    | .builtin .len =>
      (match c.args.toList, c.argTypes.toList with
      | [x], [t] => (tel cx.P t).isSome = true ∧ (match rdO val x with | some (.c (.sl _ _ _ _ n)) => K (.c (.v (.int .i64 n))) | some (.c (.own _ els)) => K (.c (.v (.int .i64 els.length))) | _ => False)
      | _, _ => False)
    | .builtin .append =>
      (match c.args.toList, c.argTypes.toList with
      | [sb, sx], [t, t'] =>
        (match tel cx.P t with
        | some el => (match tzc cx.P el, tinfo cx.P el with
          | some zl, some (isz, ibs) => (t' = t ∧ (usesO sb ++ usesO sx).Nodup ∧ 0 < zl.length ∧ isz = zl.length ∧ ibs ≤ 1048576) ∧
            (match rdO val sb with
            | some (.c (.own z0 els)) => (z0 = zl.length ∨ z0 = 0) ∧ srcV H (rdO val sx) zl.length (fun els2 => els.length + els2.length ≤ 134217728 ∧ K (.c (.own zl.length (els ++ els2))))
            | _ => False)
          | _, _ => False)
        | none => False)
      | _, _ => False)
    | .value fo =>
      (match rdO val fo, c.args.toList.mapM (rdO val) with
      | some (.c (.fn f caps)), some args => ((c.args.toList.flatMap usesO).Nodup ∧ (∀ c ∈ caps, isRef c = true ∨ ∃ y, c = .v y ∧ flat y = true) ∧ tfunc cx.P f = true) ∧ ∃ x, PFun cx.P f (args ++ caps.map T.c) H x ∧ K x
      | _, _ => False)
    | _ => False)
  | _ => False

/-- The temporaries that an operation looks at, and those that it uses up. -/
def usesOp (o : Oper) : List Nat := o.op.operands.toList.flatMap usesO
def consOp (val : List (Nat × T)) (o : Oper) : List Nat :=
  match o.op with
  | .move x | .assign x => consO val x
  | .buildSlice _ _ parts => parts.toList.flatMap fun x => consO val x.2
  | .build _ parts => parts.toList.flatMap fun x => consO val x.2
  | .call c => (match c.callee with | .value _ => c.args.toList.flatMap (consO val) | .builtin .append => c.args.toList.flatMap (consO val) | _ => [])
  | _ => []

theorem delL_append (t : List (Nat × T)) (a b : List Nat) : delL t (a ++ b) = delL (delL t a) b := by simp [delL, List.foldl_append]

theorem Agree.mono {t val us us'} (h : Agree t val us) (hs : ∀ j ∈ us', j ∈ us) : Agree t val us' := fun j hj => h j (hs j hj)

theorem tkArgs_agree {val} : ∀ {os : List Operand} {t args}, Agree t val (os.flatMap usesO) → (os.flatMap usesO).Nodup → os.mapM (rdO val) = some args → tkArgs t os = some (args, delL t (os.flatMap (consO val)))
  | [], t, args, _, _, h => by simp at h; subst h; rfl
  | o :: os, t, args, ha, hn, h => by
    simp only [List.mapM_cons, Option.bind_eq_bind, Option.pure_def] at h
    cases ho : rdO val o with
    | none => simp [ho] at h
    | some x =>
      cases hos : os.mapM (rdO val) with
      | none => simp [ho, hos] at h
      | some xs =>
        simp [ho, hos] at h
        subst h
        simp only [List.flatMap_cons] at ha hn
        obtain ⟨n1, n2, n3⟩ := List.nodup_append.1 hn
        have h1 := tkO_agree (t := t) (ha.mono (fun j hj => by simp [hj])) ho
        have hsub : ∀ j ∈ consO val o, j ∈ usesO o := by
          intro j hj
          cases o with
          | tmp i => simp only [consO] at hj; split at hj <;> (try split at hj) <;> simp_all [usesO]
          | _ => simp [consO] at hj
        have h2 := tkArgs_agree (t := delL t (consO val o)) (args := xs) (fun j hj => by
          rw [getT_delL_ne (fun hm => n3 j (hsub j hm) j hj rfl)]
          exact ha j (by simp only [List.mem_append]; exact .inr hj)) n2 hos
        simp only [tkArgs, h1, h2, List.flatMap_cons, delL_append]

theorem consO_sub {val : List (Nat × T)} {o : Operand} : ∀ j ∈ consO val o, j ∈ usesO o := by
  intro j hj
  cases o with
  | tmp i => simp only [consO] at hj; split at hj <;> (try split at hj) <;> simp_all [usesO]
  | _ => simp [consO] at hj
theorem tkParts_agree {val} : ∀ {parts : List (Nat × Operand)} {t ps}, Agree t val (parts.flatMap fun x => usesO x.2) → (parts.flatMap fun x => usesO x.2).Nodup → partsV val parts = some ps → tkParts t parts = some (ps, delL t (parts.flatMap fun x => consO val x.2))
  | [], t, ps, _, _, h => by simp [partsV] at h; subst h; rfl
  | (k, o) :: rest, t, ps, ha, hn, h => by
    unfold partsV at h
    split at h
    · rename_i x hx
      split at h
      · rename_i cs hcs
        split at h
        · rename_i ps' hps
          cases h
          simp only [List.flatMap_cons] at ha hn
          obtain ⟨n1, n2, n3⟩ := List.nodup_append.1 hn
          have h1 := tkO_agree (t := t) (ha.mono (fun j hj => by simp [hj])) hx
          have h2 := tkParts_agree (t := delL t (consO val o)) (fun j hj => by
            rw [getT_delL_ne (fun hm => n3 j (consO_sub j hm) j hj rfl)]
            exact ha j (by simp only [List.mem_append]; exact .inr hj)) n2 hps
          simp only [tkParts, h1, hcs, h2, List.flatMap_cons, delL_append]
        · cases h
      · cases h
    · cases h
theorem PVal.fam {cx val H o K} (h : PVal cx val H o K) : ∃ x, K x ∧ ∀ t lg dst, o.dst = some dst → dst < cx.N → Agree t val (usesOp o) → SOp cx o ⟨t, H, lg⟩ (fun s' => s' = ⟨setT (delL t (consOp val o)) dst x, H, lg⟩) := by
  have ag : ∀ {t : List (Nat × T)} {x : Operand}, Agree t val (usesOp o) → x ∈ o.op.operands.toList → rdO t x = rdO val x := by
    intro t x ha hx
    exact rdO_agree (ha.mono (fun j hj => List.mem_flatMap.2 ⟨x, hx, hj⟩))
  unfold PVal at h
  cases hop : o.op with
  | move x =>
    simp only [hop] at h
    split at h
    · rename_i y hy
      refine ⟨y, h, fun t lg dst hd hN ha => SOp.move (.inl hop) hd hN (tkO_agree (ha.mono (fun j hj => List.mem_flatMap.2 ⟨x, by simp [hop, Op.operands], hj⟩)) hy) (by simp [consOp, hop])⟩
    · exact h.elim
  | assign x =>
    simp only [hop] at h
    split at h
    · rename_i y hy
      refine ⟨y, h, fun t lg dst hd hN ha => SOp.move (.inr hop) hd hN (tkO_agree (ha.mono (fun j hj => List.mem_flatMap.2 ⟨x, by simp [hop, Op.operands], hj⟩)) hy) (by simp [consOp, hop])⟩
    · exact h.elim
  | nilCheck x =>
    simp only [hop] at h
    split at h
    · rename_i r q z i f hy
      exact ⟨_, h, fun t lg dst hd hN ha => SOp.nilCheck hop hd hN ((ag ha (by simp [hop, Op.operands])).trans hy) (by simp [consOp, hop, delL])⟩
    · exact h.elim
  | binOp op tx x y ty =>
    simp only [hop] at h
    split at h
    · rename_i a b hx hy
      split at h
      · rename_i z hz
        exact ⟨_, h, fun t lg dst hd hN ha => SOp.bin hop hd hN ((ag ha (by simp [hop, Op.operands])).trans hx) ((ag ha (by simp [hop, Op.operands])).trans hy) hz (by simp [consOp, hop, delL])⟩
      · split at h
        · rename_i z hz
          exact ⟨_, h.2, fun t lg dst hd hN ha => SOp.binB hop hd hN ((ag ha (by simp [hop, Op.operands])).trans hx) ((ag ha (by simp [hop, Op.operands])).trans hy) hz h.1 (by simp [consOp, hop, delL])⟩
        · exact h.elim
    · exact h.elim
  | unOp op tx x =>
    simp only [hop] at h
    split at h
    · rename_i a hx
      split at h
      · rename_i z hz
        exact ⟨_, h, fun t lg dst hd hN ha => SOp.un hop hd hN ((ag ha (by simp [hop, Op.operands])).trans hx) hz (by simp [consOp, hop, delL])⟩
      · exact h.elim
    · exact h.elim
  | convert src dt x =>
    simp only [hop] at h
    split at h
    · rename_i k n k' hx hk
      exact ⟨_, h.2, fun t lg dst hd hN ha => SOp.conv hop hd hN ((ag ha (by simp [hop, Op.operands])).trans hx) h.1 hk (by simp [consOp, hop, delL])⟩
    · rename_i hdt
      split at h
      · rename_i el hel
        obtain ⟨he, h⟩ := h
        unfold srcV at h
        split at h
        · rename_i z2 els2 hx
          obtain ⟨hz2, h⟩ := h
          split at h
          · rename_i l hl
            exact ⟨_, h, fun t lg dst hd hN ha => SOp.bytesStr hop hd hN (.own (t2 := delL t (consO val x)) (tkO_agree (ha.mono (fun j hj => List.mem_flatMap.2 ⟨x, by simp [hop, Op.operands], hj⟩)) hx) hz2) hl (tel_iff hel) he hdt (by simp [consOp, hop, delL])⟩
          · exact h.elim
        · rename_i r q z2 i n hx
          split at h
          · rename_i z' els' harr
            obtain ⟨rfl, hno, hz2, h⟩ := h
            split at h
            · rename_i l hl
              exact ⟨_, h, fun t lg dst hd hN ha => SOp.bytesStr hop hd hN (.ref ((ag ha (by simp [hop, Op.operands])).trans hx) harr rfl hno hz2) hl (tel_iff hel) he hdt (by simp [consOp, hop, delL])⟩
            · exact h.elim
          · exact h.elim
        · exact h.elim
      · exact h.elim
    · exact h.elim
  | pick c x y =>
    simp only [hop] at h
    split at h
    · rename_i b hc
      split at h
      · rename_i z hz
        refine ⟨_, h.2, fun t lg dst hd hN ha => SOp.pick hop hd hN ((ag ha (by simp [hop, Op.operands])).trans hc) ?_ h.1 (by simp [consOp, hop, delL])⟩
        rw [ag (x := x) ha (by simp [hop, Op.operands]), ag (x := y) ha (by simp [hop, Op.operands])]
        exact hz
      · exact h.elim
    · exact h.elim
  | fieldAddr st x k =>
    simp only [hop] at h
    split at h
    · rename_i r q z i f off ft hx hft
      exact ⟨_, h.2, fun t lg dst hd hN ha => SOp.fieldAddr hop hd hN ((ag ha (by simp [hop, Op.operands])).trans hx) hft h.1.1 h.1.2.1 h.1.2.2 (by simp [consOp, hop, delL])⟩
    · exact h.elim
  | indexAddr t x ix =>
    simp only [hop] at h
    split at h
    · rename_i r q z i n k j el hx hix hel
      exact ⟨_, h.2, fun t lg dst hd hN ha => SOp.indexAddr hop hd hN ((ag ha (by simp [hop, Op.operands])).trans hx) ((ag ha (by simp [hop, Op.operands])).trans hix) hel h.1.1 h.1.2.1 h.1.2.2.1 h.1.2.2.2.1 h.1.2.2.2.2 (by simp [consOp, hop, delL])⟩
    · exact h.elim
  | slice ty x lo hi mx =>
    simp only [hop] at h
    cases mx with
    | some m =>
      simp only at h
      split at h
      · rename_i r q z i n el lo hi hx hel
        split at h
        · rename_i k1 l k2 hh k3 m' hlo hhi hmx
          obtain ⟨⟨hto, h0, h1, h2, h3⟩, hk⟩ := h
          refine ⟨_, hk, fun t lg dst hd hN ha => ?_⟩
          obtain ⟨l, rfl⟩ := Int.eq_ofNat_of_zero_le h0
          obtain ⟨hh, rfl⟩ := Int.eq_ofNat_of_zero_le (Int.le_trans h0 h1)
          obtain ⟨m', rfl⟩ := Int.eq_ofNat_of_zero_le (Int.le_trans (Int.le_trans h0 h1) h2)
          exact SOp.slice3 hop hd hN ((ag ha (by simp [hop, Op.operands])).trans hx) hel hto ((ag ha (by simp [hop, Op.operands])).trans hlo) ((ag ha (by simp [hop, Op.operands])).trans hhi) ((ag ha (by simp [hop, Op.operands])).trans hmx) (by omega) (by omega) (by omega) (by simp [consOp, hop, delL])
        · exact h.elim
      · exact h.elim
    | none =>
      simp only at h
      split at h
      · rename_i r q z i n el hx hel
        split at h
        · rename_i l hh hlo hhi
          obtain ⟨⟨hto, htz, h0, h1, h2⟩, hk⟩ := h
          refine ⟨_, hk, fun t lg dst hd hN ha => ?_⟩
          obtain ⟨l, rfl⟩ := Int.eq_ofNat_of_zero_le h0
          obtain ⟨hh, rfl⟩ := Int.eq_ofNat_of_zero_le (Int.le_trans h0 h1)
          have hb : ∀ (oo : Option Operand) (df v : Nat), (∀ ol, oo = some ol → ol ∈ o.op.operands.toList) → bnd val df oo = some (v : Int) → (oo = none ∧ v = df) ∨ ∃ ol k, oo = some ol ∧ rdO t ol = some (.c (.v (.int k v))) := by
            intro oo df v hm hb
            cases oo with
            | none => simp only [bnd, Option.some.injEq] at hb; exact .inl ⟨rfl, by omega⟩
            | some ol =>
              simp only [bnd] at hb
              split at hb
              · rename_i k n hr; cases hb; exact .inr ⟨ol, k, rfl, (ag ha (hm ol rfl)).trans hr⟩
              · cases hb
          exact SOp.slice hop hd hN ((ag ha (by simp [hop, Op.operands])).trans hx) hel hto htz (hb _ _ _ (fun ol e => by simp [hop, Op.operands, e]) hlo) (hb _ _ _ (fun ol e => by simp [hop, Op.operands, e]) hhi) (by omega) (.inl (by omega)) (by simp [consOp, hop, delL])
        · exact h.elim
      · exact h.elim
  | build ty parts =>
    simp only [hop] at h
    split at h
    · rename_i ps zl pl hps hz hpl
      obtain ⟨hnd, h⟩ := h
      split at h
      · rename_i l hl
        refine ⟨_, h, fun t lg dst hd hN ha => ?_⟩
        have hops : o.op.operands.toList = parts.toList.map (·.2) := by simp [hop, Op.operands]
        have hta := tkParts_agree (t := t) (ha.mono (fun j hj => by
          obtain ⟨y, h1, h2⟩ := List.mem_flatMap.1 hj
          exact List.mem_flatMap.2 ⟨y.2, by rw [hops]; exact List.mem_map.2 ⟨y, h1, rfl⟩, h2⟩)) hnd hps
        exact SOp.build hop hd hN hta hz hpl hl (by simp [consOp, hop])
      · exact h.elim
    · exact h.elim
  | buildSlice ty len parts =>
    simp only [hop] at h
    split at h
    · rename_i el hel
      split at h
      · rename_i he
        obtain ⟨⟨hto, hz⟩, h⟩ := h
        obtain ⟨zl, hz⟩ := Option.isSome_iff_exists.1 hz
        obtain ⟨zs, zl, hz1, hfl, rfl⟩ := tzc_iff hz
        obtain ⟨rfl, he⟩ := he
        have hp : parts = #[] := by cases parts; simp_all
        subst hp
        exact ⟨_, h, fun t lg dst hd hN ha => SOp.emptyLit hop hd hN hel hto hz1 (by simp [consOp, hop, delL])⟩
      · split at h
        · rename_i zl ps hz hps
          obtain ⟨⟨hnd, h1, h3, h4, h5, h6, h7⟩, h⟩ := h
          split at h
          · rename_i els hde
            refine ⟨_, h, fun t lg dst hd hN ha => ?_⟩
            have hops : o.op.operands.toList = parts.toList.map (·.2) := by simp [hop, Op.operands]
            have hta := tkParts_agree (t := t) (ha.mono (fun j hj => by
              obtain ⟨y, h1, h2⟩ := List.mem_flatMap.1 hj
              exact List.mem_flatMap.2 ⟨y.2, by rw [hops]; exact List.mem_map.2 ⟨y, h1, rfl⟩, h2⟩)) hnd hps
            exact SOp.buildSlice hop hd hN hta hel h1 hz h3 h4 h5 h6 hde h7 (by simp [consOp, hop])
          · exact h.elim
        · exact h.elim
    · exact h.elim
  | load ty x =>
    simp only [hop] at h
    split at h
    · rename_i r q z i f hx
      obtain ⟨hto, h⟩ := h
      split at h
      · rename_i z' els harr
        obtain ⟨rfl, h⟩ := h
        split at h
        · rename_i row hrow
          split at h
          · rename_i hagg
            exact ⟨_, h.2, fun t lg dst hd hN ha => SOp.loadN hop hd hN ((ag ha (by simp [hop, Op.operands])).trans hx) hto hagg harr hrow h.1 (by simp [consOp, hop, delL])⟩
          · rename_i hagg
            split at h
            · rename_i c hc
              exact ⟨_, h, fun t lg dst hd hN ha => SOp.load1 hop hd hN ((ag ha (by simp [hop, Op.operands])).trans hx) hto (by simpa using hagg) harr hrow hc (by simp [consOp, hop, delL])⟩
            · exact h.elim
        · exact h.elim
      · exact h.elim
    · exact h.elim
  | call c =>
    simp only [hop] at h
    cases hcal : c.callee with
    | value fo =>
      simp only [hcal] at h
      split at h
      · rename_i f caps args hfo hargs
        obtain ⟨⟨hnd, hcaps, hfn⟩, x, hfun, hk⟩ := h
        refine ⟨x, hk, fun t lg dst hd hN ha => ?_⟩
        have hops : o.op.operands.toList = fo :: c.args.toList := by simp [hop, Op.operands, Call.operands, hcal]
        have hfo' := (ag (x := fo) ha (by simp [hops])).trans hfo
        have hta := tkArgs_agree (t := t) (ha.mono (fun j hj => by
          obtain ⟨y, h1, h2⟩ := List.mem_flatMap.1 hj
          exact List.mem_flatMap.2 ⟨y, by simp only [hops]; exact List.mem_cons_of_mem _ h1, h2⟩)) hnd hargs
        refine SOp.call hop hcal hfo' hcaps hfn hta (fun d hd' => by rw [hd] at hd'; cases hd'; exact hN) (hfun.mono ?_)
        rintro T1 H' lg' ⟨rfl, rfl, rfl⟩
        refine ⟨by simp, ?_⟩
        have hkl : ∀ u : List (Nat × T), u.filter (fun en => keepL [] en.2) = u := fun u => by
          rw [List.filter_eq_self]; intro e _; rfl
        simp [putD, hd, consOp, hop, hcal, hkl]
      · exact h.elim
    | builtin b =>
      simp only [hcal] at h
      cases b with
      | len =>
        simp only at h
        split at h
        · rename_i x ty hargs hty
          obtain ⟨hel, h⟩ := h
          obtain ⟨el, hel⟩ := Option.isSome_iff_exists.1 hel
          have ha1 : c.args = #[x] := by cases hc : c.args; simp_all
          have ha2 : c.argTypes = #[ty] := by cases hc : c.argTypes; simp_all
          split at h
          · rename_i r q z i n hx
            exact ⟨_, h, fun t lg dst hd hN ha => SOp.len hop hcal ha1 ha2 hel hd hN (.inl ⟨r, q, z, i, (ag ha (by simp [hop, Op.operands, Call.operands, hcal, ha1])).trans hx⟩) (by simp [consOp, hop, hcal, delL])⟩
          · rename_i z els hx
            exact ⟨_, h, fun t lg dst hd hN ha => SOp.len hop hcal ha1 ha2 hel hd hN (.inr ⟨z, els, (ag ha (by simp [hop, Op.operands, Call.operands, hcal, ha1])).trans hx, rfl⟩) (by simp [consOp, hop, hcal, delL])⟩
          · exact h.elim
        · exact h.elim
      | append =>
        simp only at h
        split at h
        · rename_i sb sx ty ty' hargs hty
          split at h
          · rename_i el hel
            split at h
            · rename_i zl isz ibs hz hti
              obtain ⟨⟨rfl, hnd, h1, h2, h3⟩, h⟩ := h
              obtain ⟨inf, hinf, rfl, rfl⟩ := tinfo_iff hti
              have ha1 : c.args = #[sb, sx] := by cases hc : c.args; simp_all
              have ha2 : c.argTypes = #[ty', ty'] := by cases hc : c.argTypes; simp_all
              split at h
              · rename_i z0 els hb
                obtain ⟨hz0, h⟩ := h
                obtain ⟨n1, n2, n3⟩ := List.nodup_append.1 hnd
                have hops : o.op.operands.toList = [sb, sx] := by simp [hop, Op.operands, Call.operands, hcal, ha1]
                have hcons : consOp val o = consO val sb ++ consO val sx := by simp [consOp, hop, hcal, ha1]
                have key : ∀ {t : List (Nat × T)}, Agree t val (usesOp o) → tkO t sb = some (.c (.own z0 els), delL t (consO val sb)) ∧ Agree (delL t (consO val sb)) val (usesO sx) := by
                  intro t ha
                  refine ⟨tkO_agree (ha.mono (fun j hj => List.mem_flatMap.2 ⟨sb, by simp [hops], hj⟩)) hb, fun j hj => ?_⟩
                  rw [getT_delL_ne (fun hm => n3 j (consO_sub j hm) j hj rfl)]
                  exact ha j (List.mem_flatMap.2 ⟨sx, by simp [hops], hj⟩)
                unfold srcV at h
                split at h
                · rename_i z2 els2 hx
                  obtain ⟨hz2, hbd, hk⟩ := h
                  refine ⟨_, hk, fun t lg dst hd hN ha => ?_⟩
                  obtain ⟨k1, k2⟩ := key ha
                  exact SOp.append hop hcal ha1 ha2 hd hN k1 (.own (tkO_agree k2 hx) hz2) hel hinf hz h1 h2 hz0 hbd h3 (by simp [hcons, delL_append])
                · rename_i r q z2 i n hx
                  split at h
                  · rename_i z' els' harr
                    obtain ⟨rfl, hno, hz2, hbd, hk⟩ := h
                    refine ⟨_, hk, fun t lg dst hd hN ha => ?_⟩
                    obtain ⟨k1, k2⟩ := key ha
                    have hcx : consO val sx = [] := by
                      cases sx with
                      | tmp j => simp only [rdO] at hx; simp [consO, hx, T.bare, isOwn]
                      | _ => rfl
                    exact SOp.append hop hcal ha1 ha2 hd hN k1 (.ref ((rdO_agree k2).trans hx) harr rfl hno hz2) hel hinf hz h1 h2 hz0 hbd h3 (by simp [hcons, hcx])
                  · exact h.elim
                · exact h.elim
              · exact h.elim
            · exact h.elim
          · exact h.elim
        · exact h.elim
      | _ => exact h.elim
    | invoke r m => simp only [hcal] at h
  | _ => simp [hop] at h

end Go.Px


namespace Go.Px
open Go.RowKit
set_option linter.unusedVariables false
set_option linter.unusedSimpArgs false
set_option linter.constructorNameAsVariable false

/-- One operation of a drawn region, in whatever state agrees with val on what it looks at: it puts x. -/
def FOp (cx : Cx) (ops : Array Oper) (i : Nat) (val : List (Nat × T)) (H : HH) (us cs : List Nat) (dst : Nat) (x : T) : Prop :=
  ∀ (e : Env) (a : Act) (w : World) (t : List (Nat × T)) (lg : List (Nm × Path)) (K : Act → World → Prop) (Q : Exit → Act → World → Prop), e.d = cx.d → e.N = cx.N → Agree t val us → Rel e ⟨t, H, lg⟩ a w →
    (∀ a' w', Rel e ⟨setT (delL t cs) dst x, H, lg⟩ a' w' → K a' w') → wpOp cx.P ops Q i K a w

def guardU (ops : Array Oper) (o : Oper) : List Nat :=
  match o.guard with
  | some (j, _) => ((ops[j]?).bind (·.dst)).toList
  | none => []
/-- the temporaries that operation i looks at -/
def usAt (ops : Array Oper) (i : Nat) : List Nat := match ops[i]? with | some o => usesOp o ++ guardU ops o | none => []
def dstAt (ops : Array Oper) (i : Nat) : Option Nat := (ops[i]?).bind (·.dst)
/-- what operation i uses up is looked at by no other one of the first m -/
def consChk (ops : Array Oper) (m i : Nat) (cs : List Nat) : Bool := cs.all fun j => (List.range m).all fun k => k == i || !(usAt ops k).contains j

/-- the free operations in the order of the text: what each gives; then K of all values, and of what is used up -/
def FRun (cx : Cx) (ops : Array Oper) (m : Nat) (H : HH) : Nat → Nat → List (Nat × T) → List Nat → (List (Nat × T) → List Nat → Prop) → Prop
  | 0, _, val, cs, K => K val cs
  | n + 1, i, val, cs, K =>
    match ops[i]? with
    | some o =>
      (match o.dst with
      | some dst =>
        dst < cx.N ∧
        (match o.guard with
        | none => consChk ops m i (consOp val o) = true ∧ PVal cx val H o (fun x => FRun cx ops m H n (i + 1) ((dst, x) :: val) (consOp val o ++ cs) K)
        | some (j, b) =>
          (match (ops[j]?).bind (·.dst) with
          | some dj =>
            (match getT val dj with
            | some (.c (.v (.bool b'))) => if b' = b then consChk ops m i (consOp val o) = true ∧ PVal cx val H o (fun x => FRun cx ops m H n (i + 1) ((dst, x) :: val) (consOp val o ++ cs) K) else FRun cx ops m H n (i + 1) ((dst, .t []) :: val) cs K
            | some (.t []) => FRun cx ops m H n (i + 1) ((dst, .t []) :: val) cs K
            | _ => False)
          | none => False))
      | none => False)
    | none => False

theorem FOp.of {cx ops i o val H K} (ho : ops[i]? = some o) (hg : o.guard = none) {dst} (hd : o.dst = some dst) (hN : dst < cx.N) (h : PVal cx val H o K) : ∃ x, K x ∧ FOp cx ops i val H (usAt ops i) (consOp val o) dst x := by
  obtain ⟨x, hk, hf⟩ := h.fam
  refine ⟨x, hk, fun e a w t lg K' Q he hNe hag hr hk' => ?_⟩
  have hs := hf t lg dst hd hN (hag.mono (fun j hj => by simp [usAt, ho, hj])) e a w K' Q he hNe hr (fun s' a' w' hs hr' => hk' a' w' (by rw [hs] at hr'; exact hr'))
  simp only [wpOp, ho]
  have : Region.wanted o (yielded ops a.tmps) = true := by simp [Region.wanted, hg]
  rw [if_pos this]
  exact .inl hs

theorem wanted_of {e s a w G ops o j b dj b'} {β : Nm → Value} {F : List Nat} (hx : RelX e s a w β F G) (hg : o.guard = some (j, b)) (hj : (ops[j]?).bind (·.dst) = some dj) (hb : getT s.t dj = some (.c (.v (.bool b')))) :
    Region.wanted o (yielded ops a) = (b' == b) := by
  have hv : a[dj]? = some (.bool b') := by
    obtain ⟨v, F1, h1, h2, -⟩ := hx.tmps.read hb
    cases h2 with
    | c hrep =>
      cases hrep with
      | v => exact h1
      | ref hi => simp [isRef] at hi
  cases hoj : ops[j]? with
  | none => simp [hoj] at hj
  | some oj =>
    simp [hoj] at hj
    simp [Region.wanted, hg, yielded, hoj, hj, hv, Array.getD_eq_getD_getElem?]

theorem FOp.of_guard {cx ops i o val H K j b dj} (ho : ops[i]? = some o) (hg : o.guard = some (j, b)) (hj : (ops[j]?).bind (·.dst) = some dj) (hb : getT val dj = some (.c (.v (.bool b)))) {dst} (hd : o.dst = some dst) (hN : dst < cx.N) (h : PVal cx val H o K) :
    ∃ x, K x ∧ FOp cx ops i val H (usAt ops i) (consOp val o) dst x := by
  obtain ⟨x, hk, hf⟩ := h.fam
  refine ⟨x, hk, fun e a w t lg K' Q he hNe hag hr hk' => ?_⟩
  have hs := hf t lg dst hd hN (hag.mono (fun j hj => by simp [usAt, ho, hj])) e a w K' Q he hNe hr (fun s' a' w' hs hr' => hk' a' w' (by rw [hs] at hr'; exact hr'))
  simp only [wpOp, ho]
  have hb' : getT t dj = some (.c (.v (.bool b))) := (hag dj (by simp [usAt, ho, guardU, hg, hj])).trans hb
  obtain ⟨_, β, F, G, hx⟩ := hr
  have := wanted_of hx hg hj hb'
  rw [if_pos (by rw [this]; simp)]
  exact .inl hs

theorem wanted_u {e s a w G ops o j b dj} {β : Nm → Value} {F : List Nat} (hx : RelX e s a w β F G) (hg : o.guard = some (j, b)) (hj : (ops[j]?).bind (·.dst) = some dj) (hb : getT s.t dj = some (.t [])) :
    Region.wanted o (yielded ops a) = false := by
  have hv : a[dj]? = some (.tuple #[]) := by
    obtain ⟨v, F1, h1, h2, -⟩ := hx.tmps.read hb
    cases h2 with
    | t hrep => cases hrep; exact h1
  cases hoj : ops[j]? with
  | none => simp [hoj] at hj
  | some oj =>
    simp [hoj] at hj
    simp [Region.wanted, hg, yielded, hoj, hj, hv]
theorem FOp.skip {cx ops i o val H j b b' dj} (ho : ops[i]? = some o) (hg : o.guard = some (j, b)) (hj : (ops[j]?).bind (·.dst) = some dj) (hb : getT val dj = some (.c (.v (.bool b')))) (hne : b' ≠ b) {dst} (hd : o.dst = some dst) (hN : dst < cx.N) :
    FOp cx ops i val H (usAt ops i) [] dst (.t []) := by
  intro e a w t lg K' Q he hNe hag hr hk'
  simp only [wpOp, ho]
  have hb' : getT t dj = some (.c (.v (.bool b'))) := (hag dj (by simp [usAt, ho, guardU, hg, hj])).trans hb
  obtain ⟨hdf, β, F, G, hx⟩ := hr
  have := wanted_of hx hg hj hb'
  rw [if_neg (by rw [this]; simpa using hne)]
  obtain ⟨G'', hx'⟩ := hx.put (dst := dst) (x := .t []) (v := undef) (Fx := []) hx.tmps (.t .nil) (by simpa using (List.nodup_append.1 hx.nd).2.1) (by simp) (by rw [hNe]; exact hN)
  refine hk' _ _ ⟨?_, β, F, G'', ?_⟩
  · simp [Act.put, hd, hdf]
  · simpa [Act.put, hd, delL] using hx'

theorem FOp.skipU {cx ops i o val H j b dj} (ho : ops[i]? = some o) (hg : o.guard = some (j, b)) (hj : (ops[j]?).bind (·.dst) = some dj) (hb : getT val dj = some (.t [])) {dst} (hd : o.dst = some dst) (hN : dst < cx.N) :
    FOp cx ops i val H (usAt ops i) [] dst (.t []) := by
  intro e a w t lg K' Q he hNe hag hr hk'
  simp only [wpOp, ho]
  have hb' : getT t dj = some (.t []) := (hag dj (by simp [usAt, ho, guardU, hg, hj])).trans hb
  obtain ⟨hdf, β, F, G, hx⟩ := hr
  have := wanted_u hx hg hj hb'
  rw [if_neg (by rw [this]; simp)]
  obtain ⟨G'', hx'⟩ := hx.put (dst := dst) (x := .t []) (v := undef) (Fx := []) hx.tmps (.t .nil) (by simpa using (List.nodup_append.1 hx.nd).2.1) (by simp) (by rw [hNe]; exact hN)
  refine hk' _ _ ⟨?_, β, F, G'', ?_⟩
  · simp [Act.put, hd, hdf]
  · simpa [Act.put, hd, delL] using hx'

/-- one row of the table -/
structure Row (cx : Cx) (ops : Array Oper) (m : Nat) (H : HH) (val : List (Nat × T)) (cs0 : List Nat) (xs : List (Nat × T)) (csA : List Nat) (i k : Nat) (dst : Nat) (x : T) (cs : List Nat) : Prop where
  at_ : xs[k]? = some (dst, x)
  dst_ : dstAt ops (i + k) = some dst
  lt : dst < cx.N
  fop : FOp cx ops (i + k) ((xs.take k).reverse ++ val) H (usAt ops (i + k)) cs dst x
  chk : consChk ops m (i + k) cs = true
  sub : ∀ j ∈ cs, j ∈ csA

/-- what FRun gives: a table of values, and for each operation that it puts its own -/
theorem FRun.table {cx ops m H} : ∀ {n i val cs0 K}, FRun cx ops m H n i val cs0 K → ∃ (xs : List (Nat × T)) (csA : List Nat) (csL : List (List Nat)), xs.length = n ∧ K (xs.reverse ++ val) csA ∧ (∀ j ∈ cs0, j ∈ csA) ∧
    ∀ k, k < n → ∃ dst x, Row cx ops m H val cs0 xs csA i k dst x (csL.getD k [])
  | 0, i, val, cs0, K, h => ⟨[], cs0, [], rfl, h, fun _ h => h, by simp⟩
  | n + 1, i, val, cs0, K, h => by
    simp only [FRun] at h
    cases ho : ops[i]? with
    | none => simp [ho] at h
    | some o =>
      simp only [ho] at h
      cases hd : o.dst with
      | none => simp [hd] at h
      | some dst =>
        simp only [hd] at h
        obtain ⟨hN, h⟩ := h
        have fin : ∀ x cs, FOp cx ops i val H (usAt ops i) cs dst x → consChk ops m i cs = true → FRun cx ops m H n (i + 1) ((dst, x) :: val) (cs ++ cs0) K → ∃ (xs : List (Nat × T)) (csA : List Nat) (csL : List (List Nat)), xs.length = n + 1 ∧ K (xs.reverse ++ val) csA ∧ (∀ j ∈ cs0, j ∈ csA) ∧
            ∀ k, k < n + 1 → ∃ dst x, Row cx ops m H val cs0 xs csA i k dst x (csL.getD k []) := by
          intro x cs hf hcs hrest
          obtain ⟨xs, csA, csL, h1, h2, h3, h4⟩ := FRun.table hrest
          refine ⟨(dst, x) :: xs, csA, cs :: csL, by simp [h1], by simpa using h2, fun j hj => h3 j (by simp [hj]), fun k hk => ?_⟩
          cases k with
          | zero => exact ⟨dst, x, ⟨by simp, by simp [dstAt, ho, hd], hN, by simpa using hf, by simpa using hcs, fun j hj => h3 j (by simp at hj; simp [hj])⟩⟩
          | succ k =>
            obtain ⟨dst', x', hr⟩ := h4 k (by omega)
            have e : i + (k + 1) = i + 1 + k := by omega
            exact ⟨dst', x', ⟨by simpa using hr.at_, by rw [e]; exact hr.dst_, hr.lt, by rw [e]; simpa using hr.fop, by rw [e]; simpa using hr.chk, by simpa using hr.sub⟩⟩
        cases hg : o.guard with
        | none =>
          simp only [hg] at h
          obtain ⟨x, hk, hf⟩ := FOp.of ho hg hd hN h.2
          exact fin x _ hf h.1 hk
        | some jb =>
          obtain ⟨j, b⟩ := jb
          simp only [hg] at h
          cases hj : (ops[j]?).bind (·.dst) with
          | none => simp [hj] at h
          | some dj =>
            simp only [hj] at h
            split at h
            · rename_i b' hb
              split at h
              · rename_i hbb
                subst hbb
                obtain ⟨x, hk, hf⟩ := FOp.of_guard ho hg hj hb hd hN h.2
                exact fin x _ hf h.1 hk
              · rename_i hbb
                exact fin (.t []) [] (FOp.skip ho hg hj hb hbb hd hN) rfl (by simpa using h)
            · rename_i hb
              exact fin (.t []) [] (FOp.skipU ho hg hj hb hd hN) rfl (by simpa using h)
            · exact h.elim

/-- what an operation waits for -/
def deps (ops : Array Oper) (i : Nat) : List Nat := match ops[i]? with | some o => (o.after.toList.filter (fun e => Region.binds .any e)).map (·.on) | none => []
def ancs (ops : Array Oper) : Nat → List (List Nat)
  | 0 => []
  | n + 1 => ancs ops n ++ [deps ops n ++ (deps ops n).flatMap fun d => (ancs ops n).getD d []]

theorem ancs_length (ops) : ∀ n, (ancs ops n).length = n
  | 0 => rfl
  | n + 1 => by simp [ancs, ancs_length ops n]
theorem ancs_getD (ops) : ∀ {n i}, i < n → (ancs ops n).getD i [] = deps ops i ++ (deps ops i).flatMap fun d => (ancs ops i).getD d []
  | 0, i, h => by omega
  | n + 1, i, h => by
    by_cases hi : i < n
    · rw [ancs, List.getD_eq_getElem?_getD, List.getElem?_append_left (by rw [ancs_length]; exact hi), ← List.getD_eq_getElem?_getD]
      exact ancs_getD ops hi
    · have : i = n := by omega
      subst this
      rw [ancs, List.getD_eq_getElem?_getD, List.getElem?_append_right (by rw [ancs_length]; exact Nat.le_refl _)]
      simp [ancs_length]

def Closed (ops : Array Oper) (listed : Array Bool) : Prop := ∀ i, listed.getD i true = true → i < ops.size → ∀ d ∈ deps ops i, listed.getD d false = true

theorem closed_anc {ops : Array Oper} {listed : Array Bool} (hs : listed.size = ops.size) (hc : Closed ops listed) : ∀ n i, i < n → i < ops.size → (∀ d ∈ deps ops i, listed.getD d false = true) → ∀ k ∈ (ancs ops n).getD i [], listed.getD k false = true := by
  intro n
  induction n with
  | zero => intro i hi; omega
  | succ n ih =>
    intro i hi hio hd k hk
    rw [ancs_getD ops hi] at hk
    rcases List.mem_append.1 hk with hk | hk
    · exact hd k hk
    · obtain ⟨d, hd1, hd2⟩ := List.mem_flatMap.1 hk
      have hdl := hd d hd1
      have hdi : d < i := by
        apply Classical.byContradiction
        intro hge
        rw [List.getD_eq_getElem?_getD, List.getElem?_eq_none (by rw [ancs_length]; omega)] at hd2
        simp at hd2
      have hdo : d < ops.size := by omega
      have e : (ancs ops i).getD d [] = (ancs ops n).getD d [] := by rw [ancs_getD ops hdi, ancs_getD ops (show d < n by omega)]
      rw [e] at hd2
      have hdt : listed.getD d true = true := by
        have hlt : d < listed.size := by omega
        simp only [Array.getD_eq_getD_getElem?, Array.getElem?_eq_getElem hlt, Option.getD_some] at hdl ⊢
        exact hdl
      exact ih d (by omega) hdo (hc d hdt hdo) k hd2

end Go.Px


namespace Go.Px
open Go.RowKit
set_option linter.unusedVariables false
set_option linter.unusedSimpArgs false
set_option linter.constructorNameAsVariable false

/-- each free operation comes behind those whose values it looks at, each has a place of its own; what is not free comes behind all ahead of it -/
def drawChk (ops : Array Oper) (m : Nat) : Bool :=
  let an := ancs ops ops.size
  m ≤ ops.size &&
  ((List.range ops.size).all fun i => (deps ops i).all fun d => d < i) &&
  ((List.range m).all fun i => (usAt ops i).all fun j => (List.range m).all fun k => k == i || dstAt ops k != some j || (k < i && (an.getD i []).contains k)) &&
  ((List.range m).all fun i => (List.range m).all fun k => k == i || dstAt ops k != dstAt ops i) &&
  ((List.range ops.size).all fun i => i < m || (List.range i).all fun k => (an.getD i []).contains k)

def live (keep : List Nat) (val : List (Nat × T)) : List (Nat × T) := keep.filterMap fun j => (getT val j).map fun x => (j, x)

theorem Tmps.pick {R w a val} : ∀ {keep : List Nat} {t F}, Tmps R w a t F → F.Nodup → keep.Nodup → (∀ j ∈ keep, getT t j = getT val j) → ∃ F', Tmps R w a (live keep val) F' ∧ F'.Nodup ∧ ∀ b ∈ F', b ∈ F
  | [], t, F, h, hn, _, _ => ⟨[], .nil, by simp, by simp⟩
  | j :: keep, t, F, h, hn, hk, hag => by
    obtain ⟨hj, hk'⟩ := List.nodup_cons.1 hk
    have h0 := hag j (by simp)
    cases hv : getT val j with
    | none =>
      have e : live (j :: keep) val = live keep val := by simp [live, hv]
      rw [e]
      exact Tmps.pick h hn hk' (fun i hi => hag i (by simp [hi]))
    | some x =>
      rw [hv] at h0
      obtain ⟨v, F1, F2, k1, k2, k3, k4, k5⟩ := h.take h0 hn
      obtain ⟨n1, n2, n3⟩ := List.nodup_append.1 k4
      obtain ⟨F3, m1, m2, m3⟩ := Tmps.pick (val := val) k3 n2 hk' (fun i hi => by
        rw [getT_delT_ne (fun e => hj (by rw [← e]; exact hi))]
        exact hag i (by simp [hi]))
      refine ⟨F1 ++ F3, ?_, List.nodup_append.2 ⟨n1, m2, fun x hx y hy => n3 x hx y (m3 y hy)⟩, fun b hb => ?_⟩
      · have e : live (j :: keep) val = (j, x) :: live keep val := by simp [live, hv]
        rw [e]
        exact .cons k1 k2 m1
      · rcases List.mem_append.1 hb with hb | hb
        · exact k5 b (by simp [hb])
        · exact k5 b (by simp [m3 b hb])

theorem Rel.pick {e t H lg a w val} {keep : List Nat} (h : Rel e ⟨t, H, lg⟩ a w) (hk : keep.Nodup) (hag : ∀ j ∈ keep, getT t j = getT val j) : Rel e ⟨live keep val, H, lg⟩ a w := by
  obtain ⟨hd, β, F, G, h⟩ := h
  obtain ⟨G', h1, h2, h3⟩ := h.tmps.pick (List.nodup_append.1 h.nd).2.1 hk hag
  have hs : ∀ b ∈ F ++ G', b ∈ F ++ G := fun b hb => by
    rcases List.mem_append.1 hb with hb | hb
    · simp [hb]
    · simp [h3 b hb]
  exact ⟨hd, β, F, G', { h with tmps := h1, nd := nodup_sub h.nd (List.nodup_append.1 h.nd).1 h2 (fun b hb => hb) h3, low := fun b hb => h.low b (hs b hb), ext := h.ext.sub hs }⟩

def unl (listed : Array Bool) (n : Nat) : Nat := (List.range n).countP fun i => !listed.getD i true

theorem countP_one : ∀ {n i : Nat} {p p' : Nat → Bool}, i < n → (∀ j, j ≠ i → p' j = p j) → p i = true → p' i = false → (List.range n).countP p' + 1 = (List.range n).countP p
  | 0, i, p, p', h, _, _, _ => by omega
  | n + 1, i, p, p', h, hne, hi, hi' => by
    simp only [List.range_succ, List.countP_append, List.countP_singleton]
    by_cases hin : i = n
    · subst hin
      have : (List.range i).countP p' = (List.range i).countP p := by
        apply List.countP_congr
        intro j hj
        have := List.mem_range.1 hj
        rw [hne j (by omega)]
      simp [this, hi, hi']
    · have := countP_one (n := n) (by omega) hne hi hi'
      rw [hne n (fun e => hin e.symm)]
      omega

theorem unl_set {listed : Array Bool} {n i : Nat} (hs : listed.size = n) (hi : i < n) (hl : listed.getD i true = false) : unl (listed.setIfInBounds i true) n + 1 = unl listed n := by
  refine countP_one hi (fun j hj => ?_) (by simp [hl]) ?_
  · simp only [Array.getD_eq_getD_getElem?]
    rw [Array.getElem?_setIfInBounds, if_neg (fun e => hj e.symm)]
  · simp only [Array.getD_eq_getD_getElem?]
    rw [Array.getElem?_setIfInBounds]
    simp [hs, hi]

theorem unl_zero {listed : Array Bool} {n : Nat} (h : unl listed n = 0) : ∀ i, i < n → listed.getD i true = true := by
  intro i hi
  have := List.countP_eq_zero.1 h i (List.mem_range.2 hi)
  simpa using this

theorem ready_iff {ops : Array Oper} {listed : Array Bool} {i : Nat} : i ∈ Region.ready .any ops listed ↔ i < ops.size ∧ listed.getD i true = false ∧ ∀ d ∈ deps ops i, listed.getD d false = true := by
  unfold Region.ready deps
  simp only [List.mem_filter, List.mem_range, Bool.and_eq_true, Bool.not_eq_true']
  constructor
  · rintro ⟨h1, h2, h3⟩
    refine ⟨h1, h2, ?_⟩
    cases ho : ops[i]? with
    | none => simp
    | some o =>
      simp [ho] at h3
      intro d hd
      obtain ⟨e, he, rfl⟩ := List.mem_map.1 hd
      obtain ⟨he1, he2⟩ := List.mem_filter.1 he
      obtain ⟨k, hk⟩ := List.getElem?_of_mem he1
      have hk' : o.after[k]? = some e := by simpa using hk
      obtain ⟨hlt, hke⟩ := Array.getElem?_eq_some_iff.1 hk'
      rcases h3 k hlt with h | h
      · rw [hke] at h; rw [he2] at h; cases h
      · rw [hke] at h; simpa [Array.getD_eq_getD_getElem?] using h
  · rintro ⟨h1, h2, h3⟩
    refine ⟨h1, h2, ?_⟩
    have ho : ops[i]? = some ops[i] := Array.getElem?_eq_getElem h1
    rw [ho] at h3 ⊢
    simp only [Option.map_some, Option.getD_some, Array.all_eq_true]
    intro k hk
    by_cases hb : Region.binds .any (ops[i].after[k]) = true
    · have := h3 (ops[i].after[k]).on (List.mem_map.2 ⟨_, List.mem_filter.2 ⟨by simp, hb⟩, rfl⟩)
      simp [this]
    · simp [hb]

theorem getD_set {listed : Array Bool} {n i j : Nat} (hs : listed.size = n) (hi : i < n) (dflt : Bool) : (listed.setIfInBounds i true).getD j dflt = if j = i then true else listed.getD j dflt := by
  simp only [Array.getD_eq_getD_getElem?]
  rw [Array.getElem?_setIfInBounds]
  by_cases h : i = j
  · subst h; simp [hs, hi]
  · rw [if_neg h, if_neg (fun e => h e.symm)]

theorem getD_both {listed : Array Bool} {n i : Nat} (hs : listed.size = n) (hi : i < n) (d d' : Bool) : listed.getD i d = listed.getD i d' := by
  have : i < listed.size := by omega
  simp [Array.getD_eq_getD_getElem?, Array.getElem?_eq_getElem this]

/-- The tail: one behind the other. -/
theorem tail_any {P : Program} {ops : Array Oper} {m : Nat} {Q : Exit → Act → World → Prop} (hdep : ∀ i, i < ops.size → ∀ d ∈ deps ops i, d < i) (htail : ∀ i, i < ops.size → m ≤ i → ∀ k, k < i → k ∈ (ancs ops ops.size).getD i []) :
    ∀ (r k : Nat) (listed : Array Bool) (fuel : Nat) (a : Act) (w : World), k + r = ops.size → m ≤ k → listed.size = ops.size → Closed ops listed → (∀ i, i < ops.size → (listed.getD i true = true ↔ i < k)) → r ≤ fuel → wpOps P ops Q (List.range' k r) a w → wpAny P .any ops Q fuel listed a w := by
  intro r
  induction r with
  | zero =>
    intro k listed fuel a w hk hm hs hc hl hf h
    have hq : Q .normal a w := by simpa [wpOps] using h
    have hr : Region.ready .any ops listed = [] := by
      apply List.eq_nil_iff_forall_not_mem.2
      intro i hi
      obtain ⟨h1, h2, -⟩ := ready_iff.1 hi
      have := (hl i h1).2 (by omega)
      rw [h2] at this; cases this
    cases fuel with
    | zero => exact ⟨hr, hq⟩
    | succ fuel => exact ⟨fun _ => hq, fun i hi => by rw [hr] at hi; simp at hi⟩
  | succ r ih =>
    intro k listed fuel a w hk hm hs hc hl hf h
    cases fuel with
    | zero => omega
    | succ fuel =>
      have hkn : k < ops.size := by omega
      have hkl : listed.getD k true = false := by
        cases hh : listed.getD k true with
        | false => rfl
        | true => have := (hl k hkn).1 hh; omega
      have hkr : k ∈ Region.ready .any ops listed := ready_iff.2 ⟨hkn, hkl, fun d hd => by
        have hdk := hdep k hkn d hd
        rw [getD_both hs (by omega) false true]
        exact (hl d (by omega)).2 hdk⟩
      have honly : ∀ i ∈ Region.ready .any ops listed, i = k := by
        intro i hi
        obtain ⟨h1, h2, h3⟩ := ready_iff.1 hi
        apply Classical.byContradiction
        intro hne
        have hge : ¬ i < k := fun hlt => by have := (hl i h1).2 hlt; rw [h2] at this; cases this
        have hki : k < i := by omega
        have := closed_anc hs hc ops.size i h1 h1 h3 k (htail i h1 (by omega) k hki)
        rw [getD_both hs (by omega) false true, hkl] at this
        cases this
      refine ⟨fun h0 => by rw [h0] at hkr; simp at hkr, fun i hi => ?_⟩
      rw [honly i hi]
      have h' : wpOp P ops Q k (wpOps P ops Q (List.range' (k + 1) r)) a w := by
        rw [← wpOps_cons]
        simpa [List.range'_succ] using h
      refine wpOp_mono (fun a' w' h2 => ih (k + 1) _ fuel a' w' (by omega) (by omega) (by simp [hs]) ?_ ?_ (by omega) h2) h'
      · intro i hi' hio d hd
        rw [getD_set hs hkn] at hi' ⊢
        by_cases hik : i = k
        · subst hik
          obtain ⟨-, -, h3⟩ := ready_iff.1 hkr
          split
          · rfl
          · exact h3 d hd
        · rw [if_neg hik] at hi'
          split
          · rfl
          · exact hc i hi' hio d hd
      · intro i hio
        rw [getD_set hs hkn]
        by_cases hik : i = k
        · subst hik; simp
        · rw [if_neg hik, hl i hio]; omega

theorem consChk_iff {ops m i cs} (h : consChk ops m i cs = true) : ∀ j ∈ cs, ∀ k, k < m → k ≠ i → j ∉ usAt ops k := by
  intro j hj k hk hne hm
  simp only [consChk, List.all_eq_true, List.mem_range, Bool.or_eq_true, beq_iff_eq, Bool.not_eq_true'] at h
  rcases h j hj k hk with h | h
  · exact hne h
  · simp [hm] at h

structure DrawOk (ops : Array Oper) (m : Nat) : Prop where
  le : m ≤ ops.size
  dep : ∀ i, i < ops.size → ∀ d ∈ deps ops i, d < i
  use : ∀ i, i < m → ∀ j ∈ usAt ops i, ∀ k, k < m → k ≠ i → dstAt ops k = some j → k < i ∧ k ∈ (ancs ops ops.size).getD i []
  dst : ∀ i, i < m → ∀ k, k < m → k ≠ i → dstAt ops k ≠ dstAt ops i
  tail : ∀ i, i < ops.size → m ≤ i → ∀ k, k < i → k ∈ (ancs ops ops.size).getD i []

theorem drawChk_ok {ops m} (h : drawChk ops m = true) : DrawOk ops m := by
  simp only [drawChk, Bool.and_eq_true, decide_eq_true_eq, List.all_eq_true, List.mem_range, Bool.or_eq_true, beq_iff_eq, bne_iff_ne, List.contains_iff_mem] at h
  obtain ⟨⟨⟨⟨h1, h2⟩, h3⟩, h4⟩, h5⟩ := h
  refine ⟨h1, fun i hi d hd => h2 i hi d hd, fun i hi j hj k hk hne hd => ?_, fun i hi k hk hne hd => ?_, fun i hi hm k hk => ?_⟩
  · rcases h3 i hi j hj k hk with (h | h) | h
    · exact absurd h hne
    · exact absurd hd h
    · exact h
  · rcases h4 i hi k hk with h | h
    · exact absurd h hne
    · exact h hd
  · rcases h5 i hi with h | h
    · omega
    · exact h k hk

theorem getT_append {a b : List (Nat × T)} {j : Nat} : getT (a ++ b) j = (getT a j).or (getT b j) := by
  induction a with
  | nil => simp [getT]
  | cons e a ih =>
    obtain ⟨k, x⟩ := e
    by_cases hk : k = j
    · simp [getT, hk]
    · simp only [List.cons_append, getT, if_neg hk, ih]

theorem getT_none {a : List (Nat × T)} {j : Nat} (h : ∀ e ∈ a, e.1 ≠ j) : getT a j = none := by
  induction a with
  | nil => rfl
  | cons e a ih =>
    obtain ⟨k, x⟩ := e
    simp only [getT, if_neg (h (k, x) (by simp))]
    exact ih (fun e he => h e (by simp [he]))

theorem getT_rev {l : List (Nat × T)} {k j : Nat} {x : T} (hk : l[k]? = some (j, x)) (hu : ∀ (k' : Nat) (e : Nat × T), l[k']? = some e → e.1 = j → k' = k) : getT l.reverse j = some x := by
  induction l generalizing k with
  | nil => simp at hk
  | cons e l ih =>
    rw [List.reverse_cons, getT_append]
    cases k with
    | zero =>
      simp at hk; subst hk
      have : getT l.reverse j = none := getT_none (fun e he => by
        obtain ⟨i, hi⟩ := List.getElem?_of_mem (List.mem_reverse.1 he)
        intro ej
        have := hu (i + 1) e (by simpa using hi) ej
        omega)
      simp [this, getT]
    | succ k =>
      have := ih (k := k) (by simpa using hk) (fun k' e' he' hj => by
        have := hu (k' + 1) e' (by simpa using he') hj
        omega)
      simp [this]

theorem RelX.draw {e s a w β F G} (h : RelX e s a w β F G) : RelX e s a { w with drawn := w.drawn + 1 } β F G := by
  have hv1 := VP1.keep (w' := { w with drawn := w.drawn + 1 }) h.holds (fun _ _ => rfl) (fun _ _ => rfl)
  have hv := VP.of1 hv1
  exact { holds := h.holds.mono (fun _ _ => rfl) (fun e _ => clean_false e.2) hv (fun _ _ => rfl) (fun _ _ => rfl), tmps := h.tmps.mono (fun e _ => tclean_false e.2) (fun _ _ => rfl) hv (fun _ _ => rfl), nd := h.nd, low := h.low, ext := ⟨h.ext.os, h.ext.tape, h.ext.output, ⟨h.ext.size.1, h.ext.size.2.trans h.ext.size.1 (Frs.drew w)⟩, h.ext.same, h.ext.new⟩, gle := h.gle, out := h.out, fresh := h.fresh, stab := fun y x hy hh => hv1 _ _ (h.stab y x hy hh), size := h.size, hd := h.hd }

theorem countP_ge {m : Nat} {p : Nat → Bool} : ∀ {n : Nat}, (∀ i, m ≤ i → i < n → p i = true) → n - m ≤ (List.range n).countP p
  | 0, _ => by omega
  | n + 1, h => by
    have := countP_ge (n := n) (fun i h1 h2 => h i h1 (by omega))
    simp only [List.range_succ, List.countP_append, List.countP_singleton]
    by_cases hm : m ≤ n
    · rw [if_pos (h n hm (by omega))]; omega
    · omega

theorem SCode.draw {cx id ops s K} (m : Nat) (keep : List Nat) (hmx : cx.P.follows .mixedOrders = true) (hchk : drawChk ops m = true) (hkeep : keep.Nodup)
    (h : FRun cx ops m s.H m 0 s.t [] (fun val cs => (∀ j ∈ keep, j ∉ cs) ∧ SOps cx ops (List.range' m (ops.size - m)) ⟨live keep val, s.H, s.lg⟩ (K .normal))) : SCode cx (.region id ops true) s K := by
  intro e a w hd hN hr
  have ok := drawChk_ok hchk
  obtain ⟨xs, csA, csL, hlen, ⟨hkc, htail⟩, -, hrows0⟩ := h.table
  obtain ⟨t0, H, lg⟩ := s
  have hrows : ∀ k, k < m → ∃ dst x, xs[k]? = some (dst, x) ∧ dstAt ops k = some dst ∧ dst < cx.N ∧ FOp cx ops k ((xs.take k).reverse ++ t0) H (usAt ops k) (csL.getD k []) dst x ∧ consChk ops m k (csL.getD k []) = true ∧ ∀ j ∈ csL.getD k [], j ∈ csA := by
    intro k hk
    obtain ⟨dst, x, r⟩ := hrows0 k hk
    have e : 0 + k = k := by omega
    exact ⟨dst, x, r.at_, by rw [← r.dst_, e], r.lt, by have := r.fop; rwa [e] at this, by have := r.chk; rwa [e] at this, r.sub⟩
  -- what stands in the table for a place
  have huniq : ∀ k dst x, k < m → xs[k]? = some (dst, x) → ∀ (k' : Nat) (e' : Nat × T), xs[k']? = some e' → e'.1 = dst → k' = k := by
    intro k dst x hk hx k' e' he' hj'
    apply Classical.byContradiction; intro hne
    have hk' : k' < m := by rw [← hlen]; exact (List.getElem?_eq_some_iff.1 he').1
    obtain ⟨d1, x1, r1, r2, -⟩ := hrows k hk
    obtain ⟨d2, x2, q1, q2, -⟩ := hrows k' hk'
    rw [hx] at r1; cases r1
    rw [he'] at q1; cases q1
    exact ok.dst k hk k' hk' hne (by rw [r2, q2]; simp at hj'; rw [hj'])
  have hnone : ∀ (n j : Nat), n ≤ m → (∀ k, k < n → dstAt ops k ≠ some j) → getT (xs.take n).reverse j = none := by
    intro n j hn hno
    refine getT_none (fun e' he' ej => ?_)
    obtain ⟨k, hk⟩ := List.getElem?_of_mem (List.mem_reverse.1 he')
    rw [List.getElem?_take] at hk
    split at hk
    · rename_i hkn
      obtain ⟨d', x', r1, r2, -⟩ := hrows k (by omega)
      rw [hk] at r1; cases r1
      exact hno k hkn (by rw [r2]; simp at ej; rw [ej])
    · cases hk
  have hsome : ∀ (n k dst : Nat) (x : T), n ≤ m → k < n → xs[k]? = some (dst, x) → getT (xs.take n).reverse dst = some x := by
    intro n k dst x hn hk hx
    refine getT_rev (k := k) (by rw [List.getElem?_take, if_pos hk]; exact hx) (fun k' e' he' hj' => ?_)
    rw [List.getElem?_take] at he'
    split at he'
    · exact huniq k dst x (by omega) hx k' e' he' hj'
    · cases he'
  have hfull : xs.take m = xs := by rw [← hlen, List.take_length]
  let Q : Exit → Act → World → Prop := fun ex a' w' => ∃ s', K ex s' ∧ Rel e s' a' w'
  let I1 : Array Bool → List (Nat × T) → Prop := fun listed t => ∀ k, k < m → listed.getD k true = true → ∀ dst x, xs[k]? = some (dst, x) → (∀ c, c < m → listed.getD c true = true → dst ∉ csL.getD c []) → getT t dst = some x
  let I2 : Array Bool → List (Nat × T) → Prop := fun listed t => ∀ j, (∀ k, k < m → listed.getD k true = true → dstAt ops k ≠ some j) → (∀ c, c < m → listed.getD c true = true → j ∉ csL.getD c []) → getT t j = getT t0 j
  have hend : ∀ (listed : Array Bool) (t : List (Nat × T)) (a : Act) (w : World) (fuel : Nat), listed.size = ops.size → Closed ops listed → (∀ i, m ≤ i → i < ops.size → listed.getD i true = false) → ops.size - m ≤ fuel → (∀ i, i < m → listed.getD i true = true) → Rel e ⟨t, H, lg⟩ a w → I1 listed t → I2 listed t → wpAny cx.P .any ops Q fuel listed a w := by
    intro listed t a w fuel hs hc hl hf hall hr i1 i2
    have hpick : Rel e ⟨live keep (xs.reverse ++ t0), H, lg⟩ a w := hr.pick hkeep (fun j hj => by
      have hcs : ∀ c, c < m → listed.getD c true = true → j ∉ csL.getD c [] := fun c hc' _ hm => by
        obtain ⟨d', x', -, -, -, -, -, hsub⟩ := hrows c hc'
        exact hkc _ hj (hsub _ hm)
      by_cases hex : ∃ k, k < m ∧ dstAt ops k = some j
      · obtain ⟨k, hk, hdk⟩ := hex
        obtain ⟨dst, x, r1, r2, -⟩ := hrows k hk
        rw [hdk] at r2; cases r2
        have := hsome m k j x (Nat.le_refl _) hk r1
        rw [hfull] at this
        rw [i1 k hk (hall k hk) j x r1 hcs, getT_append, this]
        rfl
      · have hno : ∀ k, k < m → dstAt ops k ≠ some j := fun k hk hd => hex ⟨k, hk, hd⟩
        have := hnone m j (Nat.le_refl _) hno
        rw [hfull] at this
        rw [i2 j (fun k hk _ => hno k hk) hcs, getT_append, this]
        rfl)
    refine tail_any ok.dep ok.tail (ops.size - m) m listed fuel a w (by have := ok.le; omega) (Nat.le_refl _) hs hc (fun i hi => ⟨fun h => ?_, fun h => hall i h⟩) hf ?_
    · apply Classical.byContradiction; intro hge
      rw [hl i (by omega) hi] at h; cases h
    · exact htail e a w Q hd hN hpick (fun s' a' w' h1 h2 => ⟨s', h1, h2⟩)
  have key : ∀ (fuel : Nat) (listed : Array Bool) (t : List (Nat × T)) (a : Act) (w : World), listed.size = ops.size → Closed ops listed → (∀ i, m ≤ i → i < ops.size → listed.getD i true = false) → unl listed ops.size ≤ fuel → Rel e ⟨t, H, lg⟩ a w →
      I1 listed t → I2 listed t → wpAny cx.P .any ops Q fuel listed a w := by
    intro fuel
    induction fuel with
    | zero =>
      intro listed t a w hs hc hl hu hr i1 i2
      have hall := unl_zero (Nat.le_zero.1 hu)
      refine hend listed t a w 0 hs hc hl ?_ (fun i hi => hall i (by have := ok.le; omega)) hr i1 i2
      apply Classical.byContradiction
      intro hne
      have hlt : m < ops.size := by omega
      have := hl m (Nat.le_refl _) hlt
      rw [hall m hlt] at this; cases this
    | succ fuel ih =>
      intro listed t a w hs hc hl hu hr i1 i2
      by_cases hall : ∀ i, i < m → listed.getD i true = true
      · refine hend listed t a w (fuel + 1) hs hc hl ?_ hall hr i1 i2
        have := countP_ge (m := m) (n := ops.size) (p := fun i => !listed.getD i true) (fun i h1 h2 => by simp [hl i h1 h2])
        unfold unl at hu
        omega
      · have hready : ∀ i ∈ Region.ready .any ops listed, i < m := by
          intro i hi
          obtain ⟨h1, h2, h3⟩ := ready_iff.1 hi
          apply Classical.byContradiction
          intro hge
          apply hall
          intro k hk
          have hmle := ok.le
          have := closed_anc hs hc ops.size i h1 h1 h3 k (ok.tail i h1 (by omega) k (by omega))
          rw [getD_both hs (by omega) true false]; exact this
        refine ⟨fun h0 => ?_, fun i hi => ?_⟩
        · exfalso
          -- the first that is not listed is ready
          have hmin : ∀ n, n ≤ m → (∀ i, i < n → listed.getD i true = true) ∨ ∃ i, i < n ∧ listed.getD i true = false ∧ ∀ k, k < i → listed.getD k true = true := by
            intro n
            induction n with
            | zero => intro _; left; intro i hi; omega
            | succ n ihn =>
              intro hn
              rcases ihn (by omega) with h | ⟨i, h1, h2, h3⟩
              · cases hln : listed.getD n true with
                | true =>
                  left; intro i hi
                  by_cases hin : i = n
                  · rw [hin, hln]
                  · exact h i (by omega)
                | false => right; exact ⟨n, by omega, hln, h⟩
              · right; exact ⟨i, by omega, h2, h3⟩
          rcases hmin m (Nat.le_refl _) with h | ⟨i, h1, h2, h3⟩
          · exact hall h
          · have hmle := ok.le
            have : i ∈ Region.ready .any ops listed := ready_iff.2 ⟨by omega, h2, fun d hdd => by
              have hdi := ok.dep i (by omega) d hdd
              rw [getD_both hs (by omega) false true]; exact h3 d hdi⟩
            rw [h0] at this; simp at this
        · have him := hready i hi
          obtain ⟨h1, h2, h3⟩ := ready_iff.1 hi
          have hanc := closed_anc hs hc ops.size i h1 h1 h3
          obtain ⟨dst, x, r1, r2, r3, r4, r5, r6⟩ := hrows i him
          have hmle := ok.le
          have hag : Agree t ((xs.take i).reverse ++ t0) (usAt ops i) := by
            intro j hj
            have hcs : ∀ c, c < m → listed.getD c true = true → j ∉ csL.getD c [] := fun c hc' hlc hm => by
              obtain ⟨d', x', -, -, -, -, hchk', -⟩ := hrows c hc'
              have hci : i ≠ c := fun e => by rw [← e, h2] at hlc; cases hlc
              exact consChk_iff hchk' j hm i him hci hj
            by_cases hex : ∃ k, k < m ∧ k ≠ i ∧ dstAt ops k = some j
            · obtain ⟨k, hk, hki, hdk⟩ := hex
              obtain ⟨hlt, hka⟩ := ok.use i him j hj k hk hki hdk
              have hkl := hanc k hka
              rw [getD_both hs (by omega) false true] at hkl
              obtain ⟨d', x', q1, q2, -⟩ := hrows k hk
              rw [hdk] at q2; cases q2
              rw [i1 k hk hkl j x' q1 hcs, getT_append, hsome i k j x' (by omega) hlt q1]
              rfl
            · have hno : ∀ k, k < m → k ≠ i → dstAt ops k ≠ some j := fun k hk hki hd => hex ⟨k, hk, hki, hd⟩
              rw [i2 j (fun k hk hkl => hno k hk (fun e => by rw [e, h2] at hkl; cases hkl)) hcs, getT_append, hnone i j (by omega) (fun k hk => hno k (by omega) (by omega))]
              rfl
          refine r4 e a w t lg _ Q hd hN hag hr (fun a' w' hr' => ?_)
          have hset : ∀ k, (listed.setIfInBounds i true).getD k true = true → k = i ∨ listed.getD k true = true := by
            intro k hk
            rw [getD_set hs h1] at hk
            split at hk
            · left; assumption
            · right; exact hk
          have hset2 : ∀ k, listed.getD k true = true → (listed.setIfInBounds i true).getD k true = true := by
            intro k hk
            rw [getD_set hs h1]
            split
            · rfl
            · exact hk
          have hseti : (listed.setIfInBounds i true).getD i true = true := by rw [getD_set hs h1, if_pos rfl]
          refine ih _ _ a' w' (by simp [hs]) ?_ ?_ ?_ hr' ?_ ?_
          · intro k hk hko d hdd
            rw [getD_set hs h1] at hk ⊢
            split
            · rfl
            · split at hk
              · rename_i hki; subst hki; exact h3 d hdd
              · exact hc k hk hko d hdd
          · intro k hk hko
            rw [getD_set hs h1, if_neg (by omega)]
            exact hl k hk hko
          · have := unl_set hs h1 h2; omega
          · intro k hk hkl dst' x' hx' hcs
            rcases hset k hkl with rfl | hkl'
            · rw [r1] at hx'; cases hx'
              exact getT_setT_self
            · by_cases hki : k = i
              · subst hki; rw [r1] at hx'; cases hx'; exact getT_setT_self
              · have hne : dst' ≠ dst := fun e' => by
                  obtain ⟨d2, x2, q1, q2, -⟩ := hrows k hk
                  rw [hx'] at q1; cases q1
                  exact ok.dst i him k hk hki (by rw [q2, r2, e'])
                rw [getT_setT_ne hne, getT_delL_ne (hcs i him hseti)]
                exact i1 k hk hkl' dst' x' hx' (fun c hc' hcl => hcs c hc' (hset2 c hcl))
          · intro j hj hcs
            have hne : j ≠ dst := fun e' => hj i him hseti (by rw [r2, e'])
            rw [getT_setT_ne hne, getT_delL_ne (hcs i him hseti)]
            exact i2 j (fun k hk hkl => hj k hk (hset2 k hkl)) (fun c hc' hcl => hcs c hc' (hset2 c hcl))
  obtain ⟨hdf, β, F, G, hx⟩ := hr
  have hfalse : ∀ i, i < ops.size → (Array.replicate ops.size false).getD i true = false := fun i hi => by simp [Array.getD_eq_getD_getElem?, hi]
  refine wp_region_any hmx ?_
  refine key ops.size _ t0 a _ (by simp) ?_ (fun i _ hi => hfalse i hi) ?_ ⟨hdf, β, F, G, hx.draw⟩ ?_ ?_
  · intro i hi hio
    rw [hfalse i hio] at hi; cases hi
  · unfold unl
    exact Nat.le_trans List.countP_le_length (by simp)
  · intro k hk hkl
    rw [hfalse k (by have := ok.le; omega)] at hkl; cases hkl
  · intro j _ _; rfl

end Go.Px


namespace Go.Px
open Go.RowKit
set_option linter.unusedVariables false
set_option linter.unusedSimpArgs false
set_option linter.constructorNameAsVariable false
/-- the array at a path of an object is another one -/
def setA (H : HH) (r : Nm) (q : Path) (c : Cell) : HH := match look H r with | some co => putH H r (Cell.set c q co) | none => H
theorem set_append : ∀ {q p : Path} {c co c0 : Cell}, co.get q = some c0 → Cell.set c (q ++ p) co = Cell.set (Cell.set c p c0) q co
  | [], p, c, co, c0, h => by simp [Cell.get] at h; subst h; simp [Cell.set]
  | (i, f) :: q, p, c, co, c0, h => by
    obtain ⟨z, els, row, c', rfl, hi, hf, hg⟩ := get_own h
    simp only [List.cons_append, Cell.set, hi, hf]
    rw [set_append hg]
/-- cells put one behind the other into an array whose elements have one cell -/
def CopyTo (r : Nm) (q : Path) : Nat → List Cell → St → (St → Prop) → Prop
  | _, [], s, K => K s
  | p, c :: cs, s, K =>
    match arrAt s.H r q with
    | some (1, rows) => (match rows[p]? with
      | some [cold] => isOwn cold = false ∧ CopyTo r q (p + 1) cs { s with H := setA s.H r q (.own 1 (rows.set p [c])) } K
      | _ => False)
    | _ => False
theorem copy_run {P : Program} {e a r q i b o K} (h0 : r.1 ≠ 0) : ∀ {cs xs j s w β F G Fv}, Pend e s a w β F G cs xs Fv → VP w β s.H (.pt r q 1 i 0) (.pointer (some ⟨b, o, none⟩)) → CopyTo r q (i + j) cs s K →
    ∃ w' s' β F G, (storeCells ⟨b, o, none⟩ xs j).run P w = .ok () w' ∧ K s' ∧ RelX e s' a w' β F G
  | [], xs, j, s, w, β, F, G, Fv, hp, hv, hs => by
    cases hp.vals
    exact ⟨w, s, β, F, G, by simp [storeCells, Sem.run, pure], hs, hp.rel⟩
  | c :: cs, xs, j, s, w, β, F, G, Fv, hp, hv, hs => by
    have hvals := hp.vals
    cases hvals with
    | @cons _ x Fc _ xs' Fs hc hcs =>
      simp only [CopyTo] at hs
      split at hs
      · rename_i rows harr
        split at hs
        · rename_i cold hrow
          obtain ⟨ho, hs⟩ := hs
          obtain ⟨co, hl, hq⟩ := arrAt_iff.1 harr
          have hg : co.get (q ++ [(i + j, 0)]) = some cold := by rw [get_append, hq]; simp [Cell.get, hrow]
          have hKw : Kw cold r (q ++ [(i + j, 0)]) = fun _ => False := by unfold Kw; rw [if_neg (by simp [ho])]
          obtain ⟨a0, x0, F', G', k1, k2, k3, k4, k5, k6⟩ := hp.write (fun _ => true) hc hcs h0 (by simp) hl hg (by rw [hKw]; exact fun en _ => clean_false en.2) (by rw [hKw]; exact fun c _ => clean_false c) (by rw [hKw]; exact fun en _ _ => tclean_false en.2)
          have hset : putH s.H r (Cell.set c (q ++ [(i + j, 0)]) co) = setA s.H r q (.own 1 (rows.set (i + j) [c])) := by
            unfold setA
            simp only [hl, set_append hq]
            simp [Cell.set, hrow]
          have k5' : Pend e { s with H := setA s.H r q (.own 1 (rows.set (i + j) [c])) } a (w.setCell a0 x) β F' G' cs xs' Fs := by
            have := k5
            rw [← hset]
            simpa [logw, ho, filter_true] using this
          obtain ⟨c', els, hd, e1, e2, e3, e4, e5, b', off, n0, cap0, rfl, e6⟩ := hv
          have e1' := e1
          rw [hl] at e1; cases e1
          have hadr := adr_append (i := i + j) (f := 0) e2 e3
          rw [k1] at hadr
          have ha0 : a0 = ⟨b, o + j, none⟩ := by
            cases e6
            cases hadr
            simp; omega
          have hpt : VP (w.setCell a0 x) β (setA s.H r q (.own 1 (rows.set (i + j) [c]))) (.pt r q 1 i 0) (.pointer (some ⟨b, o, none⟩)) := by
            rw [← hset]
            refine k6 _ _ rfl (fun hk => ?_) ⟨_, els, _, e1', e2, e3, e4, e5, b', off, n0, cap0, rfl, e6⟩
            rw [hKw] at hk; exact hk
          obtain ⟨w', s'', β', F'', G'', r1, r2, r3⟩ := copy_run (j := j + 1) h0 k5' hpt (by simpa [Nat.add_assoc] using hs)
          refine ⟨w', s'', β', F'', G'', ?_, r2, r3⟩
          have hfl : flat x = true := hc.flat
          have hst : (store ((⟨b, o, none⟩ : Addr).add j) x).run P w = .ok () (w.setCell a0 x) := by
            rw [add_none, ← ha0, run_store P w a0 x _ (oneCell_of_flat hfl), k3]
            simp [k4]
          simp only [storeCells, Sem.run_bind, hst, Result.andThen_ok]
          exact r1
        · exact hs.elim
      · exact hs.elim
theorem VRep.takes {R w} : ∀ {l vs F} (n : Nat), VRep R w l vs F → F = [] → VRep R w (l.take n) (vs.take n) []
  | l, vs, F, n, h, hF => by
    obtain ⟨F1, F2, e, h1, h2⟩ := h.take_drop n
    rw [hF] at e
    have := List.append_eq_nil_iff.1 e.symm
    rw [this.1] at h1; exact h1
theorem run_firstN {P : Program} {size n ln : Nat} {A : Option Addr} {cap : Nat} {news : List Value} {W : World} (hl : news.length = n * size) (h : news = [] ∨ ∃ a, A = some a ∧ ∀ (j : Nat) u, news[j]? = some u → W.cell? (a.add j) = some u) :
    (Builtin.firstCells size n (.slice A ln cap)).run P W = .ok news.toArray W := by
  rcases h with rfl | ⟨a, rfl, h⟩
  · have h0 : n * size = 0 := by simpa using hl.symm
    cases A <;> simp [Builtin.firstCells, h0, Sem.run, pure, loadCells, loadCellsFrom]
  · exact run_firstCells_some W size n a ln cap news hl h
theorem SOp.copy {cx o s K c xd xs t t' el r q i n r2 q2 i2 n2 els2} (ho : o.op = .call c) (hc : c.callee = .builtin .copy) (ha : c.args = #[xd, xs]) (hat : c.argTypes = #[t, t']) (hel : tel cx.P t = some el) (hto : tok cx.P el = true) (hsz : tsz cx.P el = 1) (hdst : ∀ d, o.dst = some d → d < cx.N)
    (h1 : rdO s.t xd = some (.c (.sl r q 1 i n))) (h2 : rdO s.t xs = some (.c (.sl r2 q2 1 i2 n2))) (harr2 : arrAt s.H r2 q2 = some (1, els2)) (hno : ∀ row ∈ (els2.drop i2).take n2, ∀ c ∈ row, isOwn c = false) (h0 : r.1 ≠ 0)
    (hK : CopyTo r q i (((els2.drop i2).take n2).flatten.take n) s (fun s' => K { s' with t := putD s'.t o.dst (.c (.v (.int .i64 ((min n2 n : Nat) : Int)))) })) : SOp cx o s K := by
  intro e a w next Q hd hNe hr hk
  obtain ⟨hdf, β, F, G, hx⟩ := hr
  obtain ⟨X, cX, vs, F2, G', m1, m2, m3, m4, m5, m6, m7⟩ := Src.rep (a := a) (z := 1) (els2 := (els2.drop i2).take n2) (.ref h2 harr2 rfl hno (fun _ => rfl)) hx hx.tmps (List.nodup_append.1 hx.nd).2.1
  have hbare : F2 = [] := m2.bare_of (fun c hc => by obtain ⟨row, hr, hcr⟩ := List.mem_flatten.1 hc; exact hno row hr c hcr)
  subst hbare
  have hv2 := rd_ref hx.tmps h2 rfl
  obtain ⟨c2, els2', hh2, d1, d2, d3, d4, d5⟩ := hv2
  have hn2 : ((els2.drop i2).take n2).length = n2 := by
    have := arrAt_iff.2 ⟨c2, d1, d2⟩
    rw [harr2] at this; cases this
    simp; omega
  rw [hn2] at m1
  have hfl2 : ((els2.drop i2).take n2).flatten.length = n2 := by rw [flatten_len m4, hn2]; omega
  have hvl : vs.length = n2 := by rw [m2.length, hfl2]
  have hv := rd_ref hx.tmps h1 rfl
  obtain ⟨c1, els1, hh, e1, e2, e3, e4, e5⟩ := hv
  have hszr := run_sizeOf (w := w) hto
  rw [hsz] at hszr
  -- what is put
  have hput : ∀ w' s' β' F' G'', K { s' with t := putD s'.t o.dst (.c (.v (.int .i64 ((min n2 n : Nat) : Int)))) } → RelX e s' a.tmps w' β' F' G'' → next (a.put o.dst (.int .i64 ((min n2 n : Nat) : Int))) w' := by
    intro w' s' β' F' G'' hk' hrel
    cases hds : o.dst with
    | none =>
      rw [hds] at hk'
      exact hk _ _ _ hk' ⟨by simpa [Act.put] using hdf, β', F', G'', by simpa [Act.put, putD] using hrel⟩
    | some dst =>
      rw [hds] at hk'
      obtain ⟨G3, h3⟩ := hrel.put (dst := dst) (x := .c (.v (.int .i64 ((min n2 n : Nat) : Int)))) (v := .int .i64 ((min n2 n : Nat) : Int)) (Fx := []) hrel.tmps (.c (.v _ rfl)) (by simpa using (List.nodup_append.1 hrel.nd).2.1) (by simp) (by rw [hNe]; exact hdst dst hds)
      refine hk _ _ _ hk' ⟨by rw [Act.put_defers]; exact hdf, β', F', G3, ?_⟩
      simpa [Act.put, putD] using h3
  have hmin : Nat.min n2 n = min n2 n := rfl
  have hcells : (Builtin.firstCells 1 (min n2 n) (.slice X n2 cX)).run cx.P w = .ok (vs.take n).toArray w := by
    have hlen : (vs.take n).length = min n2 n * 1 := by rw [List.length_take, hvl]; omega
    refine run_firstN hlen ?_
    rcases m3 with m3 | ⟨b, o', hX, m3⟩
    · exact .inl (by simp [m3])
    · exact .inr ⟨_, hX, fun j u hj => by
        rw [add_none]
        refine m3 j u ?_
        rw [List.getElem?_take] at hj
        split at hj <;> simp_all⟩
  unfold Oper.wp
  rcases e5 with ⟨b, off, n0, cap0, cap, rfl, e6, e7, e8⟩ | ⟨rfl, A, e6, -⟩
  · have hp : Pend e s a.tmps w β F G (((els2.drop i2).take n2).flatten.take n) (vs.take n) [] :=
      { rel := hx, vals := m2.takes n rfl, ndv := by simp, disj := by simp, lowv := by simp, extv := by simp }
    by_cases hnz : (vs.take n) = []
    · have hcs : (((els2.drop i2).take n2).flatten.take n) = [] := by
        have := (m2.takes n rfl).length
        rw [hnz] at this; exact List.length_eq_zero_iff.1 (by simpa using this.symm)
      rw [hcs] at hK
      have hrun : (execOp a.eval o).run cx.P w = .ok (.value (.int .i64 ((min n2 n : Nat) : Int))) w := by
        simp only [execOp, ho, resolve, hc, ha, hat, invoke, Go.builtin]
        simp [e6, m1, Builtin.copy_, run_underlying (tel_iff hel), Sem.run_bind, Result.andThen, Builtin.lenOf, hszr, hmin, hcells, hnz, storeCells, Sem.run, pure, Sem.bind, bind, goInt]
        try rfl
      rw [hrun]
      exact hput _ _ _ _ _ hK hx
    · have hn : 0 < n := by
        rcases Nat.eq_zero_or_pos n with h | h
        · simp [h] at hnz
        · exact h
      obtain ⟨w', s', β', F', G'', r1, r2, r3⟩ := copy_run (P := cx.P) (o := off + i * 1) (b := b) (j := 0) h0 hp ⟨c1, els1, _, e1, e2, e3, by omega, by omega, b, off, n0, cap0, rfl, by simp⟩ hK
      have hrun : (execOp a.eval o).run cx.P w = .ok (.value (.int .i64 ((min n2 n : Nat) : Int))) w' := by
        simp only [execOp, ho, resolve, hc, ha, hat, invoke, Go.builtin]
        simp only [Nat.mul_one] at r1
        simp [e6, m1, Builtin.copy_, run_underlying (tel_iff hel), Sem.run_bind, Result.andThen, Builtin.lenOf, hszr, hmin, hcells, r1, Sem.run, pure, Sem.bind, bind, goInt]
        try rfl
      rw [hrun]
      exact hput _ _ _ _ _ r2 r3
  · have hcs : (((els2.drop i2).take n2).flatten.take 0) = [] := by simp
    rw [hcs] at hK
    have hrun : (execOp a.eval o).run cx.P w = .ok (.value (.int .i64 ((min n2 0 : Nat) : Int))) w := by
      simp only [execOp, ho, resolve, hc, ha, hat, invoke, Go.builtin]
      have hcells0 : (Builtin.firstCells 1 0 (.slice X n2 cX)).run cx.P w = .ok #[] w := by
        have := hcells
        simpa using this
      cases A <;> simp [hcells0, e6, m1, Builtin.copy_, run_underlying (tel_iff hel), Sem.run_bind, Result.andThen, Builtin.lenOf, hszr, hmin, hcells, storeCells, Sem.run, pure, Sem.bind, bind, goInt]
    rw [hrun]
    exact hput _ _ _ _ _ hK hx
end Go.Px


namespace Go.Px
open Go.RowKit
set_option linter.unusedVariables false
set_option linter.unusedSimpArgs false
set_option linter.constructorNameAsVariable false

end Go.Px


namespace Go.Px
open Go.RowKit
set_option linter.unnecessarySimpa false
set_option linter.unusedVariables false
set_option linter.unusedSimpArgs false
set_option linter.constructorNameAsVariable false
theorem set_set : ∀ {q : Path} {c c' co c0 : Cell}, co.get q = some c0 → Cell.set c' q (Cell.set c q co) = Cell.set c' q co
  | [], c, c', co, c0, h => by simp [Cell.set]
  | (i, f) :: q, c, c', co, c0, h => by
    obtain ⟨z, els, row, c1, rfl, hi, hf, hg⟩ := get_own h
    have h1 := (List.getElem?_eq_some_iff.1 hi).1
    have h2 := (List.getElem?_eq_some_iff.1 hf).1
    have e1 : ∀ c, Cell.set c ((i, f) :: q) (.own z els) = .own z (els.set i (row.set f (Cell.set c q c1))) := fun c => by simp only [Cell.set, hi, hf]
    rw [e1, e1]
    simp only [Cell.set, List.getElem?_set_self h1, List.getElem?_set_self h2, List.set_set, set_set hg]
theorem get_set : ∀ {q : Path} {c co c0 : Cell}, co.get q = some c0 → (Cell.set c q co).get q = some c
  | [], c, co, c0, h => by simp [Cell.set, Cell.get]
  | (i, f) :: q, c, co, c0, h => by
    obtain ⟨z, els, row, c1, rfl, hi, hf, hg⟩ := get_own h
    have h1 := (List.getElem?_eq_some_iff.1 hi).1
    have h2 := (List.getElem?_eq_some_iff.1 hf).1
    have e1 : ∀ c, Cell.set c ((i, f) :: q) (.own z els) = .own z (els.set i (row.set f (Cell.set c q c1))) := fun c => by simp only [Cell.set, hi, hf]
    rw [e1]
    simp only [Cell.get, List.getElem?_set_self h1, Option.bind_some, List.getElem?_set_self h2, get_set hg]
theorem set_self : ∀ {q : Path} {co c0 : Cell}, co.get q = some c0 → Cell.set c0 q co = co
  | [], co, c0, h => by simp [Cell.get] at h; simp [Cell.set, h]
  | (i, f) :: q, co, c0, h => by
    obtain ⟨z, els, row, c1, rfl, hi, hf, hg⟩ := get_own h
    obtain ⟨h1, e1⟩ := List.getElem?_eq_some_iff.1 hi
    obtain ⟨h2, e2⟩ := List.getElem?_eq_some_iff.1 hf
    simp only [Cell.set, hi, hf, set_self hg]
    subst e1; subst e2; simp
theorem putH_put {r c c1} : ∀ {H : HH}, putH (putH H r c) r c1 = putH H r c1
  | [] => rfl
  | (s, d) :: t => by
    by_cases e : s = r
    · simp [putH, e]
    · simp only [putH, e, if_false]; rw [putH_put]
theorem putH_self {r c} : ∀ {H : HH}, look H r = some c → putH H r c = H
  | [], h => rfl
  | (s, d) :: t, h => by
    by_cases e : s = r
    · simp [look, e] at h; simp [putH, e, h]
    · simp only [look, e, if_false] at h
      simp only [putH, e, if_false, putH_self h]
theorem arrAt_setA {H : HH} {r : Nm} {q : Path} {x : Nat × List (List Cell)} {z : Nat} {rows : List (List Cell)} (h : arrAt H r q = some x) : arrAt (setA H r q (.own z rows)) r q = some (z, rows) := by
  obtain ⟨c, h1, h2⟩ := arrAt_iff.1 (show arrAt H r q = some (x.1, x.2) from h)
  refine arrAt_iff.2 ⟨Cell.set (.own z rows) q c, ?_, get_set h2⟩
  unfold setA; rw [h1]; exact look_putH_self h1
theorem setA_setA {H : HH} {r : Nm} {q : Path} {x : Nat × List (List Cell)} {c c' : Cell} (h : arrAt H r q = some x) : setA (setA H r q c) r q c' = setA H r q c' := by
  obtain ⟨co, h1, h2⟩ := arrAt_iff.1 (show arrAt H r q = some (x.1, x.2) from h)
  unfold setA
  simp only [h1, look_putH_self h1, putH_put, set_set h2]
theorem setA_self {H : HH} {r : Nm} {q : Path} {z : Nat} {rows : List (List Cell)} (h : arrAt H r q = some (z, rows)) : setA H r q (.own z rows) = H := by
  obtain ⟨co, h1, h2⟩ := arrAt_iff.1 h
  unfold setA
  simp only [h1, set_self h2, putH_self h1]
theorem StoreSeq_cons {d : Nat} {H : HH} {r : Nm} {q : Path} {i f : Nat} {cs : List Cell} {c : Cell} {t : List (Nat × T)} {lg : List (Nm × Path)} {KP : St → Prop} :
    StoreSeq d r q i f (c :: cs) ⟨t, H, lg⟩ KP = (match arrAt H r q with
      | some (z, rows) => (match rows[i]? with
        | some row => (match row[f]? with
          | some cold => if isOwn cold then
              CleanH (hit [(r, q ++ [(i, f)])]) H ∧ cells1 (hit [(r, q ++ [(i, f)])]) (c :: cs) ∧ OcleanT (hit [(r, q ++ [(i, f)])]) t ∧
                StoreSeq d r q i (f + 1) cs ⟨t.filter (fun en => en.2.keep r (q ++ [(i, f)])), setA H r q (.own z (rows.set i (row.set f c))), noteH d r (q ++ [(i, f)]) lg⟩ KP
            else StoreSeq d r q i (f + 1) cs ⟨t, setA H r q (.own z (rows.set i (row.set f c))), lg⟩ KP
          | none => False)
        | none => False)
      | none => False) := by
  conv => lhs; unfold StoreSeq
  unfold arrAt
  cases hl : look H r with
  | none => simp
  | some co =>
    simp only [Option.bind_some]
    have hap : co.get (q ++ [(i, f)]) = (co.get q).bind (Cell.get [(i, f)]) := get_append _ _ _
    cases hq : co.get q with
    | none => simp [hap, hq]
    | some cq =>
      cases cq with
      | own z rows =>
        simp only [hap, hq, Option.bind_some, Cell.get]
        cases hi : rows[i]? with
        | none => simp
        | some row =>
          simp only [Option.bind_some]
          cases hf : row[f]? with
          | none => simp
          | some cold =>
            simp only [Option.bind_some]
            have hs : putH H r (Cell.set c (q ++ [(i, f)]) co) = setA H r q (.own z (rows.set i (row.set f c))) := by
              unfold setA
              rw [hl, set_append hq]
              simp [Cell.set, hi, hf]
            rw [hs]
      | _ => simp [hap, hq, Cell.get]
theorem StoreSeq_nil {d r q i f t H lg} {KP : St → Prop} : StoreSeq d r q i f [] ⟨t, H, lg⟩ KP = KP ⟨t, H, lg⟩ := by simp [StoreSeq]

theorem StoreSeq_plain {d r q z i} {K : St → Prop} {t lg} : ∀ {cs : List Cell} {f : Nat} {H : HH} {els : List (List Cell)} {row : List Cell}, arrAt H r q = some (z, els) → els[i]? = some row → f + cs.length = row.length → (∀ k c, f ≤ k → row[k]? = some c → isOwn c = false) →
    K ⟨t, setA H r q (.own z (els.set i (row.take f ++ cs))), lg⟩ → StoreSeq d r q i f cs ⟨t, H, lg⟩ K
  | [], f, H, els, row, ha, hi, hf, h1, hk => by
    rw [StoreSeq_nil]
    have hr : row.take f = row := List.take_of_length_le (by simpa using Nat.le_of_eq hf.symm)
    obtain ⟨h1', rfl⟩ := List.getElem?_eq_some_iff.1 hi
    rw [hr, List.append_nil, List.set_getElem_self, setA_self ha] at hk
    exact hk
  | c :: cs, f, H, els, row, ha, hi, hf, h1, hk => by
    have hlt : f < row.length := by rw [← hf]; simp
    have hil := (List.getElem?_eq_some_iff.1 hi).1
    have hco := h1 f _ (Nat.le_refl _) (List.getElem?_eq_getElem hlt)
    simp only [StoreSeq_cons, ha, hi, List.getElem?_eq_getElem hlt, hco, Bool.false_eq_true, if_false]
    refine StoreSeq_plain (els := els.set i (row.set f c)) (row := row.set f c) (arrAt_setA ha) (by rw [List.getElem?_set_self hil]) (by simp at hf ⊢; omega) (fun k x hk' hx => ?_) ?_
    · rw [List.getElem?_set_ne (by omega)] at hx
      exact h1 k x (by omega) hx
    · rw [setA_setA ha, List.set_set]
      have e : (row.set f c).take (f + 1) ++ cs = row.take f ++ c :: cs := by
        rw [List.take_set, List.take_succ_eq_append_getElem hlt, List.set_append_right _ _ (by simp; omega)]
        simp [Nat.min_eq_left (Nat.le_of_lt hlt)]
      rw [e]; exact hk
theorem storeCells_split {P : Program} {a : Addr} : ∀ {xs ys : List Value} {i : Nat} {w w' : World}, (storeCells a xs i).run P w = .ok () w' → (storeCells a (xs ++ ys) i).run P w = (storeCells a ys (i + xs.length)).run P w'
  | [], ys, i, w, w', h => by
    simp [storeCells, Sem.run, pure] at h
    subst h; simp
  | x :: xs, ys, i, w, w', h => by
    simp only [storeCells, List.cons_append, Sem.run_bind] at h ⊢
    cases hs : (store (a.add i) x).run P w with
    | ok u w1 =>
      rw [hs] at h
      simp only [Result.andThen_ok] at h ⊢
      rw [storeCells_split h]
      simp [Nat.add_assoc, Nat.add_comm 1]
    | _ => rw [hs] at h; simp [Result.andThen] at h
theorem storeCells_shift {P : Program} {b o k : Nat} : ∀ {xs : List Value} {i : Nat} {w : World}, (storeCells ⟨b, o, none⟩ xs (k + i)).run P w = (storeCells ⟨b, o + k, none⟩ xs i).run P w
  | [], i, w => rfl
  | x :: xs, i, w => by
    simp only [storeCells, Sem.run_bind, add_none, ← Nat.add_assoc]
    congr 1
    funext u w1
    have := storeCells_shift (P := P) (b := b) (o := o) (k := k) (xs := xs) (i := i + 1) (w := w1)
    simpa [Nat.add_assoc] using this
/-- rows put one behind the other into an array, over cells that own nothing -/
theorem rows_run {P : Program} {e : Env} {a : Act} {r q z xo i0 n0 b o cap} {t : List (Nat × T)} {lg} (h0 : r.1 ≠ 0) (hx : rdO t xo = some (.c (.sl r q z i0 n0))) (hxv : a.eval xo = .slice (some ⟨b, o, none⟩) n0 cap) :
    ∀ (rows : List (List Cell)) (vrows : List (List Value)) (j : Nat) (H : HH) (els : List (List Cell)) (w : World) (β : Nm → Value) (F G : List Nat), RelX e ⟨t, H, lg⟩ a.tmps w β F G → arrAt H r q = some (z, els) → i0 + j + rows.length ≤ els.length ∧ j + rows.length ≤ cap → (∀ row ∈ els, row.length = z) → (∀ row ∈ rows, row.length = z) → rows.length = vrows.length →
      (∀ (R : Cell → Value → Prop) (w : World) (k : Nat) row vs, rows[k]? = some row → vrows[k]? = some vs → VRep R w row vs []) → (∀ (k : Nat) row, k < rows.length → els[i0 + j + k]? = some row → ∀ c ∈ row, isOwn c = false) →
      ∃ w' β' F' G', (storeCells ⟨b, o, none⟩ vrows.flatten (j * z)).run P w = .ok () w' ∧ RelX e ⟨t, setA H r q (.own z (els.take (i0 + j) ++ rows ++ els.drop (i0 + j + rows.length))), lg⟩ a.tmps w' β' F' G'
  | [], vrows, j, H, els, w, β, F, G, hr, ha, hj, hez, hz, hl, hv, ho => by
    have : vrows = [] := List.length_eq_zero_iff.1 (by simpa using hl.symm)
    subst this
    refine ⟨w, β, F, G, by simp [storeCells, Sem.run, pure], ?_⟩
    simpa [setA_self ha] using hr
  | row :: rows, [], j, H, els, w, β, F, G, hr, ha, hj, hez, hz, hl, hv, ho => by simp at hl
  | row :: rows, vs :: vrows, j, H, els, w, β, F, G, hr, ha, hj, hez, hz, hl, hv, ho => by
    have hvp := rd_ref hr.tmps hx rfl
    rw [hxv] at hvp
    obtain ⟨co, els1, hd, e1, e2, e3, e4, e5⟩ := hvp
    have hels : els1 = els := by
      have := arrAt_iff.2 ⟨co, e1, e2⟩
      rw [ha] at this; cases this; rfl
    subst hels
    simp only [List.length_cons] at hj
    obtain ⟨hj, hjc⟩ := hj
    rcases e5 with ⟨b', off, m0, cap0, cap', rfl, e6, e7, e8⟩ | ⟨h00, A, e6, -⟩
    · cases e6
      have hlt : i0 + j < els1.length := by omega
      have hrowl := hez _ (List.getElem_mem hlt)
      have hrz := hz row (by simp)
      have hvr : ∀ R w, VRep R w row vs [] := fun R w => hv R w 0 row vs rfl rfl
      by_cases hz0 : z = 0
      · -- rows of no cells
        have hre : row = [] := List.length_eq_zero_iff.1 (by omega)
        subst hre
        have hvs : vs = [] := by have := (hvr (fun _ _ => False) w).length; exact List.length_eq_zero_iff.1 (by simpa using this)
        subst hvs
        have hsp : els1.take (i0 + j) ++ ([] :: rows) ++ els1.drop (i0 + j + (rows.length + 1)) = els1.take (i0 + (j + 1)) ++ rows ++ els1.drop (i0 + (j + 1) + rows.length) := by
          have : els1[i0 + j] = [] := List.length_eq_zero_iff.1 (by omega)
          rw [show i0 + (j + 1) = i0 + j + 1 from rfl, List.take_succ_eq_append_getElem hlt, this]
          simp [Nat.add_assoc, Nat.add_comm, Nat.add_left_comm]
        obtain ⟨w', β', F', G', m1, m2⟩ := rows_run h0 hx hxv rows vrows (j + 1) H els1 w β F G hr ha (by omega) hez (fun r hr => hz r (by simp [hr])) (by simpa using hl) (fun R w k row vs h1 h2 => hv R w (k + 1) row vs (by simpa using h1) (by simpa using h2)) (fun k row hk h1 => ho (k + 1) row (by simpa using hk) (by rw [← h1]; congr 1; omega))
        refine ⟨w', β', F', G', ?_, ?_⟩
        · simp only [List.flatten_cons, List.nil_append]
          rw [hz0] at m1 ⊢
          simpa using m1
        · simp only [List.length_cons]
          rw [hsp]; exact m2
      · have hj1 : i0 + j + 1 ≤ els1.length := by omega
        have hpt : VP w β H (.pt r q z (i0 + j) 0) (.pointer (some ⟨b, off + i0 * z + j * z, none⟩)) := ⟨co, els1, _, e1, e2, e3, hlt, by omega, b, off, m0, cap0, rfl, by rw [Nat.add_mul]; simp [Nat.add_assoc]⟩
        have hpend : Pend e ⟨t, H, lg⟩ a.tmps w β F G row vs [] := { rel := hr, vals := hvr _ _, ndv := List.nodup_nil, disj := by simp, lowv := by simp, extv := by simp }
        have hst : StoreSeq e.d r q (i0 + j) (0 + 0) row ⟨t, H, lg⟩ (fun s' => s' = ⟨t, setA H r q (.own z (els1.set (i0 + j) row)), lg⟩) :=
          StoreSeq_plain ha (List.getElem?_eq_getElem hlt) (by simp; omega) (fun k c _ hk => ho 0 _ (by simp) (by simpa using List.getElem?_eq_getElem hlt) c (List.mem_of_getElem? hk)) (by simp)
        obtain ⟨w1, s1, β1, F1, G1, r1, rfl, r3⟩ := store_run (P := P) h0 hpend hpt hst
        have hsp : (els1.set (i0 + j) row).take (i0 + (j + 1)) ++ rows ++ (els1.set (i0 + j) row).drop (i0 + (j + 1) + rows.length) = els1.take (i0 + j) ++ (row :: rows) ++ els1.drop (i0 + j + (rows.length + 1)) := by
          have q1 : (els1.set (i0 + j) row).take (i0 + j + 1) = els1.take (i0 + j) ++ [row] := by
            rw [List.take_set, List.take_succ_eq_append_getElem hlt, List.set_append_right _ _ (by simp; omega)]
            simp [Nat.min_eq_left (Nat.le_of_lt hlt)]
          rw [show i0 + (j + 1) = i0 + j + 1 from rfl, q1, List.drop_set_of_lt (by omega)]
          simp [Nat.add_assoc, Nat.add_comm, Nat.add_left_comm]
        obtain ⟨w', β', F', G', m1, m2⟩ := rows_run h0 hx hxv rows vrows (j + 1) _ _ w1 β1 F1 G1 r3 (arrAt_setA ha) (by rw [List.length_set]; omega) (fun rw' h => by
          rcases List.mem_or_eq_of_mem_set h with h | rfl
          · exact hez _ h
          · exact hrz) (fun r hr => hz r (by simp [hr])) (by simpa using hl) (fun R w k row vs h1 h2 => hv R w (k + 1) row vs (by simpa using h1) (by simpa using h2)) (fun k row' hk h1 => ho (k + 1) row' (by simpa using hk) (by
            rw [List.getElem?_set_ne (by omega)] at h1
            rw [← h1]; congr 1; omega))
        refine ⟨w', β', F', G', ?_, ?_⟩
        · have hvl : vs.length = z := by rw [(hvr (fun _ _ => False) w).length]; exact hrz
          have q1 : (storeCells ⟨b, off + i0 * z, none⟩ vs (j * z)).run P w = .ok () w1 := by
            have := storeCells_shift (P := P) (b := b) (o := off + i0 * z) (k := j * z) (xs := vs) (i := 0) (w := w)
            rw [Nat.add_zero] at this
            rw [this]; exact r1
          rw [List.flatten_cons, storeCells_split q1, hvl, ← Nat.succ_mul]
          exact m1
        · simp only [List.length_cons]
          rw [← hsp]
          rw [setA_setA ha] at m2
          exact m2
    · cases e6; omega
theorem run_zero_rows {P : Program} {el : TypeId} {zl : List Value} {w : World} {n : Nat} (hz : tzero P el = some zl) : ∃ z : Value, (zeroValue el).run P w = .ok z w ∧ z.cells.toList = zl ∧ (Builtin.zeroCells z.cells n).toList = (List.replicate n zl).flatten := by
  unfold tzero at hz
  simp only [Option.map_eq_some_iff] at hz
  obtain ⟨z, hz, rfl⟩ := hz
  cases hi : P.info? el with
  | none => simp [hi] at hz
  | some i =>
    simp only [hi, Option.bind_some] at hz
    refine ⟨z, by simp [zeroValue, typeInfo, hi, hz, Sem.run_bind, Result.andThen], rfl, ?_⟩
    by_cases h0 : 0 < z.cells.toList.length
    · have := madeCells_rows z.cells.toList h0 n
      rw [← this]
      simp [Builtin.zeroCells, madeCells]
    · have hc : z.cells = #[] := by
        have : z.cells.toList = [] := List.length_eq_zero_iff.1 (by omega)
        simpa using this
      rw [hc]
      simp [Builtin.zeroCells]
theorem SOp.clear {cx o s K c x t el r q z i n els zl} (ho : o.op = .call c) (hc : c.callee = .builtin .clear) (ha : c.args = #[x]) (hat : c.argTypes = #[t]) (hel : tel cx.P t = some el) (hz : tzc cx.P el = some zl) (hzl : zl.length = z)
    (hdst : ∀ d, o.dst = some d → d < cx.N) (hx : rdO s.t x = some (.c (.sl r q z i n))) (harr : arrAt s.H r q = some (z, els)) (h0 : r.1 ≠ 0) (hno : ∀ (k : Nat) row, k < n → els[i + k]? = some row → ∀ c ∈ row, isOwn c = false) (hez : ∀ row ∈ els, row.length = z)
    (hK : K ⟨putD s.t o.dst (.t []), setA s.H r q (.own z (els.take i ++ List.replicate n zl ++ els.drop (i + n))), s.lg⟩) : SOp cx o s K := by
  obtain ⟨zs, zv, hz1, hfl, rfl⟩ := tzc_iff hz
  intro e a w next Q hd hNe hr hk
  obtain ⟨hdf, β, F, G, hxr⟩ := hr
  obtain ⟨t0, H, lg⟩ := s
  -- what is put
  have hput : ∀ w' β' F' G', RelX e ⟨t0, setA H r q (.own z (els.take i ++ List.replicate n (zcL zs zv) ++ els.drop (i + n))), lg⟩ a.tmps w' β' F' G' → next (a.put o.dst (.tuple #[])) w' := by
    intro w' β' F' G' hrel
    cases hds : o.dst with
    | none =>
      rw [hds] at hK
      exact hk _ _ _ hK ⟨by simpa [Act.put] using hdf, β', F', G', by simpa [Act.put, putD] using hrel⟩
    | some dst =>
      rw [hds] at hK
      obtain ⟨G3, h3⟩ := hrel.put (dst := dst) (x := .t []) (v := .tuple #[]) (Fx := []) hrel.tmps (.t .nil) (by simpa using (List.nodup_append.1 hrel.nd).2.1) (by simp) (by rw [hNe]; exact hdst dst hds)
      refine hk _ _ _ hK ⟨by rw [Act.put_defers]; exact hdf, β', F', G3, ?_⟩
      simpa [Act.put, putD] using h3
  have hv := rd_ref hxr.tmps hx rfl
  have hv' := hv
  obtain ⟨co, els1, hd', e1, e2, e3, e4, e5⟩ := hv
  have hels : els1 = els := by
    have := arrAt_iff.2 ⟨co, e1, e2⟩
    rw [harr] at this; cases this; rfl
  subst hels
  obtain ⟨zval, hzr, hzc, hzz⟩ := run_zero_rows (w := w) (n := n) hz1
  suffices hrun : ∃ w' β' F' G', (Builtin.clear_ #[t] o.type #[a.eval x]).run cx.P w = .ok (.tuple #[]) w' ∧ RelX e ⟨t0, setA H r q (.own z (els1.take i ++ List.replicate n (zcL zs zv) ++ els1.drop (i + n))), lg⟩ a.tmps w' β' F' G' by
    obtain ⟨w', β', F', G', q1, q2⟩ := hrun
    unfold Oper.wp
    have : (execOp a.eval o).run cx.P w = .ok (.value (.tuple #[])) w' := by
      simp [execOp, ho, resolve, hc, ha, hat, invoke, Go.builtin, q1, Sem.run_bind, Result.andThen]
    rw [this]
    exact hput w' β' F' G' q2
  rcases e5 with ⟨b, off, m0, cap0, cap, e5, e6, e7, e8⟩ | ⟨rfl, A, e6, -⟩
  · by_cases hn : n = 0
    · subst hn
      refine ⟨w, β, F, G, ?_, ?_⟩
      · rw [e6]; simp [Builtin.clear_, run_underlying (tel_iff hel), Sem.run_bind, Result.andThen]
      · simpa [setA_self harr] using hxr
    · obtain ⟨w', β', F', G', q1, q2⟩ := rows_run (P := cx.P) (a := a) h0 hx e6 (List.replicate n (zcL zs zv)) (List.replicate n zv) 0 H els1 w β F G hxr harr (by simp; omega) hez (fun r hr => by rw [List.eq_of_mem_replicate hr]; exact hzl) (by simp)
        (fun R w k row vs h1 h2 => by
          have e1 := List.mem_of_getElem? h1
          have e2 := List.mem_of_getElem? h2
          rw [List.eq_of_mem_replicate e1, List.eq_of_mem_replicate e2]
          exact zcs_rep R w hfl) (fun k row hk h1 => hno k row (by simpa using hk) (by simpa using h1))
      refine ⟨w', β', F', G', ?_, by simpa using q2⟩
      rw [Nat.zero_mul] at q1
      have hn1 : ∃ m, n = m + 1 := ⟨n - 1, by omega⟩
      obtain ⟨m, rfl⟩ := hn1
      rw [e6]
      simp [Builtin.clear_, run_underlying (tel_iff hel), hzr, hzz, q1, Sem.run_bind, Result.andThen]
  · refine ⟨w, β, F, G, ?_, ?_⟩
    · rw [e6]; cases A <;> simp [Builtin.clear_, run_underlying (tel_iff hel), Sem.run_bind, Result.andThen]
    · simpa [setA_self harr] using hxr
theorem plain_vrep {R R' : Cell → Value → Prop} {w w' : World} : ∀ {l : List Cell} {vs F}, (∀ c ∈ l, ∃ x, c = Cell.v x) → VRep R w l vs F → VRep R' w' l vs []
  | [], _, _, _, .nil => .nil
  | c :: l, _, _, hc, .cons hr ht => by
    obtain ⟨x, rfl⟩ := hc c (by simp)
    cases hr with
    | v _ hf => exact VRep.cons (F := []) (.v _ hf) (plain_vrep (fun c h => hc c (by simp [h])) ht)
    | ref hi => simp [isRef] at hi
/-- append in place: a stretch of an array behind a stretch of the same array that has room for it -/
theorem SOp.appendIn {cx o s K dst c t sb sx r q z i0 n0 i2 n2 els el i} (ho : o.op = .call c) (hc : c.callee = .builtin .append) (ha : c.args = #[sb, sx]) (hat : c.argTypes = #[t, t]) (hdst : o.dst = some dst) (hN : dst < cx.N)
    (h1 : rdO s.t sb = some (.c (.sl r q z i0 n0))) (h2 : rdO s.t sx = some (.c (.sl r q z i2 n2))) (harr : arrAt s.H r q = some (z, els)) (h0 : r.1 ≠ 0) (hel : tel cx.P t = some el) (hi : cx.P.info? el = some i) (hsz : i.size = z)
    (hez : ∀ row ∈ els, row.length = z) (hno : ∀ row ∈ els, ∀ c ∈ row, ∃ x, c = .v x) (hfit : i0 + n0 + n2 ≤ els.length) (h2l : i2 + n2 ≤ els.length)
    (hK : K ⟨setT s.t dst (.c (.sl r q z i0 (n0 + n2))), setA s.H r q (.own z (els.take (i0 + n0) ++ cutD i2 n2 els ++ els.drop (i0 + n0 + n2))), s.lg⟩) : SOp cx o s K := by
  intro e a w next Q hd hNe hr hk
  obtain ⟨hdf, β, F, G, hx⟩ := hr
  obtain ⟨t0, H, lg⟩ := s
  have hcl : (cutD i2 n2 els).length = n2 := by unfold cutD; rw [List.length_take, List.length_drop]; omega
  have hsrc := Src.rep (a := a) (z := z) (els2 := cutD i2 n2 els) (.ref h2 harr rfl (fun row hr c hc => by
    obtain ⟨x, rfl⟩ := hno row (List.mem_of_mem_drop (List.mem_of_mem_take hr)) c hc
    rfl) (fun _ => rfl)) hx hx.tmps (List.nodup_append.1 hx.nd).2.1
  obtain ⟨X, cX, vs, F2, G', m1, m2, m3, m4, m5, m6, m7⟩ := hsrc
  have hrows : ∃ vrows, vs = List.flatten vrows ∧ (cutD i2 n2 els).length = vrows.length ∧ (∀ (R : Cell → Value → Prop) (w : World) (k : Nat) row vs, (cutD i2 n2 els)[k]? = some row → vrows[k]? = some vs → VRep R w row vs []) := by
    have key : ∀ (l : List (List Cell)) vs F, (∀ row ∈ l, ∀ c ∈ row, ∃ x, c = Cell.v x) → VRep (VP w β H) w l.flatten vs F → ∃ vrows, vs = List.flatten vrows ∧ l.length = vrows.length ∧ (∀ (R : Cell → Value → Prop) (w : World) (k : Nat) row vs, l[k]? = some row → vrows[k]? = some vs → VRep R w row vs []) := by
      intro l
      induction l with
      | nil =>
        intro vs F hl hv
        simp only [List.flatten_nil] at hv
        cases hv
        exact ⟨[], rfl, rfl, by simp⟩
      | cons row l ih =>
        intro vs F hl hv
        obtain ⟨F1, F2, rfl, k1, k2⟩ := hv.take_drop row.length
        simp only [List.flatten_cons, List.take_left, List.drop_left] at k1 k2
        obtain ⟨vrows, e1, e2, e3⟩ := ih _ _ (fun r hr => hl r (by simp [hr])) k2
        refine ⟨vs.take row.length :: vrows, by rw [List.flatten_cons, ← e1, List.take_append_drop], by simp [e2], fun R w k row' vs' h1 h2 => ?_⟩
        cases k with
        | zero =>
          simp only [List.getElem?_cons_zero, Option.some.injEq] at h1 h2
          subst h1; subst h2
          exact plain_vrep (hl row (by simp)) k1
        | succ k => exact e3 R w k row' vs' (by simpa using h1) (by simpa using h2)
    exact key _ _ _ (fun row hr => hno row (List.mem_of_mem_drop (List.mem_of_mem_take hr))) m2
  obtain ⟨vrows, hvs, hvl, hvr⟩ := hrows
  obtain ⟨E, hE⟩ : ∃ E, E = els.take (i0 + n0) ++ cutD i2 n2 els ++ els.drop (i0 + n0 + n2) := ⟨_, rfl⟩
  rw [← hE] at hK
  have hEl : E.length = els.length := by rw [hE]; simp [hcl]; omega
  -- what the base is
  have hbase := rd_ref hx.tmps h1 rfl
  obtain ⟨co, els1, hd0, e1, e2, e3, e4, e5⟩ := hbase
  have hels : els1 = els := by
    have := arrAt_iff.2 ⟨co, e1, e2⟩
    rw [harr] at this; cases this; rfl
  subst hels
  have hcapl : ∀ A m cap0, hd0 = .slice A m cap0 → els1.length ≤ cap0 := by
    rintro A m cap0 rfl
    obtain ⟨F1, hr, -⟩ := hx.holds.rep e1
    obtain ⟨h', F0, k1, k2, k3⟩ := hr.node e2
    rw [e3] at k1; cases k1
    rcases own_inv k2 with ⟨rfl, -, A, hh⟩ | ⟨_, _, cap, _, _, _, _, _, _, hh, _, _, _, hcap, _⟩
    · simp
    · cases hh; exact hcap
  have happ : ∀ A sCap, a.eval sb = .slice A n0 sCap → n0 + n2 ≤ sCap → (Builtin.append_ #[t, t] o.type #[a.eval sb, a.eval sx]).run cx.P w = ((match A with | some a => storeCells (a.add (n0 * z)) vs | none => pure () : Sem Unit).run cx.P w).andThen (fun _ w' => .ok (.slice A (n0 + n2) sCap) w') := by
    intro A sCap hA hf
    rw [hA, m1, hcl]
    have hl2 : vs.length = n2 * i.size := by rw [m2.length, flatten_len m4, hcl, hsz]
    have hs2 : vs = [] ∨ ∃ a, X = some a ∧ ∀ (j : Nat) u, vs[j]? = some u → w.cell? (a.add j) = some u := by
      rcases m3 with m3 | ⟨b, o, rfl, m3⟩
      · exact .inl m3
      · exact .inr ⟨_, rfl, fun j u hj => by rw [add_none]; exact m3 j u hj⟩
    rw [run_app_fit (tel_iff hel) hi hl2 hs2 hf, hsz]
    cases A <;> rfl
  suffices hrun : ∃ v' w' β' F' G', (Builtin.append_ #[t, t] o.type #[a.eval sb, a.eval sx]).run cx.P w = .ok v' w' ∧ RelX e ⟨t0, setA H r q (.own z E), lg⟩ a.tmps w' β' F' G' ∧ flat v' = true ∧ VP1 w' β' (setA H r q (.own z E)) (.sl r q z i0 (n0 + n2)) v' by
    obtain ⟨v', w', β', F', G', r1, r2, r3, r4⟩ := hrun
    unfold Oper.wp
    have : (execOp a.eval o).run cx.P w = .ok (.value v') w' := by
      simp only [execOp, ho, resolve, hc, ha, hat, invoke, Go.builtin]
      simp [r1, Sem.run_bind, Result.andThen]
    rw [this]
    show next (a.put o.dst _) _
    obtain ⟨G3, h3⟩ := r2.put (dst := dst) (x := .c (.sl r q z i0 (n0 + n2))) (v := v') (Fx := []) r2.tmps (.c (.ref rfl r3 r4)) (by simpa using (List.nodup_append.1 r2.nd).2.1) (by simp) (by rw [hNe]; exact hN)
    refine hk _ _ _ hK ⟨by rw [Act.put_defers]; exact hdf, β', F', G3, ?_⟩
    simpa [Act.put, hdst] using h3
  have harr' : arrAt (setA H r q (.own z E)) r q = some (z, E) := arrAt_setA harr
  rcases e5 with ⟨b, off, m0, cap0, cap, rfl, e6, e7, e8⟩ | ⟨rfl, A, e6, B, m, rfl⟩
  · have hc0 := hcapl _ _ _ rfl
    have hr := happ _ _ e6 (by omega)
    obtain ⟨w', β', F', G', q1, q2⟩ := rows_run (P := cx.P) (a := a) h0 (r := r) (q := q) (z := z) (xo := sb) (i0 := i0) (n0 := n0) (b := b) (o := off + i0 * z) (cap := cap) (t := t0) (lg := lg) h1 e6 (cutD i2 n2 els1) vrows n0 H els1 w β F G hx harr (by rw [hcl]; omega) hez (fun row hr => hez row (List.mem_of_mem_drop (List.mem_of_mem_take hr))) hvl hvr
      (fun k row _ hk c hc => by obtain ⟨x, rfl⟩ := hno row (List.mem_of_getElem? hk) c hc; rfl)
    rw [hcl, ← hE] at q2
    refine ⟨.slice (some ⟨b, off + i0 * z, none⟩) (n0 + n2) cap, w', β', F', G', ?_, q2, rfl, ?_⟩
    · rw [hr]
      simp only [add_none]
      have := storeCells_shift (P := cx.P) (b := b) (o := off + i0 * z) (k := n0 * z) (xs := vs) (i := 0) (w := w)
      rw [Nat.add_zero] at this
      rw [← this, hvs, q1]; rfl
    · have hv := rd_ref q2.tmps h1 rfl
      rw [e6] at hv
      obtain ⟨co', els', hd', f1, f2, f3, f4, f5⟩ := hv
      have he' : els' = E := by
        have := arrAt_iff.2 ⟨co', f1, f2⟩
        rw [harr'] at this; cases this; rfl
      subst he'
      refine ⟨co', els', hd', f1, f2, f3, by omega, ?_⟩
      rcases f5 with ⟨b', off', m', cap', cap'', rfl, g1, g2, g3⟩ | ⟨hn0, A, g1, B, m, rfl⟩
      · simp only [Value.slice.injEq, Option.some.injEq, Addr.mk.injEq, and_true, true_and] at g1
        obtain ⟨⟨rfl, g4⟩, rfl⟩ := g1
        exact .inl ⟨b, off', m', cap', cap, rfl, by rw [g4], by omega, g3⟩
      · simp only [Value.slice.injEq] at g1
        exact .inr ⟨by omega, _, by rw [show n0 + n2 = 0 by omega, g1.2.2], B, m, rfl⟩
  · have hc0 := hcapl _ _ _ rfl
    have hn2 : n2 = 0 := by omega
    subst hn2
    have hE' : E = els1 := by
      rw [hE]
      have : cutD i2 0 els1 = [] := by simp [cutD]
      rw [this]; simp
    have hv0 : vs = [] := by
      have : cutD i2 0 els1 = [] := by simp [cutD]
      rw [this] at m2
      simp only [List.flatten_nil] at m2
      cases m2; rfl
    have hr := happ _ _ e6 (by omega)
    refine ⟨.slice A 0 0, w, β, F, G, ?_, ?_, rfl, ?_⟩
    · rw [hr, hv0]
      cases A <;> simp [storeCells, Sem.run, Result.andThen, pure]
    · rw [hE', setA_self harr]; exact hx
    · rw [hE', setA_self harr]
      exact ⟨co, els1, _, e1, e2, e3, by omega, .inr ⟨rfl, A, rfl, B, m, rfl⟩⟩
end Go.Px


namespace Go.Px
open Go.RowKit
set_option linter.unusedVariables false
set_option linter.unusedSimpArgs false
set_option linter.constructorNameAsVariable false

/-- an array goes whole into the temporary that refers to it -/
def takeK (d : Nat) (s : St) (i : Nat) (K : St → Prop) : Prop :=
  match getT s.t i with
  | some (.c (.sl r q z i0 n)) =>
    (match look s.H r with
    | some c =>
      (match c.get q with
      | some (.own z' els) =>
        (z' = z ∧ i0 + n ≤ els.length) ∧ CleanH (hit [(r, q)]) s.H ∧ OcleanT (hit [(r, q)]) (delT s.t i) ∧
          (if q = [] then r.1 = d ∧ K { s with t := (i, .c (.own z (cutD i0 n els))) :: (delT s.t i).filter (fun en => en.2.keep r q), H := delH s.H r }
           else r.1 ≠ 0 ∧ K { t := (i, .c (.own z (cutD i0 n els))) :: (delT s.t i).filter (fun en => en.2.keep r q), H := putH s.H r (Cell.set .x q c), lg := noteH d r q s.lg })
      | _ => False)
    | none => False)
  | some _ => K s
  | none => False

theorem takeK_ghost {d s i K} (h : takeK d s i K) : ∃ s', K s' ∧ Ghost d s s' := by
  unfold takeK at h
  split at h
  · rename_i r q z i0 n hi
    split at h
    · rename_i c hl
      split at h
      · rename_i z' els hg
        obtain ⟨⟨rfl, hn⟩, hcl, hoc, h⟩ := h
        have hp : ∀ en ∈ s.t, en.1 ≠ i → en.2.keep r q = true → en.2.clean (hit [(r, q)]) := fun en he hne hk => keep_clean hk (hoc en (List.mem_filter.2 ⟨he, by simpa using hne⟩))
        split at h
        · rename_i hq
          subst hq
          simp [Cell.get] at hg
          subst hg
          exact ⟨_, h.2, fun e a w hd hr => by subst hd; exact hr.takeRoot _ hi h.1 hl hn hcl hp⟩
        · rename_i hq
          exact ⟨_, h.2, fun e a w hd hr => by subst hd; exact hr.take _ hi h.1 hq hl hg hn hcl hp⟩
      · exact h.elim
    · exact h.elim
  · exact ⟨s, h, fun e a w _ hr => hr⟩
  · exact h.elim

/-- arrays that the cells of a struct in hand refer to, and that are of this activation's own, go into these cells -/
def gathC (d : Nat) (i : Nat) : Nat → List Cell → List Cell → St → (St → Prop) → Prop
  | _, [], _, s, K => K s
  | k, .sl r q z i0 n :: cs, l, s, K =>
    if r.1 = d then
      (match look s.H r with
      | some co =>
        (match co.get q with
        | some (.own z' els) =>
          (z' = z ∧ i0 + n = els.length) ∧ CleanH (hit [(r, q)]) s.H ∧ OcleanT (hit [(r, q)]) (delT s.t i) ∧ cells1 (hit [(r, q)]) (l.set k .x) ∧
            (if q = [] then gathC d i (k + 1) cs (l.set k (.own z (els.drop i0))) { s with t := (i, .a (l.set k (.own z (els.drop i0)))) :: (delT s.t i).filter (fun en => en.2.keep r q), H := delH s.H r } K
             else gathC d i (k + 1) cs (l.set k (.own z (els.drop i0))) { s with t := (i, .a (l.set k (.own z (els.drop i0)))) :: (delT s.t i).filter (fun en => en.2.keep r q), H := putH s.H r (Cell.set .x q co) } K)
        | _ => False)
      | none => False)
    else gathC d i (k + 1) cs l s K
  | k, _ :: cs, l, s, K => gathC d i (k + 1) cs l s K
theorem Ghost.trans {d s s1 s2} (h : Ghost d s s1) (h' : Ghost d s1 s2) : Ghost d s s2 := fun e a w hd hr => h' e a w hd (h e a w hd hr)
theorem Ghost.refl {d s} : Ghost d s s := fun e a w _ hr => hr
theorem gathC_ghost {d i K} (hd0 : d ≠ 0) : ∀ {cs k l s}, getT s.t i = some (.a l) → l.drop k = cs → gathC d i k cs l s K → ∃ s', K s' ∧ Ghost d s s'
  | [], k, l, s, hi, hl, h => ⟨s, by simpa [gathC] using h, Ghost.refl⟩
  | c :: cs, k, l, s, hi, hl, h => by
    have hk : l[k]? = some c := by rw [← List.head?_drop, hl]; rfl
    have hd : l.drop (k + 1) = cs := by rw [← List.drop_drop, hl]; rfl
    have hset : ∀ c', (l.set k c').drop (k + 1) = cs := fun c' => by rw [List.drop_set_of_lt (by omega), hd]
    have hgo : gathC d i (k + 1) cs l s K → ∃ s', K s' ∧ Ghost d s s' := fun h => gathC_ghost hd0 hi hd h
    cases c with
    | sl r q z i0 n =>
      simp only [gathC] at h
      split at h
      · rename_i hr
        split at h
        · rename_i co hlk
          split at h
          · rename_i z' els hg
            obtain ⟨⟨rfl, hn⟩, hcl, hoc, hca, h⟩ := h
            have hp : ∀ en ∈ s.t, en.1 ≠ i → en.2.keep r q = true → en.2.clean (hit [(r, q)]) := fun en he hne hk => keep_clean hk (hoc en (List.mem_filter.2 ⟨he, by simpa using hne⟩))
            split at h
            · rename_i hq
              subst hq
              simp [Cell.get] at hg
              subst hg
              obtain ⟨s', h1, h2⟩ := gathC_ghost hd0 (by simp [getT]) (hset _) h
              exact ⟨s', h1, Ghost.trans (fun e a w he hr' => by subst he; exact hr'.takeRootA _ hi hk hr hlk hn hcl hp hca) h2⟩
            · rename_i hq
              obtain ⟨s', h1, h2⟩ := gathC_ghost hd0 (by simp [getT]) (hset _) h
              exact ⟨s', h1, Ghost.trans (fun e a w he hr' => by
                have := hr'.takeA _ hi hk (by rw [hr]; exact hd0) hq hlk hg hn hcl hp hca
                simpa [noteH, hr, he] using this) h2⟩
          · exact h.elim
        · exact h.elim
      · exact hgo h
    | v y => exact hgo (by simpa [gathC] using h)
    | own z els => exact hgo (by simpa [gathC] using h)
    | pt r q z i f => exact hgo (by simpa [gathC] using h)
    | fn f cs' => exact hgo (by simpa [gathC] using h)
    | x => exact hgo (by simpa [gathC] using h)
def gathK (d : Nat) (o : Operand) (K : St → Prop) (s : St) : Prop :=
  match o with
  | .tmp i => (match getT s.t i with
    | some (.a l) => d ≠ 0 ∧ gathC d i 0 l l s K
    | some (.c (.sl r q z i0 n)) => if r.1 = d then takeK d s i K else K s
    | _ => K s)
  | _ => K s
theorem gathK_ghost {d o K s} (h : gathK d o K s) : ∃ s', K s' ∧ Ghost d s s' := by
  unfold gathK at h
  split at h
  · split at h
    · rename_i l hi
      exact gathC_ghost h.1 hi rfl h.2
    · split at h
      · exact takeK_ghost h
      · exact ⟨s, h, Ghost.refl⟩
    · exact ⟨s, h, Ghost.refl⟩
  · exact ⟨s, h, Ghost.refl⟩
/-- ahead of a store: an array that goes back into the place that owns it is taken out of it -/
def gathS (d : Nat) (ad x : Operand) (K : St → Prop) (s : St) : Prop :=
  match rdO s.t ad, x with
  | some (.c (.pt r q z i f)), .tmp j =>
    (match getT s.t j with
    | some (.c (.sl r' q' z' i0 n)) => if q' = q ++ [(i, f)] ∧ r' = r ∧ ¬ r.1 = d then takeK d s j K else gathK d x K s
    | _ => gathK d x K s)
  | _, _ => gathK d x K s
theorem gathS_ghost {d ad x K s} (h : gathS d ad x K s) : ∃ s', K s' ∧ Ghost d s s' := by
  unfold gathS at h
  split at h
  · split at h
    · split at h
      · exact takeK_ghost h
      · exact gathK_ghost h
    · exact gathK_ghost h
  · exact gathK_ghost h
def gathKs (d : Nat) : List Operand → (St → Prop) → St → Prop
  | [], K, s => K s
  | o :: os, K, s => gathK d o (gathKs d os K) s
theorem gathKs_ghost {d} : ∀ {os K s}, gathKs d os K s → ∃ s', K s' ∧ Ghost d s s'
  | [], K, s, h => ⟨s, h, Ghost.refl⟩
  | o :: os, K, s, h => by
    obtain ⟨s1, h1, g1⟩ := gathK_ghost h
    obtain ⟨s2, h2, g2⟩ := gathKs_ghost h1
    exact ⟨s2, h2, g1.trans g2⟩
/-- the source of an append -/
def srcK (H : HH) (t1 : List (Nat × T)) (x : Operand) (z : Nat) (K : List (List Cell) → List (Nat × T) → Prop) : Prop :=
  match tkO t1 x with
  | some (.c (.own z2 els2), t2) => (els2 ≠ [] → z2 = z) ∧ K els2 t2
  | some (.c (.sl r q z2 i n), _) =>
    (match arrAt H r q with
    | some (z', els) => z' = z2 ∧ (∀ row ∈ (els.drop i).take n, ∀ c ∈ row, isOwn c = false) ∧ ((els.drop i).take n ≠ [] → z2 = z) ∧ K ((els.drop i).take n) t1
    | none => False)
  | _ => False

theorem srcK_src {s : St} {t1 x z K} (h : srcK s.H t1 x z K) : ∃ els2 t2, K els2 t2 ∧ Src s t1 x els2 z t2 := by
  unfold srcK at h
  split at h
  · rename_i z2 els2 t2 hx
    exact ⟨els2, t2, h.2, .own hx h.1⟩
  · rename_i r q z2 i n t2 hx
    split at h
    · rename_i z' els ha
      obtain ⟨rfl, h1, h2, h3⟩ := h
      have hrd : rdO t1 x = some (.c (.sl r q z' i n)) := by
        cases x with
        | tmp j => simp only [tkO, Option.map_eq_some_iff, Prod.mk.injEq] at hx; obtain ⟨y, hy, rfl, -⟩ := hx; exact hy
        | const v => simp only [tkO, rdO, Option.map_some, Option.some.injEq, Prod.mk.injEq] at hx; exact congrArg some hx.1
        | func f => simp only [tkO, rdO, Option.map_some, Option.some.injEq, Prod.mk.injEq] at hx; exact congrArg some hx.1
        | global g => simp [tkO, rdO] at hx
      exact ⟨_, _, h3, .ref hrd ha rfl h1 h2⟩
    · exact h.elim
  · exact h.elim

/-- a slice asked whether it is nil: if it is, it is empty -/
theorem SOp.eqNil {cx o s K dst t x ty el r q z i n} {op : BinOp} (ho : o.op = .binOp op t x (.const (.slice none 0 0)) ty) (hop : op = .eql ∨ op = .neq) (hdst : o.dst = some dst) (hN : dst < cx.N) (hx : rdO s.t x = some (.c (.sl r q z i n))) (hel : tel cx.P t = some el)
    (hK : ∀ b : Bool, (b = true → n = 0) → K { s with t := setT s.t dst (.c (.v (.bool (if op = .eql then b else !b)))) }) : SOp cx o s K := by
  intro e a w next Q hd hNe hr hk
  obtain ⟨hdf, β, F, G, hx'⟩ := hr
  obtain ⟨c, els, hh, e1, e2, e3, e4, e5⟩ := rd_ref hx'.tmps hx rfl
  obtain ⟨A, cap, hv, hA⟩ : ∃ A cap, a.eval x = .slice A n cap ∧ (A = none → n = 0) := by
    rcases e5 with ⟨b, off, n0, cap0, cap, rfl, e6, e7, e8⟩ | ⟨rfl, A, e6, -⟩
    · exact ⟨_, _, e6, fun h => by cases h⟩
    · exact ⟨_, _, e6, fun _ => rfl⟩
  have hun := tel_iff hel
  have hcn : a.eval (.const (.slice none 0 0)) = .slice none 0 0 := rfl
  have heq : ∀ d, (Op.equalIn (d + 1) t (.slice A n cap) (.slice none 0 0)).run cx.P w = .ok A.isNone w := by
    intro d
    cases A <;> simp [Op.equalIn, run_underlying hun, Sem.run_bind, Result.andThen, Sem.run, pure]
  have heq' : (Op.equal t (.slice A n cap) (.slice none 0 0)).run cx.P w = .ok A.isNone w := heq 9999
  have hg : (eqGuard op t x (.const (.slice none 0 0)) (.slice A n cap) (.slice none 0 0)).run cx.P w = .ok () w := by
    rcases hop with rfl | rfl <;> rfl
  have hrun : (execOp a.eval o).run cx.P w = .ok (.value (.bool (if op = .eql then A.isNone else !A.isNone))) w := by
    rcases hop with rfl | rfl
    · simp only [execOp, ho, hv, hcn, Sem.run_bind, hg, Result.andThen_ok]
      have : (binOp .eql t (.slice A n cap) (.slice none 0 0)).run cx.P w = .ok (.bool A.isNone) w := by
        simp only [binOp, Sem.run_bind, heq', Result.andThen_ok]; rfl
      rw [this]; rfl
    · simp only [execOp, ho, hv, hcn, Sem.run_bind, hg, Result.andThen_ok]
      have : (binOp .neq t (.slice A n cap) (.slice none 0 0)).run cx.P w = .ok (.bool (!A.isNone)) w := by
        simp only [binOp, Sem.run_bind, heq', Result.andThen_ok]; rfl
      rw [this]; rfl
  unfold Oper.wp
  rw [hrun]
  show next (a.put o.dst _) w
  obtain ⟨G'', hx''⟩ := hx'.put (dst := dst) (x := .c (.v (.bool (if op = .eql then A.isNone else !A.isNone)))) (v := .bool (if op = .eql then A.isNone else !A.isNone)) (Fx := []) hx'.tmps (.c (.v _ rfl)) (by simpa using (List.nodup_append.1 hx'.nd).2.1) (by simp) (by rw [hNe]; exact hN)
  refine hk _ _ _ (hK A.isNone (fun h => hA (by simpa using h))) ⟨by rw [Act.put_defers]; exact hdf, β, F, G'', ?_⟩
  simpa [Act.put, hdst] using hx''

/-- make of no elements: what an empty array is -/
theorem SOp.makeNil {cx o s K dst t ln cp kl kc el zl i} (ho : o.op = .makeSlice t ln cp) (hdst : o.dst = some dst) (hN : dst < cx.N) (hl : rdO s.t ln = some (.c (.v (.int kl (0 : Nat))))) (hc : rdO s.t cp = some (.c (.v (.int kc (0 : Nat)))))
    (hel : tel cx.P t = some el) (hz : tzero cx.P el = some zl) (hi : cx.P.info? el = some i)
    (hK : K { s with t := setT s.t dst (.c (.own zl.length [])) }) : SOp cx o s K := by
  intro e a w next Q hd hNe hr hk
  obtain ⟨hdf, β, F, G, hx⟩ := hr
  generalize zl.length = zn at hK
  have e1 := ev_v hx.tmps hl
  have e2 := ev_v hx.tmps hc
  unfold tzero at hz
  simp only [Option.map_eq_some_iff, hi, Option.bind_some] at hz
  obtain ⟨z, hz, rfl⟩ := hz
  have hr := run_make (P := cx.P) w t el i z (tel_iff hel) hi hz kl kc 0 0 (by omega) (by omega) (by simp) (by omega)
  unfold Oper.wp
  have hrun : (execOp a.eval o).run cx.P w = .ok (.value (.slice (some ⟨w.heap.size, 0, none⟩) 0 0)) { w with heap := w.heap.push (.cells (madeCells z.cells (0 * i.size)) el) } := by
    have e1' : a.eval ln = .int kl 0 := by simpa using e1
    have e2' : a.eval cp = .int kc 0 := by simpa using e2
    simp only [execOp, ho, e1', e2', Sem.run_bind]
    have hr' := hr
    simp only [Int.toNat_zero] at hr'
    rw [hr']
    rfl
  rw [hrun]
  show next (a.put o.dst _) _
  obtain ⟨G'', hr'⟩ := hx.putW (dst := dst) (x := .c (.own zn [])) (Fx := []) (below_push w _) (Frs.push w _ _ _) hx.tmps (.c (.nil zn (some ⟨w.heap.size, 0, none⟩))) (by simpa using (List.nodup_append.1 hx.nd).2.1) (by simp) (fun b hb => hb) (by rw [hNe]; exact hN)
  refine hk _ _ _ hK ⟨by rw [Act.put_defers]; exact hdf, β, F, G'', ?_⟩
  simpa [Act.put, hdst] using hr'

theorem SOp.min {cx o s K dst c x y k a b} (ho : o.op = .call c) (hc : c.callee = .builtin .min) (ha : c.args = #[x, y]) (hdst : o.dst = some dst) (hN : dst < cx.N) (hx : rdO s.t x = some (.c (.v (.int k a)))) (hy : rdO s.t y = some (.c (.v (.int k b))))
    (hK : K { s with t := setT s.t dst (.c (.v (.int k (if b < a then b else a)))) }) : SOp cx o s K := by
  refine SOp.scal hdst hN rfl (fun w ac β G h => ?_) hK
  have h1 := ev_v h hx
  have h2 := ev_v h hy
  simp [execOp, ho, resolve, hc, ha, invoke, Go.builtin, h1, h2, run_min_int2, Sem.run_bind, Result.andThen]

/-- what follows, at a state that a value makes (kept shut until the value is there) -/
def VK (K : St → Prop) (t : List (Nat × T)) (H : HH) (lg : List (Nm × Path)) (dst : Nat) (cs : List Nat) (x : T) : Prop := K ⟨setT (delL t cs) dst x, H, lg⟩
def CK (d : Nat) (K : St → Prop) (t' : List (Nat × T)) (dst : Option Nat) (lg0 : List (Nm × Path)) (x : T) (H' : HH) (lg : List (Nm × Path)) : Prop :=
  (∀ e ∈ lg, OcleanT (hit [e]) t') ∧ K ⟨putD (t'.filter fun en => keepL lg en.2) dst x, H', lg.filter (fun e => decide (e.1.1 ≠ d)) ++ lg0⟩
def AK (K : St → Prop) (H : HH) (lg : List (Nm × Path)) (z0 : Nat) (els : List (List Cell)) (zl dst : Nat) (els2 : List (List Cell)) (t2 : List (Nat × T)) : Prop :=
  els.length + els2.length ≤ 134217728 ∧ K ⟨setT t2 dst (.c (.own zl (els ++ els2))), H, lg⟩
def appK (K : St → Prop) (sb sx : Operand) (zl dst : Nat) (s : St) : Prop :=
  match tkO s.t sb with
  | some (.c (.own z0 els), t1) => (z0 = zl ∨ z0 = 0) ∧ srcK s.H t1 sx zl (AK K s.H s.lg z0 els zl dst)
  | _ => False
def isNilC : Operand → Bool
  | .const (.slice none 0 0) => true
  | _ => false
theorem isNilC_iff {y : Operand} (h : isNilC y = true) : y = .const (.slice none 0 0) := by
  unfold isNilC at h
  split at h
  · rfl
  · cases h

def PK (K : St → Prop) (dst : Option Nat) (x : T) (s : St) : Prop := K { s with t := putD s.t dst x }
def storeK (cx : Cx) (t : TypeId) (ad x : Operand) (K : St → Prop) (s : St) : Prop :=
  match rdO s.t ad, tkO s.t x with
  | some (.c (.pt r q z i f)), some (y, t') =>
    (match y.cells with
    | some cs => (tok cx.P t = true ∧ tsz cx.P t = cs.length ∧ r.1 ≠ 0) ∧ StoreSeq cx.d r q i f (relC cx.P t x cs) { s with t := t' } K
    | none => False)
  | _, _ => False
def bsK (cx : Cx) (t : TypeId) (len : Nat) (parts : Array (Nat × Operand)) (dst : Nat) (K : St → Prop) (s : St) : Prop :=
  match tkParts s.t parts.toList, tel cx.P t with
  | some (ps, t'), some el =>
    (match tzc cx.P el with
    | some zl => (tok cx.P el = true ∧ 0 < zl.length ∧ tsz cx.P el = zl.length ∧ ps.length = len ∧ 0 < len ∧ len * zl.length ≤ 16777216) ∧ (match dense zl.length 0 ps with | some els => K { s with t := setT t' dst (.c (.own zl.length els)) } | none => False)
    | none => False)
  | _, _ => False
/-- captured references -/
def capR : Cell → Bool
  | .sl .. | .pt .. => true
  | _ => false
theorem VP_capR {w β H c x} (hc : capR c = true) (h : VP w β H c x) : VP1 w β H c x := by
  cases c <;> simp_all [capR, VP]
/-- the captured references of a closure -/
def capsR (t : List (Nat × T)) : List Operand → Option (List Cell)
  | [] => some []
  | o :: os => (match rdO t o with
    | some (.c c) => if capR c = true then (match capsR t os with | some cs => some (c :: cs) | none => none) else none
    | _ => none)
theorem capsR_get {t : List (Nat × T)} : ∀ {os cs}, capsR t os = some cs → os.length = cs.length ∧ ∀ (i : Nat) o c, os[i]? = some o → cs[i]? = some c → rdO t o = some (.c c) ∧ capR c = true
  | [], cs, h => by simp [capsR] at h; subst h; simp
  | o :: os, cs, h => by
    unfold capsR at h
    split at h
    · rename_i c hc
      split at h
      · rename_i hr
        split at h
        · rename_i cs' hcs
          cases h
          obtain ⟨h1, h2⟩ := capsR_get hcs
          refine ⟨by simp [h1], fun i o' c' e1 e2 => ?_⟩
          cases i with
          | zero => simp at e1 e2; subst e1 e2; exact ⟨hc, hr⟩
          | succ i => exact h2 i o' c' (by simpa using e1) (by simpa using e2)
        · cases h
      · cases h
    · cases h
theorem SOp.makeFunc {cx o s K dst f} {caps : Array Operand} {cs} (ho : o.op = .makeFunc (.func f) #[] caps) (hdst : o.dst = some dst) (hN : dst < cx.N) (hx : capsR s.t caps.toList = some cs) (hK : K { s with t := setT s.t dst (.c (.fn f cs)) }) : SOp cx o s K := by
  refine SOp.plain hdst hN (fun w a β F G e h => ?_) hK
  obtain ⟨hl, hg⟩ := capsR_get hx
  refine ⟨.func (.func f) #[] (caps.map a.eval), by simp [execOp, ho, Instr.makeFunc], .c (.ref rfl rfl ⟨(caps.map a.eval).toList, rfl, by simpa using hl.symm, fun i c' y h1 h2 => ?_⟩)⟩
  simp only [Array.toList_map, List.getElem?_map, Option.map_eq_some_iff] at h2
  obtain ⟨o', h2, rfl⟩ := h2
  obtain ⟨e1, e2⟩ := hg i o' c' h2 h1
  exact VP_capR e2 (rd_ref h.tmps e1 (by cases c' <;> simp_all [capR, isRef]))

/-- what comes of an operation -/
def isIntT (P : Program) (t : TypeId) : Bool := match P.underlying t with | some (.int _) => true | _ => false
theorem isIntT_iff {P : Program} {t} (h : isIntT P t = true) : ∃ k, P.underlying t = some (.int k) := by
  unfold isIntT at h
  split at h
  · exact ⟨_, by assumption⟩
  · cases h
/-- append(x, make([]T, n)...) -/
def appZK (K : St → Prop) (sb sx : Operand) (zl : List Cell) (dst : Nat) (s : St) : Prop :=
  match tkO s.t sb with
  | some (.c (.own z0 els), t1) => (z0 = zl.length ∨ z0 = 0) ∧ (match rdO s.t sx with | some (.c (.v (.int _ n))) => (0 ≤ n ∧ els.length + n.toNat ≤ 134217728) ∧ K { s with t := setT t1 dst (.c (.own zl.length (els ++ List.replicate n.toNat zl))) } | _ => False)
  | _ => False
theorem appZK_mk {K sb sx zl dst t H lg} : appZK K sb sx zl dst ⟨t, H, lg⟩ = (match tkO t sb with
  | some (.c (.own z0 els), t1) => (z0 = zl.length ∨ z0 = 0) ∧ (match rdO t sx with | some (.c (.v (.int _ n))) => (0 ≤ n ∧ els.length + n.toNat ≤ 134217728) ∧ K ⟨setT t1 dst (.c (.own zl.length (els ++ List.replicate n.toNat zl))), H, lg⟩ | _ => False)
  | _ => False) := rfl
/-- a place in an array that a temporary owns: the array gets a name -/
def ixK (cx : Cx) (s : St) (j : Nat) (o : Oper) (K : List (Nat × T) → HH → Prop) : Prop :=
  match getT s.t j with
  | some (.c (.own z els)) => look s.H (cx.d, j) = none ∧ K (setT s.t j (.c (.sl (cx.d, j) [] z 0 els.length))) (((cx.d, j), .own z els) :: s.H)
  | _ => K s.t s.H
theorem ixK_mk {cx t H lg j o K} : ixK cx ⟨t, H, lg⟩ j o K = (match getT t j with
  | some (.c (.own z els)) => look H (cx.d, j) = none ∧ K (setT t j (.c (.sl (cx.d, j) [] z 0 els.length))) (((cx.d, j), .own z els) :: H)
  | _ => K t H) := rfl
/-- clear -/
def clrK (cx : Cx) (c : Call) (K : St → Prop) (s : St) : Prop :=
  match c.callee, c.args.toList, c.argTypes.toList with
  | .builtin .clear, [x], [t] =>
    (match rdO s.t x, tel cx.P t with
    | some (.c (.sl r q z i n)), some el =>
      (match tzc cx.P el, arrAt s.H r q with
      | some zl, some (z', els) => (z' = z ∧ zl.length = z ∧ r.1 ≠ 0 ∧ (∀ row ∈ els, row.length = z) ∧ (∀ (k : Nat) row, k < n → els[i + k]? = some row → ∀ c ∈ row, isOwn c = false)) ∧
          K ⟨s.t, setA s.H r q (.own z (els.take i ++ List.replicate n zl ++ els.drop (i + n))), s.lg⟩
      | _, _ => False)
    | _, _ => False)
  | _, _, _ => False
theorem clrK_mk {cx c K t0 H lg} : clrK cx c K ⟨t0, H, lg⟩ = (match c.callee, c.args.toList, c.argTypes.toList with
  | .builtin .clear, [x], [t] =>
    (match rdO t0 x, tel cx.P t with
    | some (.c (.sl r q z i n)), some el =>
      (match tzc cx.P el, arrAt H r q with
      | some zl, some (z', els) => (z' = z ∧ zl.length = z ∧ r.1 ≠ 0 ∧ (∀ row ∈ els, row.length = z) ∧ (∀ (k : Nat) row, k < n → els[i + k]? = some row → ∀ c ∈ row, isOwn c = false)) ∧
          K ⟨t0, setA H r q (.own z (els.take i ++ List.replicate n zl ++ els.drop (i + n))), lg⟩
      | _, _ => False)
    | _, _ => False)
  | _, _, _ => False) := rfl
/-- append in place, where a stretch goes behind a stretch of the same array -/
def inK (cx : Cx) (sb sx : Operand) (zn dst : Nat) (K : St → Prop) (A : St → Prop) (s : St) : Prop :=
  match rdO s.t sb, rdO s.t sx with
  | some (.c (.sl r q z i0 n0)), some (.c (.sl r2 q2 z2 i2 n2)) =>
    if ¬ r.1 = cx.d ∧ r2 = r ∧ q2 = q then
      (match arrAt s.H r q with
      | some (z', els) => (z' = z ∧ z2 = z ∧ zn = z ∧ ¬ r.1 = 0 ∧ (∀ row ∈ els, row.length = z) ∧ (∀ row ∈ els, ∀ c ∈ row, ∃ x, c = .v x) ∧ i0 + n0 + n2 ≤ els.length ∧ i2 + n2 ≤ els.length) ∧
          K ⟨setT s.t dst (.c (.sl r q z i0 (n0 + n2))), setA s.H r q (.own z (els.take (i0 + n0) ++ cutD i2 n2 els ++ els.drop (i0 + n0 + n2))), s.lg⟩
      | none => False)
    else A s
  | _, _ => A s
theorem inK_mk {cx sb sx zn dst K A t H lg} : inK cx sb sx zn dst K A ⟨t, H, lg⟩ = (match rdO t sb, rdO t sx with
  | some (.c (.sl r q z i0 n0)), some (.c (.sl r2 q2 z2 i2 n2)) =>
    if ¬ r.1 = cx.d ∧ r2 = r ∧ q2 = q then
      (match arrAt H r q with
      | some (z', els) => (z' = z ∧ z2 = z ∧ zn = z ∧ ¬ r.1 = 0 ∧ (∀ row ∈ els, row.length = z) ∧ (∀ row ∈ els, ∀ c ∈ row, ∃ x, c = .v x) ∧ i0 + n0 + n2 ≤ els.length ∧ i2 + n2 ≤ els.length) ∧
          K ⟨setT t dst (.c (.sl r q z i0 (n0 + n2))), setA H r q (.own z (els.take (i0 + n0) ++ cutD i2 n2 els ++ els.drop (i0 + n0 + n2))), lg⟩
      | none => False)
    else A ⟨t, H, lg⟩
  | _, _ => A ⟨t, H, lg⟩) := rfl
/-- bounds of a slice; where both are told, it may reach behind its end -/
def sliceC (H : HH) (r : Nm) (q : Path) (z i n ts : Nat) (lo hi : Option Operand) (l h : Int) : Prop :=
  match lo, hi with
  | some _, some _ => (match arrAt H r q with | some (z', els) => z' = z ∧ ts = z ∧ 0 ≤ l ∧ l ≤ h ∧ (i : Int) + h ≤ (els.length : Int) | none => False)
  | _, _ => 0 ≤ l ∧ l ≤ h ∧ h ≤ n
def POp (cx : Cx) (o : Oper) (s : St) (K : St → Prop) : Prop :=
  match o.op, o.dst with
  | .alloc el, some dst =>
    (dst < cx.N ∧ look s.H (cx.d, dst) = none) ∧
    (match tzc cx.P el with
    | some l => 0 < l.length ∧ K { s with t := setT s.t dst (.c (.pt (cx.d, dst) [] l.length 0 0)), H := ((cx.d, dst), .own l.length [l]) :: s.H }
    | none => False)
  | .box _ x, some dst =>
    (dst < cx.N ∧ look s.H (cx.d, dst) = none) ∧
    (match tkO s.t x with
    | some (y, t') => (match y.cells with
      | some l => 0 < l.length ∧ K { s with t := setT t' dst (.c (.pt (cx.d, dst) [] l.length 0 0)), H := ((cx.d, dst), .own l.length [l]) :: s.H }
      | none => False)
    | none => False)
  | .store t ad x, none => gathS cx.d ad x (storeK cx t ad x K) s
  | .field xt x k, some dst =>
    dst < cx.N ∧
    (match tkO s.t x, tfield cx.P xt k with
    | some (.a l, t'), some (off, ft) => tok cx.P ft = true ∧ (match fieldT cx.P ft off l with | some y => K { s with t := setT t' dst y } | none => False)
    | _, _ => False)
  | .extract (.tmp i) ix, some dst =>
    dst < cx.N ∧
    (match getT s.t i with
    | some (.t l) => (match l[ix]? with | some x => K { s with t := setT (if x.bare then s.t else setT s.t i (.t (l.set ix .u))) dst x } | none => False)
    | _ => False)
  | .slice t x lo hi none, some dst =>
    dst < cx.N ∧
    (match rdO s.t x, tel cx.P t with
    | some (.c (.sl r q z i n)), some el =>
      (tok cx.P el = true ∧ (n ≠ 0 → tsz cx.P el = z)) ∧
      (match bnd s.t 0 lo, bnd s.t n hi with
      | some l, some h => sliceC s.H r q z i n (tsz cx.P el) lo hi l h ∧ K { s with t := setT s.t dst (.c (.sl r q z (i + l.toNat) (h.toNat - l.toNat))) }
      | _, _ => False)
    | _, _ => False)
  | .build t parts, some dst =>
    dst < cx.N ∧
    (match tkParts s.t parts.toList, tzc cx.P t, tplaces cx.P t with
    | some (ps, t'), some zl, some pl => (match fillG (fun k => pl[k]?) ps zl with | some l => K { s with t := setT t' dst (.a l) } | none => False)
    | _, _, _ => False)
  | .binOp op t x y _, some dst =>
    dst < cx.N ∧ (if isNilC y then (match rdO s.t x with | some (.c (.sl r q z i n)) => (op = .eql ∧ (tel cx.P t).isSome = true) ∧ ∀ b : Bool, (b = true → n = 0) → K { s with t := setT s.t dst (.c (.v (.bool b))) } | _ => False)
      else PVal cx s.t s.H o (VK K s.t s.H s.lg dst (consOp s.t o)))
  | .buildSlice t len parts, some dst =>
    dst < cx.N ∧
    if len = 0 ∧ parts.toList = [] then (match tel cx.P t with | some el => (tok cx.P el = true ∧ (tzc cx.P el).isSome = true) ∧ K { s with t := setT s.t dst (.c (.own (tsz cx.P el) [])) } | none => False) else
    gathKs cx.d (parts.toList.map (·.2)) (bsK cx t len parts dst K) s
  | .makeFunc (.func f) ⟨[]⟩ ⟨caps⟩, some dst =>
    dst < cx.N ∧ (match capsR s.t caps with | some cs => K { s with t := setT s.t dst (.c (.fn f cs)) } | none => False)
  | .makeSlice t ln cp, some dst =>
    dst < cx.N ∧
    (match rdO s.t ln, rdO s.t cp, tel cx.P t with
    | some (.c (.v (.int _ n))), some (.c (.v (.int _ c))), some el =>
      (match tzc cx.P el, tinfo cx.P el with
      | some zl, some (isz, ibs) => (0 < zl.length ∧ isz = zl.length ∧ ibs ≤ 1048576 ∧ 0 ≤ n ∧ n ≤ c ∧ c ≤ 134217728) ∧ K { s with t := setT s.t dst (.c (.own zl.length (List.replicate n.toNat zl))) }
      | _, _ => False)
    | _, _, _ => False)
  | .assign x, some dst =>
    dst < cx.N ∧
    (match tkO s.t x with
    | some (.c (.own z els), t') =>
      if (look s.H (cx.d, dst)).isSome then
        look (delH s.H (cx.d, dst)) (cx.d, dst) = none ∧ CleanH (hit [((cx.d, dst), [])]) (delH s.H (cx.d, dst)) ∧ OcleanT (hit [((cx.d, dst), [])]) s.t ∧
          (match tkO (s.t.filter fun en => en.2.keep (cx.d, dst) []) x with
          | some (.c (.own z els), t') => K { s with t := setT t' dst (.c (.sl (cx.d, dst) [] (fixz cx.P o.type z) 0 els.length)), H := ((cx.d, dst), .own (fixz cx.P o.type z) els) :: delH s.H (cx.d, dst) }
          | _ => False)
      else K { s with t := setT t' dst (.c (.sl (cx.d, dst) [] (fixz cx.P o.type z) 0 els.length)), H := ((cx.d, dst), .own (fixz cx.P o.type z) els) :: s.H }
    | some (y, t') => K { s with t := setT t' dst y }
    | none => False)
  | .call c, dst =>
    (match c.callee, c.args.toList, c.argTypes.toList with
    | .builtin .append, [sb, sx], [t, t'] =>
      (match dst, tel cx.P t with
      | some dst, some el =>
        dst < cx.N ∧
        (match tzc cx.P el, tinfo cx.P el with
        | some zl, some (isz, ibs) =>
          (0 < zl.length ∧ isz = zl.length ∧ ibs ≤ 1048576) ∧
          (if t' = t then
            (match sb with
            | .tmp j => inK cx sb sx zl.length dst K (fun s => takeK cx.d s j (appK K sb sx zl.length dst)) s
            | _ => appK K sb sx zl.length dst s)
          else isIntT cx.P t' = true ∧
            (match sb with
            | .tmp j => takeK cx.d s j (appZK K sb sx zl dst)
            | _ => appZK K sb sx zl dst s))
        | _, _ => False)
      | _, _ => False)
    | .builtin .copy, [xd, xs], [t, t'] =>
      (match rdO s.t xd, rdO s.t xs, tel cx.P t with
      | some (.c (.sl r q z i n)), some (.c (.sl r2 q2 z2 i2 n2)), some el =>
        (match arrAt s.H r2 q2 with
        | some (z', els2) => (z = 1 ∧ z2 = 1 ∧ z' = 1 ∧ tok cx.P el = true ∧ tsz cx.P el = 1 ∧ (∀ d, dst = some d → d < cx.N) ∧ (∀ row ∈ (els2.drop i2).take n2, ∀ c ∈ row, isOwn c = false) ∧ r.1 ≠ 0) ∧
            CopyTo r q i (((els2.drop i2).take n2).flatten.take n) s (PK K dst (.c (.v (.int .i64 ((min n2 n : Nat) : Int)))))
        | none => False)
      | _, _, _ => False)
    | .builtin .min, [x, y], _ =>
      (match dst, rdO s.t x, rdO s.t y with
      | some dst, some (.c (.v (.int k a))), some (.c (.v (.int k' b))) => (dst < cx.N ∧ k' = k) ∧ K { s with t := setT s.t dst (.c (.v (.int k (if b < a then b else a)))) }
      | _, _, _ => False)
    | .value fo, os, tys =>
      (match rdO s.t fo, tkArgs s.t os with
      | some (.c (.fn f caps)), some (args, t') =>
        ((∀ d, o.dst = some d → d < cx.N) ∧ (∀ c ∈ caps, isRef c = true ∨ ∃ y, c = .v y ∧ flat y = true) ∧ tfunc cx.P f = true) ∧
          PCalls cx.P f (relA cx.P os tys args ++ caps.map T.c) s.H (CK cx.d K t' o.dst s.lg)
      | _, _ => False)
    | _, _, _ => (match dst with | some dst => dst < cx.N ∧ PVal cx s.t s.H o (VK K s.t s.H s.lg dst (consOp s.t o)) | none => clrK cx c K s))
  | .indexAddr _ (.tmp j) _, some dst =>
    dst < cx.N ∧ ixK cx s j o (fun t H => PVal cx t H o (VK K t H s.lg dst (consOp t o)))
  | _, some dst => dst < cx.N ∧ PVal cx s.t s.H o (VK K s.t s.H s.lg dst (consOp s.t o))
  | _, none => False

/-- two ways, by a truth value; what lies on them is not looked at before the value is -/
def Br (b' b : Bool) (A B : Prop) : Prop := (b' = b → A) ∧ (b' = !b → B)
/-- operations, one behind the other, and K of what is known then -/
def POps' (cx : Cx) (ops : Array Oper) : List Nat → (St → Prop) → St → Prop
  | [], K, s => K s
  | i :: l, K, s =>
    match ops[i]? with
    | some o =>
      (match o.guard with
      | none => POp cx o s (POps' cx ops l K)
      | some (j, b) =>
        (match (ops[j]?).bind (·.dst), o.dst with
        | some dj, some dst =>
          dst < cx.N ∧
          (match getT s.t dj with
          | some (.c (.v (.bool b'))) => Br b' b (POp cx o { s with t := setT s.t dj (.c (.v (.bool b))) } (POps' cx ops l K)) (POps' cx ops l K { s with t := setT (setT s.t dj (.c (.v (.bool !b)))) dst (.t []) })
          | some (.t []) => POps' cx ops l K { s with t := setT s.t dst (.t []) }
          | _ => False)
        | _, _ => False))
    | none => False

theorem SOp.mono {cx o s K K'} (h : SOp cx o s K) (hk : ∀ s', K s' → K' s') : SOp cx o s K' := fun e a w next Q hd hN hr h' => h e a w next Q hd hN hr (fun s' a' w' hs hr' => h' s' a' w' (hk _ hs) hr')

theorem SOp.of_val {cx o s K dst} (hd : o.dst = some dst) (hN : dst < cx.N) (h : PVal cx s.t s.H o (VK K s.t s.H s.lg dst (consOp s.t o))) : SOp cx o s K := by
  obtain ⟨x, hk, hf⟩ := h.fam
  exact (hf s.t s.lg dst hd hN (fun _ _ => rfl)).mono (fun s' hs => by rw [hs]; exact hk)

theorem toArray2 {α : Type} {a : Array α} {x y : α} (h : a.toList = [x, y]) : a = #[x, y] := by cases a; simp_all

theorem toArray1 {α : Type} {a : Array α} {x : α} (h : a.toList = [x]) : a = #[x] := by cases a; simp_all

theorem POp.append_go {cx o s K c sb sx t el zl i dst} (ho : o.op = .call c) (hc : c.callee = .builtin .append) (ha : c.args = #[sb, sx]) (hat : c.argTypes = #[t, t]) (hd : o.dst = some dst) (hN : dst < cx.N) (hel : tel cx.P t = some el)
    (hz : tzc cx.P el = some zl) (hi : cx.P.info? el = some i) (h1 : 0 < zl.length) (h2 : i.size = zl.length) (h3 : i.bytes ≤ 1048576)
    (h : appK K sb sx zl.length dst s) : SOp cx o s K := by
  unfold appK at h
  split at h
  · rename_i z0 els t1 hb
    obtain ⟨hz0, hs⟩ := h
    obtain ⟨els2, t2, ⟨hbd, hk⟩, hsrc⟩ := srcK_src hs
    exact SOp.append ho hc ha hat hd hN hb hsrc hel hi hz h1 h2 hz0 hbd h3 hk
  · exact h.elim

theorem POp.appendZ_go {cx o s K c sb sx t tn k el zl i dst} (ho : o.op = .call c) (hc : c.callee = .builtin .append) (ha : c.args = #[sb, sx]) (hat : c.argTypes = #[t, tn]) (htn : cx.P.underlying tn = some (.int k)) (hd : o.dst = some dst) (hN : dst < cx.N) (hel : tel cx.P t = some el)
    (hz : tzc cx.P el = some zl) (hi : cx.P.info? el = some i) (h1 : 0 < zl.length) (h2 : i.size = zl.length) (h3 : i.bytes ≤ 1048576)
    (h : appZK K sb sx zl dst s) : SOp cx o s K := by
  unfold appZK at h
  split at h
  · rename_i z0 els t1 hb
    obtain ⟨hz0, h⟩ := h
    split at h
    · rename_i kn n hn
      exact SOp.appendZ ho hc ha hat htn hd hN hb hn h.1.1 hel hi hz h1 h2 hz0 h.1.2 h3 h.2
    · exact h.elim
  · exact h.elim

theorem POp.sound {cx o s K} (h : POp cx o s K) : SOp cx o s K := by
  have hval : ∀ {dst}, o.dst = some dst → (dst < cx.N ∧ PVal cx s.t s.H o (VK K s.t s.H s.lg dst (consOp s.t o))) → SOp cx o s K := fun hd h => SOp.of_val hd h.1 h.2
  unfold POp at h
  split at h
  · rename_i el dst hop hd
    obtain ⟨⟨hN, hl⟩, h⟩ := h
    split at h
    · rename_i l hz
      exact SOp.alloc hop hd hN hl hz h.1 h.2
    · exact h.elim
  · rename_i el x dst hop hd
    obtain ⟨⟨hN, hl⟩, h⟩ := h
    split at h
    · rename_i y t' hx
      split at h
      · rename_i l hy
        exact SOp.box hop hd hN hl hx hy h.1 h.2
      · exact h.elim
    · exact h.elim
  · rename_i t ad x hop hd
    obtain ⟨s1, h, hg⟩ := gathS_ghost h
    refine SOp.ghost hg ?_
    unfold storeK at h
    split at h
    · rename_i r q z i f y t' had hx
      split at h
      · rename_i cs hy
        exact SOp.store hop hd had hx hy h.1.1 h.1.2.1 h.1.2.2 h.2
      · exact h.elim
    · exact h.elim
  · rename_i xt x k dst hop hd
    obtain ⟨hN, h⟩ := h
    split at h
    · rename_i l t' off ft hx hft
      obtain ⟨hto, h⟩ := h
      split at h
      · rename_i y hy
        exact SOp.field hop hd hN hx hft hto hy h
      · exact h.elim
    · exact h.elim
  · rename_i i ix dst hop hd
    obtain ⟨hN, h⟩ := h
    split at h
    · rename_i l hx
      split at h
      · rename_i x hl
        exact SOp.extract hop hd hN hx hl h
      · exact h.elim
    · exact h.elim
  · rename_i t x lo hi dst hop hd
    obtain ⟨hN, h⟩ := h
    split at h
    · rename_i r q z i n el hx hel
      obtain ⟨⟨hto, htz⟩, h⟩ := h
      split at h
      · rename_i l hh hlo hhi
        obtain ⟨hc, hk⟩ := h
        have hc' : 0 ≤ l ∧ l ≤ hh ∧ (hh ≤ n ∨ ∃ els, arrAt s.H r q = some (z, els) ∧ (i : Int) + hh ≤ (els.length : Int) ∧ tsz cx.P el = z) := by
          unfold sliceC at hc
          split at hc
          · split at hc
            · rename_i z' els ha
              obtain ⟨rfl, c0, c1, c2, c3⟩ := hc
              exact ⟨c1, c2, .inr ⟨els, ha, c3, c0⟩⟩
            · exact hc.elim
          · exact ⟨hc.1, hc.2.1, .inl hc.2.2⟩
        obtain ⟨h0, h1, h2⟩ := hc'
        obtain ⟨l, rfl⟩ := Int.eq_ofNat_of_zero_le h0
        obtain ⟨hh, rfl⟩ := Int.eq_ofNat_of_zero_le (Int.le_trans h0 h1)
        have hb : ∀ (oo : Option Operand) (df v : Nat), bnd s.t df oo = some (v : Int) → (oo = none ∧ v = df) ∨ ∃ ol k, oo = some ol ∧ rdO s.t ol = some (.c (.v (.int k v))) := by
          intro oo df v hb
          cases oo with
          | none => simp only [bnd, Option.some.injEq] at hb; exact .inl ⟨rfl, by omega⟩
          | some ol =>
            simp only [bnd] at hb
            split at hb
            · rename_i k n hr; cases hb; exact .inr ⟨ol, k, rfl, hr⟩
            · cases hb
        exact SOp.slice hop hd hN hx hel hto htz (hb _ _ _ hlo) (hb _ _ _ hhi) (by omega) (h2.imp (fun h => by omega) (fun ⟨els, ha, h, h'⟩ => ⟨els, ha, by omega, h'⟩)) (by simpa using hk)
      · exact h.elim
    · exact h.elim
  · rename_i t parts dst hop hd
    obtain ⟨hN, h⟩ := h
    split at h
    · rename_i ps t' zl pl hp hz hpl
      split at h
      · rename_i l hl
        exact SOp.build hop hd hN hp hz hpl hl h
      · exact h.elim
    · exact h.elim
  · rename_i op t x y ty dst hop hd
    obtain ⟨hN, h⟩ := h
    split at h
    · rename_i hy
      rw [isNilC_iff hy] at hop
      split at h
      · rename_i r q z i n hx
        obtain ⟨⟨rfl, hel⟩, h⟩ := h
        obtain ⟨el, hel⟩ := Option.isSome_iff_exists.1 hel
        exact SOp.eqNil hop (.inl rfl) hd hN hx hel (fun b hb => by simpa using h b hb)
      · exact h.elim
    · exact hval hd ⟨hN, h⟩
  · rename_i t len parts dst hop hd
    obtain ⟨hN, h⟩ := h
    split at h
    · rename_i hp
      obtain ⟨rfl, hp⟩ := hp
      have : parts = #[] := by cases parts; simp_all
      subst this
      split at h
      · rename_i el hel
        obtain ⟨⟨hto, hz⟩, h⟩ := h
        obtain ⟨zl, hz⟩ := Option.isSome_iff_exists.1 hz
        obtain ⟨zs, zl, hz1, hfl, rfl⟩ := tzc_iff hz
        exact SOp.emptyLit hop hd hN hel hto hz1 h
      · exact h.elim
    · obtain ⟨s1, h, hg⟩ := gathKs_ghost h
      refine SOp.ghost hg ?_
      unfold bsK at h
      split at h
      · rename_i ps t' el hp hel
        split at h
        · rename_i zl hz
          obtain ⟨⟨h1, h3, h4, h5, h6, h7⟩, h⟩ := h
          split at h
          · rename_i els hde
            exact SOp.buildSlice hop hd hN hp hel h1 hz h3 h4 h5 h6 hde h7 h
          · exact h.elim
        · exact h.elim
      · exact h.elim
  · rename_i f caps dst hop hd
    obtain ⟨hN, h⟩ := h
    split at h
    · rename_i cs hx
      exact SOp.makeFunc hop hd hN hx h
    · exact h.elim
  · rename_i t ln cp dst hop hd
    obtain ⟨hN, h⟩ := h
    split at h
    · rename_i kl n kc c el hl hc hel
      split at h
      · rename_i zl isz ibs hz hti
        obtain ⟨⟨h2, h3, h4, h5, h6, h7⟩, h⟩ := h
        obtain ⟨i, hi, rfl, rfl⟩ := tinfo_iff hti
        obtain ⟨n, rfl⟩ := Int.eq_ofNat_of_zero_le h5
        obtain ⟨c, rfl⟩ := Int.eq_ofNat_of_zero_le (Int.le_trans h5 h6)
        by_cases hc0 : c = 0
        · subst hc0
          have hn0 : n = 0 := by omega
          subst hn0
          obtain ⟨zs, zl, hz1, hfl, rfl⟩ := tzc_iff hz
          exact SOp.makeNil hop hd hN hl hc hel hz1 hi (by simpa [zcL_length] using h)
        · exact SOp.makeSlice hop hd hN hl hc hel hz h2 hi h3 h4 (by omega) (by omega) (by simpa using h)
      · exact h.elim
    · exact h.elim
  · rename_i x dst hop hd
    obtain ⟨hN, h⟩ := h
    split at h
    · rename_i z els t' hx
      split at h
      · rename_i hl
        obtain ⟨c0, hl⟩ := Option.isSome_iff_exists.1 hl
        obtain ⟨h0, h1, h2, h⟩ := h
        split at h
        · rename_i z els t' hx
          have hg : Ghost cx.d s { s with t := s.t.filter (fun en => en.2.keep (cx.d, dst) []), H := delH s.H (cx.d, dst) } := fun e a w he hr =>
            Rel.drop (cx.d, dst) (fun en => en.2.keep (cx.d, dst) []) hr he.symm hl h1 (fun en hen hk => keep_clean hk (h2 en hen))
          exact SOp.ghost hg (SOp.bind hop hd hN hx h0 (fun hz => by simp [fixz, hz]) h)
        · exact h.elim
      · rename_i hl
        exact SOp.bind hop hd hN hx (by simpa using hl) (fun hz => by simp [fixz, hz]) h
    · rename_i y t' hne hx
      exact SOp.move (.inr hop) hd hN hx h
    · exact h.elim
  · rename_i c dst hop
    split at h
    · rename_i sb sx t t' hc hargs hty
      split at h
      · rename_i dst hel' el hd hel
        obtain ⟨hN, h⟩ := h
        split at h
        · rename_i zl isz ibs hz hti
          obtain ⟨⟨h1, h2, h3⟩, h⟩ := h
          obtain ⟨i, hi, rfl, rfl⟩ := tinfo_iff hti
          have ha := toArray2 hargs
          have hat := toArray2 hty
          split at h
          · rename_i htt
            subst htt
            split at h
            · rename_i j
              have hold : takeK cx.d s j (appK K (.tmp j) sx zl.length hel') → SOp cx o s K := fun h => by
                obtain ⟨s', hk, hg⟩ := takeK_ghost h
                exact SOp.ghost hg (POp.append_go hop hc ha hat hd hN hel hz hi h1 h2 h3 hk)
              unfold inK at h
              split at h
              · rename_i hb1 hb2
                split at h
                · rename_i hcond
                  obtain ⟨-, rfl, rfl⟩ := hcond
                  split at h
                  · rename_i z' els harr
                    obtain ⟨⟨rfl, rfl, hzn, h0, hez, hno, hf1, hf2⟩, h⟩ := h
                    exact SOp.appendIn hop hc ha hat hd hN hb1 hb2 harr h0 hel hi (h2.trans hzn) hez hno hf1 hf2 h
                  · exact h.elim
                · exact hold h
              · exact hold h
            · exact POp.append_go hop hc ha hat hd hN hel hz hi h1 h2 h3 h
          · obtain ⟨k, hint⟩ := isIntT_iff h.1
            have h := h.2
            split at h
            · rename_i j
              obtain ⟨s', hk, hg⟩ := takeK_ghost h
              exact SOp.ghost hg (POp.appendZ_go hop hc ha hat hint hd hN hel hz hi h1 h2 h3 hk)
            · exact POp.appendZ_go hop hc ha hat hint hd hN hel hz hi h1 h2 h3 h
        · exact h.elim
      · exact h.elim
    · rename_i xd xs t t' hc hargs hty
      split at h
      · rename_i r q z i n r2 q2 z2 i2 n2 el hx1 hx2 hel
        split at h
        · rename_i z' els2 harr
          obtain ⟨⟨rfl, rfl, rfl, hto, hsz, hdd, hno, h0⟩, h⟩ := h
          exact SOp.copy hop hc (toArray2 hargs) (toArray2 hty) hel hto hsz hdd hx1 hx2 harr hno h0 h
        · exact h.elim
      · exact h.elim
    · rename_i x y ty hc hargs
      split at h
      · rename_i dst k a k' b hd hx hy
        obtain ⟨⟨hN, rfl⟩, h⟩ := h
        exact SOp.min hop hc (toArray2 hargs) hd hN hx hy h
      · exact h.elim
    · rename_i fo os ty hc
      split at h
      · rename_i f caps args t' hfo ha
        exact SOp.callR (fun h => relA_rep h) hop hc hfo h.1.2.1 h.1.2.2 ha h.1.1 h.2
      · exact h.elim
    · split at h
      · rename_i dst hd
        exact hval hd h
      · rename_i hnone
        unfold clrK at h
        split at h
        · rename_i x t hc hargs hty
          split at h
          · rename_i r q z i n el hx hel
            split at h
            · rename_i zl z' els hz harr
              obtain ⟨⟨rfl, hzl, h0, hez, hno⟩, h⟩ := h
              exact SOp.clear hop hc (toArray1 hargs) (toArray1 hty) hel hz hzl (fun d hd => by rw [hnone] at hd; cases hd) hx harr h0 hno hez (by rw [hnone]; exact h)
            · exact h.elim
          · exact h.elim
        · exact h.elim
  · rename_i t0 j ix dst hop hd
    obtain ⟨hN, h⟩ := h
    unfold ixK at h
    split at h
    · rename_i z els hj
      obtain ⟨hl, h⟩ := h
      refine SOp.ghost (s' := { s with t := setT s.t j (.c (.sl (cx.d, j) [] z 0 els.length)), H := ((cx.d, j), .own z els) :: s.H }) (fun e a w he hr => by rw [← he] at hl ⊢; exact Rel.bind hr hj hl) ?_
      exact SOp.of_val hd hN h
    · exact hval hd ⟨hN, h⟩
  · exact hval (by assumption) h
  · exact h.elim

theorem Ghost.front {d s i x} (h : getT s.t i = some x) : Ghost d s { s with t := setT s.t i x } := by
  rintro e a w - ⟨hd, β, F, G, hx⟩
  obtain ⟨v, F1, F2, k1, k2, k3, k4, k5⟩ := hx.tmps.take h (List.nodup_append.1 hx.nd).2.1
  have hs : ∀ b ∈ F ++ (F1 ++ F2), b ∈ F ++ G := fun b hb => by
    rcases List.mem_append.1 hb with hb | hb
    · simp [hb]
    · simp [k5 b hb]
  exact ⟨hd, β, F, F1 ++ F2, { hx with tmps := .cons k1 k2 k3, nd := nodup_sub hx.nd (List.nodup_append.1 hx.nd).1 k4 (fun b hb => hb) k5, low := fun b hb => hx.low b (hs b hb), ext := hx.ext.sub hs }⟩

theorem SOps.guardT {cx ops i l s K o j b b' dj} {oj : Oper} (ho : ops[i]? = some o) (hg : o.guard = some (j, b)) (hj : ops[j]? = some oj) (hdj : oj.dst = some dj) (hb : getT s.t dj = some (.c (.v (.bool b'))))
    (ht : b' = b → SOp cx o s (fun s' => SOps cx ops l s' K)) (hf : b' ≠ b → ∀ d, o.dst = some d → d < cx.N ∧ SOps cx ops l { s with t := setT s.t d (.t []) } K) (hd0 : ∃ d, o.dst = some d) : SOps cx ops (i :: l) s K := by
  intro e a w Q hd hN hr hk
  simp only [wpOps, ho]
  obtain ⟨hdf, β, F, G, hx⟩ := hr
  have hv : a.tmps[dj]? = some (.bool b') := by
    obtain ⟨v, F1, h1, h2, -⟩ := hx.tmps.read hb
    cases h2 with
    | c hrep =>
      cases hrep with
      | v => exact h1
      | ref hi => simp [isRef] at hi
  have hw : Region.wanted o (yielded ops a.tmps) = (b' == b) := by
    simp [Region.wanted, hg, yielded, hj, hdj, hv, Array.getD_eq_getD_getElem?]
  rw [hw]
  by_cases hbb : b' = b
  · subst hbb
    simp only [beq_self_eq_true, if_true]
    exact .inl (ht rfl e a w _ Q hd hN ⟨hdf, β, F, G, hx⟩ (fun s' a' w' hs' hr' => hs' e a' w' Q hd hN hr' hk))
  · have : (b' == b) = false := by simpa using hbb
    simp only [this]
    obtain ⟨d, hdst⟩ := hd0
    obtain ⟨hdN, hrest⟩ := hf hbb d hdst
    simp only [Bool.false_eq_true, if_false]
    obtain ⟨G'', hx'⟩ := hx.put (dst := d) (x := .t []) (v := undef) (Fx := []) hx.tmps (.t .nil) (by simpa using (List.nodup_append.1 hx.nd).2.1) (by simp) (by rw [hN]; exact hdN)
    refine hrest e _ w Q hd hN ⟨?_, β, F, G'', ?_⟩ hk
    · simp [Act.put, hdst, hdf]
    · simpa [Act.put, hdst] using hx'

theorem SOps.guardU {cx ops i l s K o j b dj} {oj : Oper} (ho : ops[i]? = some o) (hg : o.guard = some (j, b)) (hj : ops[j]? = some oj) (hdj : oj.dst = some dj) (hb : getT s.t dj = some (.t []))
    {d} (hdst : o.dst = some d) (hdN : d < cx.N) (hrest : SOps cx ops l { s with t := setT s.t d (.t []) } K) : SOps cx ops (i :: l) s K := by
  intro e a w Q hd hN hr hk
  simp only [wpOps, ho]
  obtain ⟨hdf, β, F, G, hx⟩ := hr
  have hv : a.tmps[dj]? = some (.tuple #[]) := by
    obtain ⟨v, F1, h1, h2, -⟩ := hx.tmps.read hb
    cases h2 with
    | t hrep => cases hrep; exact h1
  have hw : Region.wanted o (yielded ops a.tmps) = false := by
    simp [Region.wanted, hg, yielded, hj, hdj, hv]
  rw [hw]
  simp only [Bool.false_eq_true, if_false]
  obtain ⟨G'', hx'⟩ := hx.put (dst := d) (x := .t []) (v := undef) (Fx := []) hx.tmps (.t .nil) (by simpa using (List.nodup_append.1 hx.nd).2.1) (by simp) (by rw [hN]; exact hdN)
  refine hrest e _ w Q hd hN ⟨?_, β, F, G'', ?_⟩ hk
  · simp [Act.put, hdst, hdf]
  · simpa [Act.put, hdst] using hx'

theorem POps.sound {cx ops} : ∀ {l s K}, POps' cx ops l K s → SOps cx ops l s K
  | [], s, K, h => SOps.nil h
  | i :: l, s, K, h => by
    simp only [POps'] at h
    split at h
    · rename_i o ho
      split at h
      · rename_i hg
        exact SOps.cons ho hg (POp.sound h |>.mono fun s' hs => POps.sound hs)
      · rename_i j b hg
        split at h
        · rename_i dj dst hdj hd
          obtain ⟨hN, h⟩ := h
          split at h
          · rename_i b' hb
            cases hoj : ops[j]? with
            | none => simp [hoj] at hdj
            | some oj =>
              simp [hoj] at hdj
              by_cases hbb : b' = b
              · subst hbb
                refine SOps.ghost (Ghost.front hb) (SOps.guardT ho hg hoj hdj (getT_setT_self) (fun e => (POp.sound (h.1 rfl)).mono fun s' hs => POps.sound hs) (fun hne => absurd rfl hne) ⟨dst, hd⟩)
              · have hb2 : b' = !b := by cases b' <;> cases b <;> simp_all
                subst hb2
                refine SOps.ghost (Ghost.front hb) (SOps.guardT ho hg hoj hdj (getT_setT_self) (fun e => absurd e hbb) (fun hne d hd' => by rw [hd] at hd'; cases hd'; exact ⟨hN, POps.sound (h.2 rfl)⟩) ⟨dst, hd⟩)
          · rename_i hb
            cases hoj : ops[j]? with
            | none => simp [hoj] at hdj
            | some oj =>
              simp [hoj] at hdj
              exact SOps.guardU ho hg hoj hdj hb hd hN (POps.sound h)
          · exact h.elim
        · exact h.elim
    · exact h.elim

end Go.Px


namespace Go.Px
open Go.RowKit
set_option linter.unusedVariables false
set_option linter.unusedSimpArgs false
set_option linter.constructorNameAsVariable false

theorem delT_nil (i : Nat) : delT [] i = [] := rfl
theorem delT_cons (j : Nat) (x : T) (t : List (Nat × T)) (i : Nat) : delT ((j, x) :: t) i = if j = i then delT t i else (j, x) :: delT t i := by
  by_cases h : j = i <;> simp [delT, h]
theorem setT_def (t : List (Nat × T)) (i : Nat) (x : T) : setT t i x = (i, x) :: delT t i := rfl
theorem delL_nil (t : List (Nat × T)) : delL t [] = t := rfl
theorem delL_cons (t : List (Nat × T)) (i : Nat) (l : List Nat) : delL t (i :: l) = delL (delT t i) l := rfl

/-- the temporaries that outlive a region -/
def keepV (kv : List Nat) : List (Nat × T) → List (Nat × T)
  | [] => []
  | (i, x) :: t => if kv.contains i then (i, x) :: keepV kv t else keepV kv t
theorem keepV_filter (kv : List Nat) : ∀ t : List (Nat × T), keepV kv t = t.filter fun e => kv.contains e.1
  | [] => rfl
  | (i, x) :: t => by
    simp only [keepV, List.filter_cons]
    split <;> simp [keepV_filter kv t]

def kvK (kv : List Nat) (K : Exit → St → Prop) (s : St) : Prop := K .normal { s with t := keepV kv s.t }
/-- what comes behind, kept shut -/
def thenP (PC : St → (Exit → St → Prop) → Prop) (K : Exit → St → Prop) : Exit → St → Prop
  | .normal, s => PC s K
  | ex, s => K ex s
/-- a drawn region: the free operations, then the tail -/
def FNext (FR : Nat → List (Nat × T) → List Nat → Prop) (i : Nat) (val : List (Nat × T)) (cs0 cs : List Nat) (dst : Nat) (x : T) : Prop := FR (i + 1) ((dst, x) :: val) (cs ++ cs0)
def FTail (cx : Cx) (ops : Array Oper) (m : Nat) (keep : List Nat) (H : HH) (lg : List (Nm × Path)) (KS : St → Prop) (val : List (Nat × T)) (cs : List Nat) : Prop :=
  (∀ j ∈ keep, j ∉ cs) ∧ POps' cx ops (List.range' m (ops.size - m)) KS ⟨live keep val, H, lg⟩
/-- what is known of a value is written into the row -/
def repT : List (Nat × T) → Nat → T → List (Nat × T)
  | [], _, _ => []
  | (i, y) :: t, j, x => if i = j then (i, x) :: t else (i, y) :: repT t j x
theorem repT_self {j x} : ∀ {t : List (Nat × T)}, getT t j = some x → repT t j x = t
  | [], h => rfl
  | (i, y) :: t, h => by
    simp only [getT] at h
    simp only [repT]
    split at h
    · rename_i e
      cases h; rw [if_pos e]
    · rename_i e
      rw [if_neg e, repT_self h]
def FRun' (cx : Cx) (ops : Array Oper) (m : Nat) (H : HH) (K : List (Nat × T) → List Nat → Prop) : Nat → Nat → List (Nat × T) → List Nat → Prop
  | 0, _, val, cs => K val cs
  | n + 1, i, val, cs =>
    match ops[i]? with
    | some o =>
      (match o.dst with
      | some dst =>
        dst < cx.N ∧
        (match o.guard with
        | none => consChk ops m i (consOp val o) = true ∧ PVal cx val H o (FNext (FRun' cx ops m H K n) i val cs (consOp val o) dst)
        | some (j, b) =>
          (match (ops[j]?).bind (·.dst) with
          | some dj =>
            (match getT val dj with
            | some (.c (.v (.bool b'))) => Br b' b (consChk ops m i (consOp (repT val dj (.c (.v (.bool b)))) o) = true ∧ PVal cx (repT val dj (.c (.v (.bool b)))) H o (FNext (FRun' cx ops m H K n) i (repT val dj (.c (.v (.bool b)))) cs (consOp (repT val dj (.c (.v (.bool b)))) o) dst)) (FNext (FRun' cx ops m H K n) i (repT val dj (.c (.v (.bool !b)))) cs [] dst (.t []))
            | some (.t []) => FNext (FRun' cx ops m H K n) i val cs [] dst (.t [])
            | _ => False)
          | none => False))
      | none => False)
    | none => False
theorem srcV.mono {H x z} {K K' : List (List Cell) → Prop} (h : srcV H x z K) (hk : ∀ l, K l → K' l) : srcV H x z K' := by
  unfold srcV at h ⊢
  split at h
  · exact ⟨h.1, hk _ h.2⟩
  · split at h
    · exact ⟨h.1, h.2.1, h.2.2.1, hk _ h.2.2.2⟩
    · exact h.elim
  · exact h.elim
theorem PVal.mono {cx val H o K K'} (h : PVal cx val H o K) (hk : ∀ x, K x → K' x) : PVal cx val H o K' := by
  unfold PVal at h ⊢
  repeat' (first | split at h | (split; skip))
  all_goals first | exact h.elim | skip
  all_goals first | (simp_all; done) | skip
  all_goals first | (refine ⟨h.1, h.2.mono fun l hl => ?_⟩; split at hl <;> first | exact hk _ hl | exact hl.elim) | exact ⟨h.1, h.2.imp fun x hx => ⟨hx.1, hk x hx.2⟩⟩ | exact ⟨h.1, h.2.1, h.2.2.mono fun l hl => ⟨hl.1, hk _ hl.2⟩⟩ | simp_all
theorem FRun'.to {cx ops m H K} : ∀ {n i val cs}, FRun' cx ops m H K n i val cs → FRun cx ops m H n i val cs K
  | 0, i, val, cs, h => h
  | n + 1, i, val, cs, h => by
    simp only [FRun', FRun] at h ⊢
    cases ho : ops[i]? with
    | none => simp [ho] at h
    | some o =>
      simp only [ho] at h ⊢
      cases hd : o.dst with
      | none => simp [hd] at h
      | some dst =>
        simp only [hd] at h ⊢
        refine ⟨h.1, ?_⟩
        cases hg : o.guard with
        | none =>
          simp only [hg] at h ⊢
          exact ⟨h.2.1, h.2.2.mono fun x hx => FRun'.to hx⟩
        | some jb =>
          obtain ⟨j, b⟩ := jb
          simp only [hg] at h ⊢
          obtain ⟨h0, h⟩ := h
          cases hj : (ops[j]?).bind (·.dst) with
          | none => simp [hj] at h
          | some dj =>
            simp only [hj] at h ⊢
            split at h
            · rename_i b' hb
              try simp only [hb]
              by_cases hbb : b' = b
              · rw [if_pos hbb]
                subst hbb
                have h1 := h.1 rfl
                rw [repT_self hb] at h1
                exact ⟨h1.1, h1.2.mono fun x hx => FRun'.to hx⟩
              · rw [if_neg hbb]
                have hb2 : b' = !b := by cases b' <;> cases b <;> simp_all
                have h2 := h.2 hb2
                rw [← hb2, repT_self hb] at h2
                exact FRun'.to (by simpa [FNext] using h2)
            · rename_i hb
              try simp only [hb]
              exact FRun'.to (by simpa [FNext] using h)
            · exact h.elim

theorem SOps.mono {cx ops l s K K'} (h : SOps cx ops l s K) (hk : ∀ s', K s' → SOps cx ops [] s' K') : SOps cx ops l s K' :=
  fun e a w Q hd hN hr h' => h e a w Q hd hN hr (fun s' a' w' hs hr' => by
    have := hk s' hs e a' w' Q hd hN hr' h'
    simpa [wpOps] using this)
theorem FRun'.mono {cx ops m H} {K K' : List (Nat × T) → List Nat → Prop} (hk : ∀ v c, K v c → K' v c) : ∀ {n i val cs}, FRun' cx ops m H K n i val cs → FRun' cx ops m H K' n i val cs
  | 0, i, val, cs, h => hk _ _ h
  | n + 1, i, val, cs, h => by
    simp only [FRun'] at h ⊢
    cases ho : ops[i]? with
    | none => simp [ho] at h
    | some o =>
      simp only [ho] at h ⊢
      cases hd : o.dst with
      | none => simp [hd] at h
      | some dst =>
        simp only [hd] at h ⊢
        refine ⟨h.1, ?_⟩
        cases hg : o.guard with
        | none =>
          simp only [hg] at h ⊢
          exact ⟨h.2.1, h.2.2.mono fun x hx => FRun'.mono hk hx⟩
        | some jb =>
          obtain ⟨j, b⟩ := jb
          simp only [hg] at h ⊢
          obtain ⟨h0, h⟩ := h
          cases hj : (ops[j]?).bind (·.dst) with
          | none => simp [hj] at h
          | some dj =>
            simp only [hj] at h ⊢
            split at h
            · rename_i b' hb
              exact ⟨fun e => ⟨(h.1 e).1, (h.1 e).2.mono fun x hx => FRun'.mono hk hx⟩, fun e => FRun'.mono hk (h.2 e)⟩
            · exact FRun'.mono hk h
            · exact h.elim

/-- where the operations ahead put what they gave: number, temporary -/
def lookN : Nat → List (Nat × Nat) → Option Nat
  | _, [] => none
  | j, (k, d) :: l => if k = j then some d else lookN j l
/-- operations in a row, one behind the other -/
def POpsL (cx : Cx) : Nat → List (Nat × Nat) → List Oper → (St → Prop) → St → Prop
  | _, _, [], K, s => K s
  | k, ds, o :: l, K, s =>
    match o.guard with
    | none =>
      (match o.dst with
      | some d => POp cx o s (POpsL cx (k + 1) ((k, d) :: ds) l K)
      | none => POp cx o s (POpsL cx (k + 1) ds l K))
    | some (j, b) =>
      (match lookN j ds, o.dst with
      | some dj, some dst =>
        dst < cx.N ∧
        (match getT s.t dj with
        | some (.c (.v (.bool b'))) => Br b' b (POp cx o { s with t := setT s.t dj (.c (.v (.bool b))) } (POpsL cx (k + 1) ((k, dst) :: ds) l K)) (POpsL cx (k + 1) ((k, dst) :: ds) l K { s with t := setT (setT s.t dj (.c (.v (.bool !b)))) dst (.t []) })
        | some (.t []) => POpsL cx (k + 1) ((k, dst) :: ds) l K { s with t := setT s.t dst (.t []) }
        | _ => False)
      | _, _ => False)
theorem POpsL.sound {cx ops} : ∀ {l : List Oper} {k ds K s}, ops.toList.drop k = l → (∀ j d, lookN j ds = some d → (ops[j]?).bind (·.dst) = some d) → POpsL cx k ds l K s → SOps cx ops (List.range' k l.length) s K
  | [], k, ds, K, s, hl, hd, h => SOps.nil h
  | o :: l, k, ds, K, s, hl, hd, h => by
    have ho : ops[k]? = some o := by
      have h1 : (ops.toList.drop k)[0]? = some o := by rw [hl]; rfl
      rw [List.getElem?_drop] at h1
      simpa using h1
    have hl' : ops.toList.drop (k + 1) = l := by rw [← List.drop_drop, hl]; rfl
    have hds : ∀ d, o.dst = some d → ∀ j d', lookN j ((k, d) :: ds) = some d' → (ops[j]?).bind (·.dst) = some d' := by
      intro d hdd j d' hj
      simp only [lookN] at hj
      split at hj
      · rename_i e
        subst e; cases hj
        rw [ho]; exact hdd
      · exact hd j d' hj
    rw [List.length_cons, List.range'_succ]
    simp only [POpsL] at h
    split at h
    · rename_i hg
      split at h
      · rename_i d hdd
        exact SOps.cons ho hg (POp.sound h |>.mono fun s' hs => POpsL.sound hl' (hds d hdd) hs)
      · exact SOps.cons ho hg (POp.sound h |>.mono fun s' hs => POpsL.sound hl' hd hs)
    · rename_i j b hg
      split at h
      · rename_i dj dst hdj hdd
        obtain ⟨hN, h⟩ := h
        have hdj' := hd j dj hdj
        cases hoj : ops[j]? with
        | none => simp [hoj] at hdj'
        | some oj =>
          simp [hoj] at hdj'
          split at h
          · rename_i b' hb
            by_cases hbb : b' = b
            · subst hbb
              refine SOps.ghost (Ghost.front hb) (SOps.guardT ho hg hoj hdj' (getT_setT_self) (fun e => (POp.sound (h.1 rfl)).mono fun s' hs => POpsL.sound hl' (hds dst hdd) hs) (fun hne => absurd rfl hne) ⟨dst, hdd⟩)
            · have hb2 : b' = !b := by cases b' <;> cases b <;> simp_all
              subst hb2
              refine SOps.ghost (Ghost.front hb) (SOps.guardT ho hg hoj hdj' (getT_setT_self) (fun e => absurd e hbb) (fun hne d hd' => by rw [hdd] at hd'; cases hd'; exact ⟨hN, POpsL.sound hl' (hds dst hdd) (h.2 rfl)⟩) ⟨dst, hdd⟩)
          · rename_i hb
            exact SOps.guardU ho hg hoj hdj' hb hdd hN (POpsL.sound hl' (hds dst hdd) h)
          · exact h.elim
      · exact h.elim
/-- code without loops: what comes of it; at a loop it stands -/
def PCode (cx : Cx) (kv : List Nat) : Code → St → (Exit → St → Prop) → Prop
  | .skip, s, K => K .normal s
  | .seq x y, s, K => PCode cx kv x s (thenP (PCode cx kv y) K)
  | .cond c x y, s, K =>
    match rdO s.t c with
    | some (.c (.v (.bool b))) => Br b true (PCode cx kv x s K) (PCode cx kv y s K)
    | _ => False
  | .block id c, s, K => PCode cx kv c s (blockK id K)
  | .exit id, s, K => K (.exit id) s
  | .ret, s, K => K .ret s
  | .region id ops false, s, K => POpsL cx 0 [] ops.toList (kvK kv K) s
  | c, s, K => SCode cx c s K

theorem PCode.sound {cx kv} : ∀ {c s K}, PCode cx kv c s K → SCode cx c s K
  | .skip, s, K, h => SCode.skip h
  | .seq x y, s, K, h => SCode.seq ((PCode.sound (c := x) (by unfold PCode at h; exact h)).mono fun ex s' hs => by
      cases ex <;> first | exact PCode.sound (c := y) hs | exact hs)
  | .cond c x y, s, K, h => by
    simp only [PCode] at h
    split at h
    · rename_i b hb
      exact SCode.cond hb (fun e => PCode.sound (h.1 e)) (fun e => PCode.sound (h.2 e))
    · exact h.elim
  | .block id c, s, K, h => SCode.block (PCode.sound (c := c) h)
  | .exit id, s, K, h => SCode.exit h
  | .ret, s, K, h => SCode.ret h
  | .region id ops false, s, K, h => by
    have h1 : POpsL cx 0 [] ops.toList (kvK kv K) s := h
    have h2 := POpsL.sound (ops := ops) (k := 0) (ds := []) rfl (fun j d hj => by cases hj) h1
    rw [Array.length_toList, ← List.range_eq_range'] at h2
    refine SCode.region (SOps.mono (K := kvK kv K) h2 fun s' hs => ?_)
    refine SOps.ghost (Ghost.keep (fun e => kv.contains e.1)) (SOps.nil ?_)
    rw [← keepV_filter]; exact hs
  | .region id ops true, s, K, h => h
  | .loop c, s, K, h => h
  | .rangeFunc .., s, K, h => h
  | .scope c, s, K, h => h
  | .label l, s, K, h => h
  | .goto l, s, K, h => h
  | .refuse w, s, K, h => h

theorem PFun.use {P f args H x Q} (h : PFun P f args H x) (hq : Q x H []) : PCalls P f args H Q := h.mono (by rintro T1 H' lg ⟨rfl, rfl, rfl⟩; exact hq)

/-- entry, for code that is looked at by PCode -/
theorem PFun.of {P : Program} {f : FuncId} {fn : Func} {c : Code} {args : List T} {H : HH} {x : T} (kv : List Nat) (hf : P.funcs[f]? = some fn) (hb : fn.body = some c) (hN : args.length ≤ fn.ntmps)
    (h : ∀ d, d ≠ 0 → (∀ n, look H (d, n) = none) → CleanH (atD d) H → outH d H = H → PCode ⟨P, d, fn.ntmps⟩ kv c { t := enumT 0 args, H := H, lg := [] } (retK P d fn.results.toList (fun T H' lg => T = x ∧ H' = H ∧ lg = []))) : PFun P f args H x := by
  refine PCalls.of_code hf hb hN (fun d hd hfr hcl => PCode.sound (h d hd (fun n => ?_) hcl ?_))
  · cases hl : look H (d, n) with
    | none => rfl
    | some c => exact absurd rfl (hfr _ (look_mem hl))
  · unfold outH
    rw [List.filter_eq_self]
    intro e he
    simpa using hfr e he

def LoopK (cx : Cx) (kv : List Nat) (c : Code) (s : St) (K : Exit → St → Prop) : Prop := SCode cx (.loop c) s K
def DrawK (cx : Cx) (kv : List Nat) (id : Nat) (ops : Array Oper) (s : St) (K : Exit → St → Prop) : Prop := SCode cx (.region id ops true) s K
theorem Br_congr {b1 b2 b : Bool} {A B : Prop} (h : b1 = b2) : Br b1 b A B = Br b2 b A B := by rw [h]
theorem Br_tt {A B : Prop} : Br true true A B = A := by simp [Br]
theorem Br_ft {A B : Prop} : Br false true A B = B := by simp [Br]
theorem Br_tf {A B : Prop} : Br true false A B = B := by simp [Br]
theorem Br_ff {A B : Prop} : Br false false A B = A := by simp [Br]
theorem Br_xt {b : Bool} {A B : Prop} : Br b true A B = ((b = true → A) ∧ (b = false → B)) := rfl
theorem Br_xf {b : Bool} {A B : Prop} : Br b false A B = ((b = false → A) ∧ (b = true → B)) := rfl
section eqs
variable {cx : Cx} {kv : List Nat} {t : List (Nat × T)} {H : HH} {lg : List (Nm × Path)} {K : Exit → St → Prop} {ops : Array Oper} {KS : St → Prop}
theorem PCode_skip : PCode cx kv .skip ⟨t, H, lg⟩ K = K .normal ⟨t, H, lg⟩ := rfl
theorem PCode_seq {x y} : PCode cx kv (.seq x y) ⟨t, H, lg⟩ K = PCode cx kv x ⟨t, H, lg⟩ (thenP (PCode cx kv y) K) := rfl
theorem PCode_cond {c x y} : PCode cx kv (.cond c x y) ⟨t, H, lg⟩ K = (match rdO t c with
    | some (.c (.v (.bool b))) => Br b true (PCode cx kv x ⟨t, H, lg⟩ K) (PCode cx kv y ⟨t, H, lg⟩ K)
    | _ => False) := rfl
theorem PCode_block {id c} : PCode cx kv (.block id c) ⟨t, H, lg⟩ K = PCode cx kv c ⟨t, H, lg⟩ (blockK id K) := rfl
theorem PCode_exit {id} : PCode cx kv (.exit id) ⟨t, H, lg⟩ K = K (.exit id) ⟨t, H, lg⟩ := rfl
theorem PCode_ret : PCode cx kv .ret ⟨t, H, lg⟩ K = K .ret ⟨t, H, lg⟩ := rfl
theorem PCode_region {id} {l : List Oper} : PCode cx kv (.region id (List.toArray l) false) ⟨t, H, lg⟩ K = POpsL cx 0 [] l (kvK kv K) ⟨t, H, lg⟩ := rfl
theorem POpsL_nil {k ds} : POpsL cx k ds [] KS ⟨t, H, lg⟩ = KS ⟨t, H, lg⟩ := rfl
theorem POpsL_cons {k ds o l} : POpsL cx k ds (o :: l) KS ⟨t, H, lg⟩ = (match o.guard with
    | none =>
      (match o.dst with
      | some d => POp cx o ⟨t, H, lg⟩ (POpsL cx (k + 1) ((k, d) :: ds) l KS)
      | none => POp cx o ⟨t, H, lg⟩ (POpsL cx (k + 1) ds l KS))
    | some (j, b) =>
      (match lookN j ds, o.dst with
      | some dj, some dst =>
        dst < cx.N ∧
        (match getT t dj with
        | some (.c (.v (.bool b'))) => Br b' b (POp cx o ⟨setT t dj (.c (.v (.bool b))), H, lg⟩ (POpsL cx (k + 1) ((k, dst) :: ds) l KS)) (POpsL cx (k + 1) ((k, dst) :: ds) l KS ⟨setT (setT t dj (.c (.v (.bool !b)))) dst (.t []), H, lg⟩)
        | some (.t []) => POpsL cx (k + 1) ((k, dst) :: ds) l KS ⟨setT t dst (.t []), H, lg⟩
        | _ => False)
      | _, _ => False)) := rfl
theorem kvK_mk : kvK kv K ⟨t, H, lg⟩ = K .normal ⟨keepV kv t, H, lg⟩ := rfl
theorem PCode_draw {id} : PCode cx kv (.region id ops true) ⟨t, H, lg⟩ K = DrawK cx kv id ops ⟨t, H, lg⟩ K := rfl
theorem PCode_loop {c} : PCode cx kv (.loop c) ⟨t, H, lg⟩ K = LoopK cx kv c ⟨t, H, lg⟩ K := rfl
theorem POps_nil : POps' cx ops [] KS ⟨t, H, lg⟩ = KS ⟨t, H, lg⟩ := rfl
theorem POps_cons {i l} : POps' cx ops (i :: l) KS ⟨t, H, lg⟩ = (match ops[i]? with
    | some o =>
      (match o.guard with
      | none => POp cx o ⟨t, H, lg⟩ (POps' cx ops l KS)
      | some (j, b) =>
        (match (ops[j]?).bind (·.dst), o.dst with
        | some dj, some dst =>
          dst < cx.N ∧
          (match getT t dj with
          | some (.c (.v (.bool b'))) => Br b' b (POp cx o ⟨setT t dj (.c (.v (.bool b))), H, lg⟩ (POps' cx ops l KS)) (POps' cx ops l KS ⟨setT (setT t dj (.c (.v (.bool !b)))) dst (.t []), H, lg⟩)
          | some (.t []) => POps' cx ops l KS ⟨setT t dst (.t []), H, lg⟩
          | _ => False)
        | _, _ => False))
    | none => False) := rfl
theorem thenP_normal {PC} : thenP PC K .normal ⟨t, H, lg⟩ = PC ⟨t, H, lg⟩ K := rfl
theorem thenP_ret {PC} : thenP PC K .ret ⟨t, H, lg⟩ = K .ret ⟨t, H, lg⟩ := rfl
theorem thenP_exit {PC} {id} : thenP PC K (.exit id) ⟨t, H, lg⟩ = K (.exit id) ⟨t, H, lg⟩ := rfl
theorem thenK_normal {K2 : St → Prop} : thenK K2 K .normal ⟨t, H, lg⟩ = K2 ⟨t, H, lg⟩ := rfl
theorem thenK_ret {K2 : St → Prop} : thenK K2 K .ret ⟨t, H, lg⟩ = K .ret ⟨t, H, lg⟩ := rfl
theorem thenK_exit {K2 : St → Prop} {id} : thenK K2 K (.exit id) ⟨t, H, lg⟩ = K (.exit id) ⟨t, H, lg⟩ := rfl
theorem blockK_normal {id} : blockK id K .normal ⟨t, H, lg⟩ = K .normal ⟨t, H, lg⟩ := rfl
theorem blockK_ret {id} : blockK id K .ret ⟨t, H, lg⟩ = K .ret ⟨t, H, lg⟩ := rfl
theorem blockK_exit {id id'} : blockK id K (.exit id') ⟨t, H, lg⟩ = if id' = id then K .normal ⟨t, H, lg⟩ else K (.exit id') ⟨t, H, lg⟩ := rfl
theorem retK_normal {P d rs Q} : retK P d rs Q .normal ⟨t, H, lg⟩ = Ret P d rs Q ⟨t, H, lg⟩ := rfl
theorem retK_ret {P d rs Q} : retK P d rs Q .ret ⟨t, H, lg⟩ = Ret P d rs Q ⟨t, H, lg⟩ := rfl
theorem Ret_mk {P d rs Q} : Ret P d rs Q ⟨t, H, lg⟩ = (match retAll P d t H rs with
  | some (xs, H2) =>
    (match gatherTs d H2 xs with
    | some (xs', H3) => T.cleans (atD d) xs' ∧ CleanH (atD d) (outH d H3) ∧ Q (packT xs') (outH d H3) lg
    | none => False)
  | none => False) := rfl
theorem keepV_nil : keepV kv [] = [] := rfl
theorem keepV_cons {i x} : keepV kv ((i, x) :: t) = if kv.contains i then (i, x) :: keepV kv t else keepV kv t := rfl
variable {KP : St → Prop} {dst : Nat} {cs : List Nat}
theorem VK_c {c} : VK KP t H lg dst cs (.c c) = KP ⟨setT (delL t cs) dst (.c c), H, lg⟩ := rfl
theorem VK_a {c} : VK KP t H lg dst cs (.a c) = KP ⟨setT (delL t cs) dst (.a c), H, lg⟩ := rfl
theorem VK_t {c} : VK KP t H lg dst cs (.t c) = KP ⟨setT (delL t cs) dst (.t c), H, lg⟩ := rfl
theorem VK_u : VK KP t H lg dst cs .u = KP ⟨setT (delL t cs) dst .u, H, lg⟩ := rfl
theorem CK_mk {d t' o lg0 x H' lg} : CK d KP t' o lg0 x H' lg = ((∀ e ∈ lg, OcleanT (hit [e]) t') ∧ KP ⟨putD (t'.filter fun en => keepL lg en.2) o x, H', lg.filter (fun e => decide (e.1.1 ≠ d)) ++ lg0⟩) := rfl
theorem CK_nil {d t' o lg0 x H'} : CK d KP t' o lg0 x H' [] = KP ⟨putD t' o x, H', lg0⟩ := by simp [CK, keepL, filter_true]
theorem AK_mk {z0 els zl els2 t2} : AK KP H lg z0 els zl dst els2 t2 = (els.length + els2.length ≤ 134217728 ∧ KP ⟨setT t2 dst (.c (.own zl (els ++ els2))), H, lg⟩) := rfl
theorem appK_mk {sb sx zl} : appK KP sb sx zl dst ⟨t, H, lg⟩ = (match tkO t sb with
  | some (.c (.own z0 els), t1) => (z0 = zl ∨ z0 = 0) ∧ srcK H t1 sx zl (AK KP H lg z0 els zl dst)
  | _ => False) := rfl
variable {FR : Nat → List (Nat × T) → List Nat → Prop} {n i : Nat} {val : List (Nat × T)} {cs0 : List Nat}
theorem FNext_c {c} : FNext FR i val cs0 cs dst (.c c) = FR (i + 1) ((dst, .c c) :: val) (cs ++ cs0) := rfl
theorem FNext_a {c} : FNext FR i val cs0 cs dst (.a c) = FR (i + 1) ((dst, .a c) :: val) (cs ++ cs0) := rfl
theorem FNext_t {c} : FNext FR i val cs0 cs dst (.t c) = FR (i + 1) ((dst, .t c) :: val) (cs ++ cs0) := rfl
theorem FNext_u : FNext FR i val cs0 cs dst .u = FR (i + 1) ((dst, .u) :: val) (cs ++ cs0) := rfl
theorem FTail_mk {m keep} : FTail cx ops m keep H lg KS val cs = ((∀ j ∈ keep, j ∉ cs) ∧ POps' cx ops (List.range' m (ops.size - m)) KS ⟨live keep val, H, lg⟩) := rfl
theorem FRun_zero {m} {K} : FRun' cx ops m H K 0 i val cs = K val cs := rfl
theorem FRun_succ {m K} : FRun' cx ops m H K (n + 1) i val cs = (match ops[i]? with
    | some o =>
      (match o.dst with
      | some dst =>
        dst < cx.N ∧
        (match o.guard with
        | none => consChk ops m i (consOp val o) = true ∧ PVal cx val H o (FNext (FRun' cx ops m H K n) i val cs (consOp val o) dst)
        | some (j, b) =>
          (match (ops[j]?).bind (·.dst) with
          | some dj =>
            (match getT val dj with
            | some (.c (.v (.bool b'))) => Br b' b (consChk ops m i (consOp (repT val dj (.c (.v (.bool b)))) o) = true ∧ PVal cx (repT val dj (.c (.v (.bool b)))) H o (FNext (FRun' cx ops m H K n) i (repT val dj (.c (.v (.bool b)))) cs (consOp (repT val dj (.c (.v (.bool b)))) o) dst)) (FNext (FRun' cx ops m H K n) i (repT val dj (.c (.v (.bool !b)))) cs [] dst (.t []))
            | some (.t []) => FNext (FRun' cx ops m H K n) i val cs [] dst (.t [])
            | _ => False)
          | none => False))
      | none => False)
    | none => False) := rfl
end eqs

/-- a drawn region, with what is free and what is kept -/
theorem DrawK.intro {cx kv id ops t H lg K} (m : Nat) (keep : List Nat) (hmx : cx.P.follows .mixedOrders = true) (hchk : drawChk ops m = true) (hkeep : keep.Nodup)
    (h : FRun' cx ops m H (FTail cx ops m keep H lg (kvK kv K)) m 0 t []) : DrawK cx kv id ops ⟨t, H, lg⟩ K := by
  refine SCode.draw m keep hmx hchk hkeep ?_
  refine FRun'.to (FRun'.mono (fun val cs hv => ?_) h)
  exact ⟨hv.1, SOps.mono (POps.sound hv.2) fun s' hs => by
    refine SOps.ghost (Ghost.keep (fun e => kv.contains e.1)) (SOps.nil ?_)
    rw [← keepV_filter]; exact hs⟩

end Go.Px


namespace Go.Px
open Go.RowKit
set_option linter.unusedVariables false
set_option linter.unusedSimpArgs false
set_option linter.constructorNameAsVariable false

theorem w64 {x : Int} (h1 : -9223372036854775808 ≤ x) (h2 : x ≤ 9223372036854775807) : IntKind.i64.wrap x = x := by
  have e1 : (2 : Int) ^ 64 = 18446744073709551616 := rfl
  have e2 : (2 : Int) ^ (64 - 1) = 9223372036854775808 := rfl
  simp only [IntKind.wrap, IntKind.bits, IntKind.signed, Bool.true_and, decide_eq_true_eq, e1, e2]
  by_cases h : x % 18446744073709551616 ≥ 9223372036854775808
  · rw [if_pos h]; omega
  · rw [if_neg h]; omega
theorem look_cons (s : Nm) (c : Cell) (t : HH) (r : Nm) : look ((s, c) :: t) r = if s = r then some c else look t r := rfl
theorem delH_cons (s : Nm) (c : Cell) (t : HH) (r : Nm) : delH ((s, c) :: t) r = if s = r then t else (s, c) :: delH t r := rfl
theorem putH_cons (s : Nm) (c : Cell) (t : HH) (r : Nm) (c1 : Cell) : putH ((s, c) :: t) r c1 = if s = r then (s, c1) :: t else (s, c) :: putH t r c1 := rfl
theorem arrAt_cons (s : Nm) (c : Cell) (t : HH) (r : Nm) (q : Path) : arrAt ((s, c) :: t) r q = if s = r then (match c.get q with | some (.own z els) => some (z, els) | _ => none) else arrAt t r q := by
  unfold arrAt; rw [look_cons]; by_cases h : s = r
  · rw [if_pos h, if_pos h]; rfl
  · rw [if_neg h, if_neg h]
theorem outH_cons (d : Nat) (s : Nm) (c : Cell) (t : HH) : outH d ((s, c) :: t) = if s.1 = d then outH d t else (s, c) :: outH d t := by
  unfold outH; by_cases h : s.1 = d <;> simp [List.filter_cons, h]
theorem delA_cons (s : Nm) (c : Cell) (t : HH) (r : Nm) : delA ((s, c) :: t) r = if s = r then delA t r else (s, c) :: delA t r := by
  unfold delA; by_cases h : s = r <;> simp [List.filter_cons, h]
theorem delA_none {H : HH} {r : Nm} (h : look H r = none) : delA H r = H := by
  induction H with
  | nil => rfl
  | cons e t ih =>
    obtain ⟨s, c⟩ := e
    rw [look_cons] at h
    split at h
    · cases h
    · rename_i hne
      rw [delA_cons, if_neg hne, ih h]
theorem CleanH_cons (K : Cell → Prop) (s : Nm) (c : Cell) (t : HH) : CleanH K ((s, c) :: t) ↔ Clean K c ∧ CleanH K t := by simp [CleanH]
theorem Clean_own (K : Cell → Prop) (z els) : Clean K (.own z els) ↔ ∀ row ∈ els, ∀ c ∈ row, Clean K c := by
  refine ⟨fun h row hr c hc => h.sub c (List.mem_flatten.2 ⟨row, hr, hc⟩), Clean.own⟩
theorem Clean_x (K : Cell → Prop) : Clean K .x ↔ True := by simp [Clean.hole]
theorem Clean_sl (K : Cell → Prop) (r q z i n) : Clean K (.sl r q z i n) ↔ ¬ K (.sl r q z i n) :=
  ⟨fun h => h.self rfl, fun h => .leaf (fun _ _ => by simp) (fun _ => h)⟩
theorem Clean_pt (K : Cell → Prop) (r q z i n) : Clean K (.pt r q z i n) ↔ ¬ K (.pt r q z i n) :=
  ⟨fun h => h.self rfl, fun h => .leaf (fun _ _ => by simp) (fun _ => h)⟩
theorem Clean_fn (K : Cell → Prop) (f cs) : Clean K (.fn f cs) ↔ ¬ K (.fn f cs) :=
  ⟨fun h => h.self rfl, fun h => .leaf (fun _ _ => by simp) (fun _ => h)⟩
theorem hit_sl (r0 : Nm) (p : Path) (r q z i n) : hit [(r0, p)] (.sl r q z i n) ↔ r0 = r ∧ p <+: q := by simp [hit, hit1]
theorem hit_pt (r0 : Nm) (p : Path) (r q z i n) : hit [(r0, p)] (.pt r q z i n) ↔ r0 = r ∧ p <+: q := by simp [hit, hit1]
theorem atD_sl (d r q z i n) : atD d (.sl r q z i n) ↔ r.1 = d := by simp [atD, atD1]
theorem atD_pt (d r q z i n) : atD d (.pt r q z i n) ↔ r.1 = d := by simp [atD, atD1]
theorem Clean.imp {K K' : Cell → Prop} {c} (h : Clean K c) (hk : ∀ c, isRef c = true → K' c → K c) : Clean K' c := fun p c' hg hr hk' => h p c' hg hr (hk _ hr hk')
theorem CleanH.at {d n : Nat} {q : Path} {H : HH} (h : CleanH (atD d) H) : CleanH (hit [((d, n), q)]) H := by
  have h1 : ∀ c, hit1 [((d, n), q)] c → atD1 d c := by
    intro c hc
    cases c <;> simp_all [hit1, atD1]
    all_goals (rw [← hc.1])
  intro en he
  refine (h en he).imp (fun c hr hc => ?_)
  cases c with
  | fn f cs => obtain ⟨c, h2, h3⟩ := hc; exact ⟨c, h2, h1 c h3⟩
  | sl r q z i n => exact h1 (.sl r q z i n) hc
  | pt r q z i n => exact h1 (.pt r q z i n) hc
  | _ => exact hc.elim
theorem ne_of_look {H : HH} {d : Nat} {r : Nm} {c} (hfr : ∀ n, look H (d, n) = none) (h : look H r = some c) : r.1 ≠ d := by
  intro e
  obtain ⟨a, n⟩ := r
  simp at e
  subst e
  rw [hfr] at h
  cases h
theorem ne_of_arr {H : HH} {d : Nat} {r : Nm} {q x} (hfr : ∀ n, look H (d, n) = none) (h : arrAt H r q = some x) : r.1 ≠ d := by
  obtain ⟨z, els⟩ := x
  obtain ⟨c, hl, -⟩ := arrAt_iff.1 h
  exact ne_of_look hfr hl
theorem nm_ne {r : Nm} {d n : Nat} (h : r.1 ≠ d) : ¬ (d, n) = r := by rintro rfl; exact h rfl
theorem nm_ne' {r : Nm} {d n : Nat} (h : r.1 ≠ d) : ¬ r = (d, n) := by rintro rfl; exact h rfl

/-- what is asked for forgetting local objects, one behind the other -/
def sweepOk (d : Nat) (t : List (Nat × T)) : List Nat → HH → Prop
  | [], _ => True
  | n :: ns, H => (look H (d, n)).isSome = true ∧ CleanH (hit [((d, n), [])]) (delH H (d, n)) ∧ (∀ en ∈ t, en.2.clean (hit [((d, n), [])])) ∧ sweepOk d t ns (delH H (d, n))
def sweepH (d : Nat) : List Nat → HH → HH
  | [], H => H
  | n :: ns, H => sweepH d ns (delH H (d, n))
theorem Ghost.sweep1 {d t lg} : ∀ {ns H}, sweepOk d t ns H → Ghost d ⟨t, H, lg⟩ ⟨t, sweepH d ns H, lg⟩
  | [], H, _ => fun e a w _ hr => hr
  | n :: ns, H, h => by
    obtain ⟨h1, h2, h3, h4⟩ := h
    obtain ⟨c, h1⟩ := Option.isSome_iff_exists.1 h1
    intro e a w hd hr
    refine Ghost.sweep1 h4 e a w hd ?_
    have := hr.drop (d, n) (fun _ => true) (by simp [hd]) h1 h2 (fun en he _ => h3 en he)
    simpa [filter_true] using this
/-- temporaries are chosen and laid in order, dead objects forgotten -/
theorem Ghost.sweep {d t H lg} (keep ns : List Nat) (hk : keep.Nodup) (h : sweepOk d (live keep t) ns H) : Ghost d ⟨t, H, lg⟩ ⟨live keep t, sweepH d ns H, lg⟩ := by
  intro e a w hd hr
  exact Ghost.sweep1 h e a w hd (hr.pick hk (fun _ _ => rfl))

/-- behind a round -/
def LK (d : Nat) (I : Nat → St → Prop) (n : Nat) (s : St) : Prop := ∃ m s', m < n ∧ Ghost d s s' ∧ I m s'
theorem LoopK.intro {cx kv c s K} (I : Nat → St → Prop) (n : Nat) (h0 : LK cx.d I n s) (hround : ∀ n s, I n s → PCode cx kv c s (thenK (LK cx.d I n) K)) : LoopK cx kv c s K := by
  obtain ⟨m, s0, -, hg, h0⟩ := h0
  refine SCode.ghost hg (SCode.loop (fun n s => ∃ s', Ghost cx.d s s' ∧ I n s') (fun n s hs => ?_) (n := m) ⟨s0, fun e a w _ hr => hr, h0⟩)
  obtain ⟨s', hg, hs⟩ := hs
  refine SCode.ghost hg ((PCode.sound (hround n s' hs)).mono fun ex s2 h2 => ?_)
  cases ex with
  | normal => obtain ⟨m, s3, h3, h4, h5⟩ := h2; exact ⟨m, h3, s3, h4, h5⟩
  | _ => exact h2
theorem LK.intro {d I n t H lg} (m : Nat) (keep ns : List Nat) (hm : m < n) (hk : keep.Nodup) (h : sweepOk d (live keep t) ns H) (hI : I m ⟨live keep t, sweepH d ns H, lg⟩) : LK d I n ⟨t, H, lg⟩ :=
  ⟨m, _, hm, Ghost.sweep keep ns hk h, hI⟩

end Go.Px


namespace Go.Px
set_option linter.unusedVariables false
set_option linter.unusedSimpArgs false
open Go.RowKit
attribute [simp ↓] PCode_seq PCode_cond PCode_block PCode_region POpsL_nil POpsL_cons POps_nil POps_cons FRun_succ
attribute [simp] lookN
attribute [simp ↓] ixK_mk inK_mk
attribute [simp] PCode_skip PCode_exit PCode_ret PCode_draw PCode_loop thenP_normal thenP_ret thenP_exit thenK_normal thenK_ret thenK_exit blockK_normal blockK_ret blockK_exit retK_normal retK_ret keepV_nil keepV_cons POp PVal tkO rdO getT setT_def delT_nil delT_cons delL_nil delL_cons consO consOp constT flat T.bare T.bares isOwn T.cells Ret_mk kvK_mk List.range'_succ List.range'_zero Clean.v Bool.not_true Bool.not_false retAll retOne packT enumT pbin pbool pun putD T.cleans T.clean noteH VK_c VK_a VK_t VK_u CK_nil CK_mk AK_mk appK_mk appZK_mk isIntT capsR capR FNext_c FNext_a FNext_t FNext_u FTail_mk FRun_zero look_cons delH_cons putH_cons arrAt_cons outH_cons delA_cons CleanH_cons Clean_x Clean_sl Clean_pt Clean_fn hit_sl hit_pt atD_sl atD_pt sweepOk sweepH live isNilC relC relz fixz relA srcV partsV bnd Cell.get Cell.set ldc ldcs fieldT
attribute [simp] tkArgs usesO repT gatherTs gatherT gatherL gather1
attribute [congr] Br_congr
attribute [simp ↓ high] Br_tt Br_ft Br_tf Br_ff
attribute [simp high] Br_tt Br_ft Br_tf Br_ff
attribute [simp low] Br_xt Br_xf
attribute [-simp] Int.not_le Int.not_lt List.range'_one

theorem cells1_cons (K : Cell → Prop) (c : Cell) (t : List Cell) : cells1 K (c :: t) ↔ Clean K c ∧ cells1 K t := by simp [cells1]
theorem cells1_nil (K : Cell → Prop) : cells1 K [] ↔ True := by simp [cells1]
attribute [simp] cells1_cons cells1_nil
theorem OcleanT_cons (K : Cell → Prop) (i : Nat) (x : T) (t : List (Nat × T)) : OcleanT K ((i, x) :: t) ↔ x.oclean K ∧ OcleanT K t := by simp [OcleanT]
theorem OcleanT_nil (K : Cell → Prop) : OcleanT K [] ↔ True := by simp [OcleanT]
theorem keepC_sl (r : Nm) (P : Path) (r' q z i n) : keepC r P (.sl r' q z i n) = !decide (r = r' ∧ P <+: q) := by
  simp only [keepC]; congr 1; rw [Bool.eq_iff_iff]; simp [List.isPrefixOf_iff_prefix]
theorem keepC_pt (r : Nm) (P : Path) (r' q z i n) : keepC r P (.pt r' q z i n) = !decide (r = r' ∧ P <+: q) := by
  simp only [keepC]; congr 1; rw [Bool.eq_iff_iff]; simp [List.isPrefixOf_iff_prefix]
theorem keepC_v (r : Nm) (P : Path) (y) : keepC r P (.v y) = true := rfl
theorem keepC_own (r : Nm) (P : Path) (z els) : keepC r P (.own z els) = true := rfl
theorem keepC_x (r : Nm) (P : Path) : keepC r P .x = true := rfl
theorem keepC2_sl (r : Nm) (P : Path) (r' q z i n) : keepC2 r P (.sl r' q z i n) = keepC r P (.sl r' q z i n) := rfl
theorem keepC2_pt (r : Nm) (P : Path) (r' q z i n) : keepC2 r P (.pt r' q z i n) = keepC r P (.pt r' q z i n) := rfl
theorem keepC2_v (r : Nm) (P : Path) (y) : keepC2 r P (.v y) = true := rfl
theorem keepC2_own (r : Nm) (P : Path) (z els) : keepC2 r P (.own z els) = true := rfl
theorem keepC2_x (r : Nm) (P : Path) : keepC2 r P .x = true := rfl
theorem keepC2_fn (r : Nm) (P : Path) (f cs) : keepC2 r P (.fn f cs) = cs.all (keepC r P) := rfl
attribute [simp] OcleanT_cons OcleanT_nil keepC_sl keepC_pt keepC_v keepC_own keepC_x keepC2_sl keepC2_pt keepC2_v keepC2_own keepC2_x keepC2_fn T.keep T.keeps T.oclean T.ocleans List.filter_cons List.cons_prefix_cons keepL
theorem consChk_nil (ops : Array Oper) (m i : Nat) : consChk ops m i [] = true := rfl
attribute [simp] consChk_nil
theorem takeK_mk {d t H lg i} {KP : St → Prop} : takeK d ⟨t, H, lg⟩ i KP = (match getT t i with
  | some (.c (.sl r q z i0 n)) =>
    (match look H r with
    | some c =>
      (match c.get q with
      | some (.own z' els) =>
        (z' = z ∧ i0 + n ≤ els.length) ∧ CleanH (hit [(r, q)]) H ∧ OcleanT (hit [(r, q)]) (delT t i) ∧
          (if q = [] then r.1 = d ∧ KP ⟨(i, .c (.own z (cutD i0 n els))) :: (delT t i).filter (fun en => en.2.keep r q), delH H r, lg⟩
           else r.1 ≠ 0 ∧ KP ⟨(i, .c (.own z (cutD i0 n els))) :: (delT t i).filter (fun en => en.2.keep r q), putH H r (Cell.set .x q c), noteH d r q lg⟩)
      | _ => False)
    | none => False)
  | some _ => KP ⟨t, H, lg⟩
  | none => False) := rfl
attribute [simp] cutD_drop
attribute [simp] takeK_mk srcK tkParts fillG dense
section
variable {d i k : Nat} {cs l : List Cell} {t : List (Nat × T)} {H : HH} {lg : List (Nm × Path)} {KP : St → Prop} {cx : Cx}
theorem gathC_nil : gathC d i k [] l ⟨t, H, lg⟩ KP = KP ⟨t, H, lg⟩ := by simp [gathC]
theorem gathC_v {y} : gathC d i k (.v y :: cs) l ⟨t, H, lg⟩ KP = gathC d i (k + 1) cs l ⟨t, H, lg⟩ KP := by simp [gathC]
theorem gathC_own {z els} : gathC d i k (.own z els :: cs) l ⟨t, H, lg⟩ KP = gathC d i (k + 1) cs l ⟨t, H, lg⟩ KP := by simp [gathC]
theorem gathC_pt {r q z a f} : gathC d i k (.pt r q z a f :: cs) l ⟨t, H, lg⟩ KP = gathC d i (k + 1) cs l ⟨t, H, lg⟩ KP := by simp [gathC]
theorem gathC_fn {f c} : gathC d i k (.fn f c :: cs) l ⟨t, H, lg⟩ KP = gathC d i (k + 1) cs l ⟨t, H, lg⟩ KP := by simp [gathC]
theorem gathC_x : gathC d i k (.x :: cs) l ⟨t, H, lg⟩ KP = gathC d i (k + 1) cs l ⟨t, H, lg⟩ KP := by simp [gathC]
theorem gathC_sl {r q z i0 n} : gathC d i k (.sl r q z i0 n :: cs) l ⟨t, H, lg⟩ KP = (if r.1 = d then
      (match look H r with
      | some co =>
        (match co.get q with
        | some (.own z' els) =>
          (z' = z ∧ i0 + n = els.length) ∧ CleanH (hit [(r, q)]) H ∧ OcleanT (hit [(r, q)]) (delT t i) ∧ cells1 (hit [(r, q)]) (l.set k .x) ∧
            (if q = [] then gathC d i (k + 1) cs (l.set k (.own z (els.drop i0))) ⟨(i, .a (l.set k (.own z (els.drop i0)))) :: (delT t i).filter (fun en => en.2.keep r q), delH H r, lg⟩ KP
             else gathC d i (k + 1) cs (l.set k (.own z (els.drop i0))) ⟨(i, .a (l.set k (.own z (els.drop i0)))) :: (delT t i).filter (fun en => en.2.keep r q), putH H r (Cell.set .x q co), lg⟩ KP)
        | _ => False)
      | none => False)
    else gathC d i (k + 1) cs l ⟨t, H, lg⟩ KP) := rfl
theorem gathK_mk {o} : gathK d o KP ⟨t, H, lg⟩ = (match o with
  | .tmp i => (match getT t i with
    | some (.a l) => d ≠ 0 ∧ gathC d i 0 l l ⟨t, H, lg⟩ KP
    | some (.c (.sl r q z i0 n)) => if r.1 = d then takeK d ⟨t, H, lg⟩ i KP else KP ⟨t, H, lg⟩
    | _ => KP ⟨t, H, lg⟩)
  | _ => KP ⟨t, H, lg⟩) := rfl
theorem gathS_mk {ad o} : gathS d ad o KP ⟨t, H, lg⟩ = (match rdO t ad, o with
  | some (.c (.pt r q z i f)), .tmp j =>
    (match getT t j with
    | some (.c (.sl r' q' z' i0 n)) => if q' = q ++ [(i, f)] ∧ r' = r ∧ ¬ r.1 = d then takeK d ⟨t, H, lg⟩ j KP else gathK d o KP ⟨t, H, lg⟩
    | _ => gathK d o KP ⟨t, H, lg⟩)
  | _, _ => gathK d o KP ⟨t, H, lg⟩) := rfl
theorem gathKs_nil : gathKs d [] KP ⟨t, H, lg⟩ = KP ⟨t, H, lg⟩ := rfl
theorem gathKs_cons {o os} : gathKs d (o :: os) KP ⟨t, H, lg⟩ = gathK d o (gathKs d os KP) ⟨t, H, lg⟩ := rfl
theorem storeK_mk {ty ad x} : storeK cx ty ad x KP ⟨t, H, lg⟩ = (match rdO t ad, tkO t x with
  | some (.c (.pt r q z i f)), some (y, t') =>
    (match y.cells with
    | some cs => (tok cx.P ty = true ∧ tsz cx.P ty = cs.length ∧ r.1 ≠ 0) ∧ StoreSeq cx.d r q i f (relC cx.P ty x cs) ⟨t', H, lg⟩ KP
    | none => False)
  | _, _ => False) := rfl
theorem bsK_mk {ty len parts dst} : bsK cx ty len parts dst KP ⟨t, H, lg⟩ = (match tkParts t parts.toList, tel cx.P ty with
  | some (ps, t'), some el =>
    (match tzc cx.P el with
    | some zl => (tok cx.P el = true ∧ 0 < zl.length ∧ tsz cx.P el = zl.length ∧ ps.length = len ∧ 0 < len ∧ len * zl.length ≤ 16777216) ∧ (match dense zl.length 0 ps with | some els => KP ⟨setT t' dst (.c (.own zl.length els)), H, lg⟩ | none => False)
    | none => False)
  | _, _ => False) := rfl
theorem PK_mk {o x} : PK KP o x ⟨t, H, lg⟩ = KP ⟨putD t o x, H, lg⟩ := rfl
attribute [simp] sliceC clrK_mk PK_mk gathC_nil gathC_v gathC_own gathC_pt gathC_fn gathC_x gathC_sl gathK_mk gathS_mk gathKs_nil gathKs_cons storeK_mk bsK_mk
end
/-- a call that is known -/
theorem PFun.useCK {P f args H x d} {KP : St → Prop} {t' o lg0} (h : PFun P f args H x) (hq : KP ⟨putD t' o x, H, lg0⟩) : PCalls P f args H (CK d KP t' o lg0) := h.use (by rw [CK_nil]; exact hq)
end Go.Px


namespace Go.Px
open Go.RowKit Go.Deep
set_option linter.unusedVariables false
set_option linter.unusedSimpArgs false

/-- Data of type t, read as n cells: each cell a value or an array of its own. -/
def Op {α : Type} (P : Program) (t : TypeId) (n : Nat) (enc : α → List Cell) (q : α → Prop) : Prop :=
  ∀ (H : Type) (e : TypeId × Value → H) (w : World) (base : Nat) (held : Bool) (fuel : Nat) (cs : List Value) (x : DataW H × List MemPlace), DataW.trod e P w base (fun _ => true) held fuel t cs = some x → w.noneFrozen x.2 →
    ∃ (v : α) (F : List Nat), (∀ R, VRep R w (enc v) cs F) ∧ (enc v).length = n ∧ (∀ b ∈ F, b < w.heap.size) ∧ q v

theorem Op.int {P : Program} {t : TypeId} {k : IntKind} (hu : P.underlying t = some (.int k)) : Op P t 1 (fun n => [.v (.int k n)]) (fun n => (Lit.int k n).wf = true) := by
  intro H e w base held fuel cs x h _
  obtain ⟨n, rfl, _, hw⟩ := DataW.trod_int hu h
  exact ⟨n, [], fun R => .cons (.v _ rfl) .nil, rfl, by simp, hw⟩
theorem Op.bool {P : Program} {t : TypeId} (hu : P.underlying t = some .bool) : Op P t 1 (fun b => [.v (.bool b)]) (fun _ => True) := by
  intro H e w base held fuel cs x h _
  obtain ⟨n, rfl, _⟩ := DataW.trod_bool hu h
  exact ⟨n, [], fun R => .cons (.v _ rfl) .nil, rfl, by simp, trivial⟩
theorem Op.string {P : Program} {t : TypeId} (hu : P.underlying t = some .string) : Op P t 1 (fun b => [.v (.string b)]) (fun s => s.size ≤ maxLen) := by
  intro H e w base held fuel cs x h _
  obtain ⟨n, rfl, _, hw⟩ := DataW.trod_string hu h
  exact ⟨n, [], fun R => .cons (.v _ rfl) .nil, rfl, by simp, hw⟩

theorem pick_list {α : Type} {p : Nat → α → List Nat → Prop} : ∀ (n : Nat), (∀ i, i < n → ∃ v F, p i v F) → ∃ (l : List α) (Fs : List (List Nat)), l.length = n ∧ Fs.length = n ∧ ∀ i v F, l[i]? = some v → Fs[i]? = some F → p i v F
  | 0, _ => ⟨[], [], rfl, rfl, fun i v F h => by simp at h⟩
  | n + 1, h => by
    obtain ⟨l, Fs, hl, hFs, hp⟩ := pick_list n (fun i hi => h i (by omega))
    obtain ⟨v, F, hv⟩ := h n (by omega)
    refine ⟨l ++ [v], Fs ++ [F], by simp [hl], by simp [hFs], fun i u G hu hG => ?_⟩
    rcases Nat.lt_or_ge i n with hi | hi
    · rw [List.getElem?_append_left (by omega)] at hu hG
      exact hp i u G hu hG
    · have hlt := (List.getElem?_eq_some_iff.1 hu).1
      have : i = n := by simp [hl] at hlt; omega
      subst this
      rw [List.getElem?_append_right (by omega), hl] at hu
      rw [List.getElem?_append_right (by omega), hFs] at hG
      simp at hu hG
      subst hu hG
      exact hv

theorem VRep.at {R : Cell → Value → Prop} {w : World} {b : Nat} : ∀ {l vs F o}, VRep R w l vs F → (∀ j v, vs[j]? = some v → w.cell? ⟨b, o + j, none⟩ = some v) → Reps R w b o l F
  | _, _, _, o, .nil, _ => .nil _ _
  | _, _, _, o, .cons hr ht, h => .cons (by simpa using h 0 _ rfl) hr (VRep.at ht (fun j v hj => by have := h (j + 1) v (by simpa using hj); rwa [show o + (j + 1) = o + 1 + j by omega] at this))

theorem rows_at {α : Type} {R : Cell → Value → Prop} {w : World} {b z : Nat} {enc : α → List Cell} : ∀ {l : List α} {Fs : List (List Nat)} {o : Nat}, Fs.length = l.length →
    (∀ i v F, l[i]? = some v → Fs[i]? = some F → ∃ cs, VRep R w (enc v) cs F ∧ cs.length = z ∧ ∀ j u, cs[j]? = some u → w.cell? ⟨b, o + i * z + j, none⟩ = some u) → Reps R w b o (l.map enc).flatten Fs.flatten
  | [], [], o, _, _ => .nil _ _
  | [], F :: Fs, o, h, _ => by simp at h
  | v :: l, [], o, h, _ => by simp at h
  | v :: l, F :: Fs, o, hl, h => by
    obtain ⟨cs, h1, h2, h3⟩ := h 0 v F rfl rfl
    have hlen : (enc v).length = z := by rw [← h2, h1.length]
    simp only [List.map_cons, List.flatten_cons]
    refine Reps.append (h1.at (fun j u hj => by simpa using h3 j u hj)) (rows_at (z := z) (by simpa using hl) (fun i v' F' hv hF => ?_))
    obtain ⟨cs', k1, k2, k3⟩ := h (i + 1) v' F' (by simpa using hv) (by simpa using hF)
    refine ⟨cs', k1, k2, fun j u hj => ?_⟩
    rw [← k3 j u hj, hlen, Nat.succ_mul]
    congr 2; omega

theorem addr_add (b o k : Nat) : (⟨b, o, none⟩ : Addr).add k = ⟨b, o + k, none⟩ := by unfold Addr.add; split <;> simp_all
theorem Op.slice {α : Type} {P : Program} {t e : TypeId} {z : Nat} {enc : α → List Cell} {q : α → Prop} (hu : P.underlying t = some (.slice e)) (hsz : P.cellsOf e = z) (hz : 0 < z) (h : Op P e z enc q) :
    Op P t 1 (fun l : List α => [.own z (l.map enc)]) (fun l => l.length ≤ maxLen ∧ ∀ x ∈ l, q x) := by
  intro H en w base held fuel cs x hx hfz
  rcases open_slice hu hx with ⟨rfl, _⟩ | ⟨a, len, cap, m, n, D, Pl, rfl, _, hl, hm, hmm, rfl, hel⟩
  · exact ⟨[], [], fun R => .cons (.nil _ _) .nil, rfl, by simp, by simp, fun x hx => by simp at hx⟩
  · have hmc : m = cap := by simpa using hmm
    subst hmc
    rw [hsz] at hel
    by_cases hc0 : m = 0
    · subst hc0
      have : len = 0 := by omega
      subst this
      exact ⟨[], [], fun R => .cons (.nil _ _) .nil, rfl, by simp, by simp, fun x hx => by simp at hx⟩
    have hcell : ∀ i, i < m → ∀ j, j < z → ∃ u, w.cell? (a.add (i * z + j)) = some u := by
      intro i hi j hj
      obtain ⟨cs', h1, h2⟩ := hel i hi
      obtain ⟨_, hlen, hcell⟩ := World.cells?_some h1
      refine ⟨cs'[j]'(by omega), ?_⟩
      have := hcell j hj
      rw [List.getElem?_eq_getElem (by omega)] at this
      rwa [Go.Deep.add_add] at this
    obtain ⟨ab, ao, asp⟩ := a
    have hsp : asp = none := by
      obtain ⟨u, hu⟩ := hcell 0 (by omega) 0 hz
      simp only [World.cell?, Addr.add] at hu
      cases asp with
      | none => rfl
      | some s => exfalso; revert hu; split <;> simp
    subst hsp
    have hadd : ∀ o k, (⟨ab, o, none⟩ : Addr).add k = ⟨ab, o + k, none⟩ := fun o k => addr_add _ _ _
    obtain ⟨arr, el, fr, hb, hsize⟩ : ∃ arr el fr, w.heap[ab]? = some (.cells arr el fr) ∧ ao + m * z ≤ arr.size := by
      obtain ⟨u, hu⟩ := hcell (m - 1) (by omega) (z - 1) (by omega)
      rw [hadd] at hu
      simp only [World.cell?] at hu
      split at hu
      · rename_i c el fr hb
        simp at hu
        have h1 := (Array.getElem?_eq_some_iff.1 hu).1
        have h2 : (m - 1) * z + z = m * z := by rw [← Nat.succ_mul]; congr 1; omega
        exact ⟨c, el, fr, hb, by omega⟩
      · cases hu
    have hun : ∀ o, ao ≤ o → o < ao + m * z → ¬ (fr.1 ≤ o ∧ o < fr.2) := by
      intro o h1 h2
      have := hfz ab o (List.mem_append.2 (.inl (List.mem_map.2 ⟨o - ao, List.mem_range.2 (by rw [hsz]; omega), by show MemPlace.cell ab (ao + (o - ao)) = _; congr 1; omega⟩)))
      simp only [World.frozen?, hb] at this
      simpa using this
    obtain ⟨l, Fs, hll, hFl, hp⟩ := pick_list (p := fun i v F => (∀ R, ∃ cs, VRep R w (enc v) cs F ∧ cs.length = z ∧ ∀ j u, cs[j]? = some u → w.cell? ⟨ab, ao + i * z + j, none⟩ = some u) ∧ (enc v).length = z ∧ (∀ b ∈ F, b < w.heap.size) ∧ q v) len (fun i hi => by
      obtain ⟨cs', h1, h2⟩ := hel i (by omega)
      obtain ⟨_, hlen, hcl⟩ := World.cells?_some h1
      obtain ⟨v, F, k1, k2, k3, k4⟩ := h H en w base held n cs' _ h2 (fun b off hm => hfz b off (List.mem_append.2 (.inr (List.mem_flatMap.2 ⟨i, List.mem_range.2 (by omega), hm⟩))))
      refine ⟨v, F, fun R => ⟨cs', k1 R, hlen, fun j u hj => ?_⟩, k2, k3, k4⟩
      have hjl := (List.getElem?_eq_some_iff.1 hj).1
      have := hcl j (by omega)
      rw [hj, hadd, hadd] at this
      exact this)
    subst hll
    have hq : ∀ i v, l[i]? = some v → ∃ F, Fs[i]? = some F := fun i v hv => by
      have := (List.getElem?_eq_some_iff.1 hv).1
      exact ⟨_, List.getElem?_eq_getElem (by omega)⟩
    refine ⟨l, ab :: Fs.flatten ++ [], fun R => .cons ?_ .nil, rfl, ?_, Nat.le_trans hl hm, fun x hx => ?_⟩
    · have := Rep.own (R := R) (w := w) (els := l.map enc) (cap := m) (z := z) hz hb hun (fun row hr => ?_) (by simpa using hl) hsize (rows_at hFl (fun i v F hv hF => (hp i v F hv hF).1 R))
      · simpa using this
      · obtain ⟨v, hv, rfl⟩ := List.mem_map.1 hr
        obtain ⟨i, hi⟩ := List.getElem?_of_mem hv
        obtain ⟨F, hF⟩ := hq i v hi
        exact (hp i v F hi hF).2.1
    · intro b hbm
      simp only [List.append_nil, List.mem_cons, List.mem_flatten] at hbm
      rcases hbm with rfl | ⟨F, hF, hbF⟩
      · exact (Array.getElem?_eq_some_iff.1 hb).1
      · obtain ⟨i, hi⟩ := List.getElem?_of_mem hF
        have := (List.getElem?_eq_some_iff.1 hi).1
        exact (hp i _ F (List.getElem?_eq_getElem (by omega)) hi).2.2.1 b hbF
    · obtain ⟨i, hi⟩ := List.getElem?_of_mem hx
      obtain ⟨F, hF⟩ := hq i x hi
      exact (hp i x F hi hF).2.2.2

end Go.Px


namespace Go.Px
open Go.RowKit Go.Deep
set_option linter.unusedVariables false
set_option linter.unusedSimpArgs false

/-- Fields from a place on, read as cells. -/
def OpF {α : Type} (P : Program) (fs : List Field) (off n : Nat) (enc : α → List Cell) (q : α → Prop) : Prop :=
  ∀ (H : Type) (e : TypeId × Value → H) (w : World) (base : Nat) (held : Bool) (fuel : Nat) (cs : List Value), cs.length = off + n →
    (∀ f ∈ fs, ∃ y, DataW.trod e P w base (fun _ => true) held fuel f.type ((cs.drop f.offset).take (P.cellsOf f.type)) = some y ∧ w.noneFrozen y.2) →
    ∃ (v : α) (F : List Nat), (∀ R, VRep R w (enc v) (cs.drop off) F) ∧ (enc v).length = n ∧ (∀ b ∈ F, b < w.heap.size) ∧ q v
theorem OpF.one {α : Type} {P : Program} {f : Field} {off n : Nat} {enc : α → List Cell} {q : α → Prop} (ho : f.offset = off) (hsz : P.cellsOf f.type = n) (h : Op P f.type n enc q) : OpF P [f] off n enc q := by
  intro H e w base held fuel cs hl hf
  obtain ⟨y, hy, hz⟩ := hf f (by simp)
  rw [ho, hsz, List.take_of_length_le (by rw [List.length_drop]; omega)] at hy
  exact h H e w base held fuel _ y hy hz
theorem OpF.cons {α β : Type} {P : Program} {f : Field} {fs : List Field} {off off' n n' : Nat} {enc : α → List Cell} {enc' : β → List Cell} {q : α → Prop} {q' : β → Prop} (ho : f.offset = off) (hsz : P.cellsOf f.type = n) (h : Op P f.type n enc q) (he : off' = off + n) (h' : OpF P fs off' n' enc' q') :
    OpF P (f :: fs) off (n + n') (fun p : α × β => enc p.1 ++ enc' p.2) (fun p => q p.1 ∧ q' p.2) := by
  intro H e w base held fuel cs hl hf
  subst he
  obtain ⟨y, hy, hz⟩ := hf f (by simp)
  rw [ho, hsz] at hy
  obtain ⟨v, F, k1, k2, k3, k4⟩ := h H e w base held fuel _ y hy hz
  obtain ⟨v', F', m1, m2, m3, m4⟩ := h' H e w base held fuel cs (by omega) (fun g hg => hf g (by simp [hg]))
  refine ⟨(v, v'), F ++ F', fun R => ?_, by simp [k2, m2], fun b hb => ?_, k4, m4⟩
  · have := (k1 R).append (m1 R)
    rwa [← List.drop_drop, List.take_append_drop] at this
  · rcases List.mem_append.1 hb with hb | hb
    · exact k3 b hb
    · exact m3 b hb
theorem Op.struct {α β : Type} {P : Program} {t : TypeId} {fs : Array Field} {n : Nat} {enc : α → List Cell} {enc' : β → List Cell} {q : α → Prop} {q' : β → Prop} (g : α → β) (hu : P.underlying t = some (.struct fs)) (hsz : P.cellsOf t = n) (hg : ∀ a, enc' (g a) = enc a) (hq : ∀ a, q a → q' (g a)) (h : OpF P fs.toList 0 n enc q) :
    Op P t n enc' q' := by
  intro H e w base held fuel cs x hx hz
  obtain ⟨xs, m, _, rfl, hlen, hxl, hf⟩ := DataW.trod_struct hu hx
  obtain ⟨v, F, k1, k2, k3, k4⟩ := h H e w base held m cs (by omega) (fun f hm => by
    obtain ⟨i, hi⟩ := List.getElem?_of_mem hm
    have hi' : fs[i]? = some f := by simpa using hi
    have hil : i < fs.size := (Array.getElem?_eq_some_iff.1 hi').1
    have hil' : i < xs.length := by omega
    refine ⟨xs[i], (hf i f hi').trans (List.getElem?_eq_getElem hil'), fun b off hb => hz b off ?_⟩
    exact List.mem_flatMap.2 ⟨xs[i], List.getElem_mem hil', hb⟩)
  exact ⟨g v, F, fun R => by rw [hg]; simpa using k1 R, by rw [hg]; exact k2, k3, hq _ k4⟩

/-- arrays that come in: each a root of its own, shared -/
def refs : Nat → List Cell → List Cell
  | _, [] => []
  | k, .own z els :: t => .sl (0, k) [] z 0 els.length :: refs (k + 1) t
  | k, c :: t => c :: refs (k + 1) t
def roots : Nat → List Cell → HH
  | _, [] => []
  | k, .own z els :: t => ((0, k), .own z els) :: roots (k + 1) t
  | k, c :: t => roots (k + 1) t
def noRef (l : List Cell) : Bool := l.all fun c => !isRef c

theorem roots_holds {g : Nat} {R : Cell → Value → Prop} {w : World} {β : Nm → Value} : ∀ {l : List Cell} {vs : List Value} {F : List Nat} {k : Nat}, VRep R w l vs F → (∀ b ∈ F, b < g) → (∀ j v, vs[j]? = some v → β (0, k + j) = v) → Holds g R w β (roots k l) []
  | [], _, _, k, .nil, _, _ => .nil
  | c :: t, _, _, k, .cons (x := x) (F := F1) (xs := xs) hr ht, hg, hβ => by
    have ih := roots_holds (k := k + 1) ht (fun b hb => hg b (by simp [hb])) (fun j v hj => by rw [← hβ (j + 1) v (by simpa using hj)]; congr 2; omega)
    have h0 := hβ 0 x rfl
    cases c with
    | own z els => exact .sh rfl (by rw [show ((0, k) : Nm) = (0, k + 0) from rfl, h0]; exact hr) (fun b hb => hg b (by simp [hb])) ih
    | _ => exact ih

theorem refs_rep {R R' : Cell → Value → Prop} {w : World} {β : Nm → Value} {H : HH} : ∀ {l : List Cell} {vs : List Value} {F : List Nat} {k : Nat}, noRef l = true → VRep R w l vs F → (∀ j v, vs[j]? = some v → β (0, k + j) = v) → (∀ j z els, l[j]? = some (.own z els) → look H (0, k + j) = some (.own z els)) →
    VRep (VP w β H) w (refs k l) vs []
  | [], _, _, k, _, .nil, _, _ => .nil
  | c :: t, _, _, k, hn, .cons (x := x) (F := F1) (xs := xs) hr ht, hβ, hl => by
    simp only [noRef, List.all_cons, Bool.and_eq_true] at hn
    have ih := refs_rep (R := R) (R' := R') (β := β) (H := H) (k := k + 1) hn.2 ht (fun j v hj => by rw [← hβ (j + 1) v (by simpa using hj)]; congr 2; omega) (fun j z els hj => by rw [← hl (j + 1) z els (by simpa using hj)]; congr 2; omega)
    have h0 := hβ 0 x rfl
    cases c with
    | own z els =>
      have hlk := hl 0 z els rfl
      refine VRep.cons (F := []) (.ref rfl hr.flat ?_) ih
      refine ⟨.own z els, els, x, hlk, rfl, by simp [hdr]; exact h0, by simp, ?_⟩
      cases hr with
      | ref hi => simp [isRef] at hi
      | nil z A => exact .inr ⟨rfl, A, rfl, _, _, rfl⟩
      | @own _ b off cap _ arr el fr F hz hb hfr hr hl hs hreps => exact .inl ⟨b, off, _, cap, cap, rfl, by simp, hl, by omega⟩
    | v y =>
      cases hr with
      | v _ h => exact VRep.cons (F := []) (.v _ h) ih
      | ref hi => simp [isRef] at hi
    | x =>
      cases hr with
      | x _ h => exact VRep.cons (F := []) (.x _ h) ih
      | ref hi => simp [isRef] at hi
    | sl => simp [isRef] at hn
    | pt => simp [isRef] at hn
    | fn => simp [isRef] at hn

/-- a function run on what came in, whose answer is one value -/
theorem PCalls.close {P : Program} {f : FuncId} {args : List T} {H : HH} {w : World} {β : Nm → Value} {vs : List Value} {y : Value} (h : PFun P f args H (.c (.v y))) (hh : Holds w.heap.size (VP w β H) w β H []) (ht : TReps (VP w β H) w args vs []) :
    Calls P f vs.toArray w fun en w' => en = .returned y ∧ Below w.heap.size w w' := by
  refine (h w.heap.size w β [] [] vs ⟨Nat.le_refl _, Pl.top w⟩ hh ht (by simp) (by simp)).mono fun en w' hr => ?_
  obtain ⟨x, T, H', lg, F', FT, rfl, ⟨rfl, rfl, rfl⟩, -, hrep, -, hext, -⟩ := hr
  cases hrep with
  | c hr =>
    cases hr with
    | v h => exact ⟨rfl, hext.os, hext.tape, hext.output, hext.size.1, fun k hk => hext.same k hk (by simp)⟩
    | ref hi => simp [isRef] at hi

end Go.Px


namespace Go.Px
theorem cget_append : ∀ {p q : Path} {c : Cell}, c.get (p ++ q) = (c.get p).bind (Cell.get q)
  | [], q, c => rfl
  | (i, f) :: p, q, c => by
    cases c with
    | own z els =>
      simp only [List.cons_append, Cell.get]
      cases h : els[i]?.bind (·[f]?) with
      | none => rfl
      | some c' => exact cget_append
    | _ => rfl
theorem arrAt_sub {H : HH} {r : Nm} {q : Path} {z i f : Nat} {rows : List (List Cell)} {row : List Cell} {z' : Nat} {els : List (List Cell)} (h : arrAt H r q = some (z, rows)) (hi : rows[i]? = some row) (hf : row[f]? = some (.own z' els)) : arrAt H r (q ++ [(i, f)]) = some (z', els) := by
  obtain ⟨c, h1, h2⟩ := arrAt_iff.1 h
  exact arrAt_iff.2 ⟨c, h1, by rw [cget_append, h2]; simp [Cell.get, hi, hf]⟩
/-- rows filled up to the i-th; the others are z -/
def fill {α : Type} (enc : α → List Cell) (z : List Cell) (l : List α) (i : Nat) : List (List Cell) := (l.take i).map enc ++ List.replicate (l.length - i) z
section
variable {α : Type} {enc : α → List Cell} {z : List Cell} {l : List α} {i : Nat}
@[simp] theorem fill_length : (fill enc z l i).length = l.length := by simp [fill]; omega
theorem fill_get (h : i < l.length) : (fill enc z l i)[i]? = some z := by
  unfold fill
  have hl : ((l.take i).map enc).length = i := by simp; omega
  rw [List.getElem?_append_right (by omega), hl, Nat.sub_self, List.getElem?_replicate, if_pos (by omega)]
@[simp] theorem fill_at (h : i < (fill enc z l i).length) : (fill enc z l i)[i] = z := by
  have h' : i < l.length := by simpa using h
  have := fill_get (enc := enc) (z := z) h'
  rw [List.getElem?_eq_getElem h] at this
  simpa using this
end
end Go.Px


namespace Go.Px
set_option linter.unusedVariables false
set_option linter.unusedSimpArgs false

/-- rows in which no reference is one of which K speaks -/
def CleanRows (K : Cell → Prop) (els : List (List Cell)) : Prop := ∀ row ∈ els, cells1 K row
section
variable {K : Cell → Prop} {z i n : Nat} {els rows rows' : List (List Cell)} {r row : List Cell}
theorem Clean_ownR : Clean K (.own z els) ↔ CleanRows K els := by rw [Clean_own]; rfl
theorem CleanRows_nil : CleanRows K [] ↔ True := by simp [CleanRows]
theorem CleanRows_cons : CleanRows K (r :: rows) ↔ cells1 K r ∧ CleanRows K rows := by simp [CleanRows]
theorem CleanRows_append : CleanRows K (rows ++ rows') ↔ CleanRows K rows ∧ CleanRows K rows' := by
  simp only [CleanRows, List.mem_append]
  exact ⟨fun h => ⟨fun r hr => h r (.inl hr), fun r hr => h r (.inr hr)⟩, fun h r hr => hr.elim (h.1 r) (h.2 r)⟩
theorem CleanRows_map {α : Type} {enc : α → List Cell} {l : List α} : CleanRows K (l.map enc) ↔ ∀ x ∈ l, cells1 K (enc x) := by simp [CleanRows]
theorem CleanRows_replicate (h : cells1 K r) : CleanRows K (List.replicate n r) ↔ True := by
  simp only [CleanRows, iff_true]
  intro x hx; rw [List.eq_of_mem_replicate hx]; exact h
theorem CleanRows_set (h1 : CleanRows K rows) (h2 : cells1 K r) : CleanRows K (rows.set i r) ↔ True := by
  simp only [CleanRows, iff_true]
  intro x hx
  rcases List.mem_or_eq_of_mem_set hx with h | rfl
  · exact h1 x h
  · exact h2
theorem CleanRows_take (h1 : CleanRows K rows) : CleanRows K (rows.take i) ↔ True := by
  simp only [CleanRows, iff_true]; exact fun x hx => h1 x (List.mem_of_mem_take hx)
theorem CleanRows_drop (h1 : CleanRows K rows) : CleanRows K (rows.drop i) ↔ True := by
  simp only [CleanRows, iff_true]; exact fun x hx => h1 x (List.mem_of_mem_drop hx)
theorem CleanRows.at (h : CleanRows K rows) (hi : i < rows.length) : cells1 K rows[i] := h _ (List.getElem_mem hi)
theorem CleanRows_fill {α : Type} {enc : α → List Cell} {zr : List Cell} {l : List α} (h1 : CleanRows K (l.map enc)) (h2 : cells1 K zr) : CleanRows K (fill enc zr l i) ↔ True := by
  rw [CleanRows_map] at h1
  simp only [iff_true]
  unfold fill
  rw [CleanRows_append]
  refine ⟨CleanRows_map.2 fun x hx => h1 x (List.mem_of_mem_take hx), (CleanRows_replicate h2).2 trivial⟩
end

attribute [simp] Clean_ownR CleanRows_nil CleanRows_cons CleanRows_append CleanRows_map CleanRows_replicate CleanRows_set CleanRows_take CleanRows_drop CleanRows_fill

theorem setA_cons (s : Nm) (c0 : Cell) (t : HH) (r : Nm) (q : Path) (c : Cell) : setA ((s, c0) :: t) r q c = if s = r then (s, Cell.set c q c0) :: t else (s, c0) :: setA t r q c := by
  unfold setA
  by_cases h : s = r
  · simp [look, putH, h]
  · simp only [look, putH, if_neg h]
    cases look t r <;> rfl
theorem look_putH {r r' c} : ∀ {H : HH}, look (putH H r c) r' = if r = r' then (look H r').map (fun _ => c) else look H r'
  | [] => by simp [putH, look]
  | (s, d) :: t => by
    by_cases e : s = r
    · subst e
      by_cases e' : s = r'
      · simp [putH, look, e']
      · simp [putH, look, e']
    · by_cases e' : s = r'
      · subst e'
        simp [putH, look, e, Ne.symm e]
      · simp only [putH, look, e, e', if_false]; rw [look_putH]
theorem look_setA_none {H : HH} {r x : Nm} {q : Path} {c : Cell} : look (setA H r q c) x = none ↔ look H x = none := by
  unfold setA
  cases h : look H r with
  | none => simp
  | some co =>
    simp only [look_putH]
    split
    · simp
    · rfl
theorem CleanH_setA {K : Cell → Prop} {H : HH} {r : Nm} {q : Path} {c : Cell} (h : CleanH K H) (hc : Clean K c) : CleanH K (setA H r q c) := by
  unfold setA
  split
  · rename_i co hl
    intro en he
    rcases mem_putH he with h' | rfl
    · exact h en h'
    · exact Clean.setc hc (h _ (look_mem hl))
  · exact h
theorem outH_putH {d : Nat} {r : Nm} {c : Cell} (hr : r.1 ≠ d) : ∀ {H : HH}, outH d H = H → outH d (putH H r c) = putH H r c
  | [], h => rfl
  | (s, c0) :: t, h => by
    rw [outH_cons] at h
    by_cases hs : s.1 = d
    · rw [if_pos hs] at h
      have := congrArg List.length h
      have hl : (outH d t).length ≤ t.length := List.length_filter_le _ _
      rw [List.length_cons] at this
      omega
    · rw [if_neg hs] at h
      have h' : outH d t = t := by simpa using h
      by_cases e : s = r
      · simp only [putH, e, if_true, outH_cons, if_neg hr, h']
      · simp only [putH, e, if_false, outH_cons, if_neg hs, outH_putH hr h']
theorem outH_setA {d : Nat} {H : HH} {r : Nm} {q : Path} {c : Cell} (h : outH d H = H) (hr : ¬ r.1 = d) : outH d (setA H r q c) = setA H r q c := by
  unfold setA
  split
  · exact outH_putH hr h
  · exact h
/-- cells written one by one at the face of an array -/
theorem take_len_map {α β : Type} (f : α → β) (l : List α) : List.take l.length (List.map f l) = List.map f l := List.take_of_length_le (by simp)
theorem take_next {α β : Type} {f : α → β} {l : List α} {i : Nat} (h : i < l.length) : List.take (i + 1) (List.map f l) = List.take i (List.map f l) ++ [f l[i]] := by
  rw [List.take_succ_eq_append_getElem (by simpa using h)]; simp
attribute [simp] take_len_map
attribute [simp] setA_cons look_setA_none
attribute [simp] StoreSeq_cons StoreSeq_nil

/-- A call that hands back x and leaves H' of what was there. -/
def PUpd (P : Program) (f : FuncId) (args : List T) (H : HH) (x : T) (H' : HH) : Prop := PCalls P f args H (fun T H1 lg => T = x ∧ H1 = H' ∧ lg = [])
theorem PUpd.useCK {P f args H x H' d} {KP : St → Prop} {t' o lg0} (h : PUpd P f args H x H') (hq : KP ⟨putD t' o x, H', lg0⟩) : PCalls P f args H (CK d KP t' o lg0) :=
  h.mono (by rintro T1 H1 lg ⟨rfl, rfl, rfl⟩; rw [CK_nil]; exact hq)
theorem PFun.upd {P f args H x} (h : PFun P f args H x) : PUpd P f args H x H := h
/-- entry, for code that is looked at by PCode -/
theorem PUpd.of {P : Program} {f : FuncId} {fn : Func} {c : Code} {args : List T} {H H' : HH} {x : T} (kv : List Nat) (hf : P.funcs[f]? = some fn) (hb : fn.body = some c) (hN : args.length ≤ fn.ntmps)
    (h : ∀ d, d ≠ 0 → (∀ n, look H (d, n) = none) → CleanH (atD d) H → outH d H = H → PCode ⟨P, d, fn.ntmps⟩ kv c { t := enumT 0 args, H := H, lg := [] } (retK P d fn.results.toList (fun T H1 lg => T = x ∧ H1 = H' ∧ lg = []))) : PUpd P f args H x H' := by
  refine PCalls.of_code hf hb hN (fun d hd hfr hcl => PCode.sound (h d hd (fun n => ?_) hcl ?_))
  · cases hl : look H (d, n) with
    | none => rfl
    | some c => exact absurd rfl (hfr _ (look_mem hl))
  · unfold outH
    rw [List.filter_eq_self]
    intro e he
    simpa using hfr e he
end Go.Px


namespace Go.Px
set_option linter.unusedVariables false
set_option linter.unusedSimpArgs false

/- how many elements the arrays of a tree have, in all -/
mutual
def cntC : Cell → Nat
  | .own _ els => els.length + cntRs els
  | _ => 0
def cntR : List Cell → Nat
  | [] => 0
  | c :: cs => cntC c + cntR cs
def cntRs : List (List Cell) → Nat
  | [] => 0
  | r :: rs => cntR r + cntRs rs
end
/- how many scalars there are -/
mutual
def lvC : Cell → Nat
  | .own _ els => lvRs els
  | .v _ => 1
  | _ => 0
def lvR : List Cell → Nat
  | [] => 0
  | c :: cs => lvC c + lvR cs
def lvRs : List (List Cell) → Nat
  | [] => 0
  | r :: rs => lvR r + lvRs rs
end
/-- what a mark is -/
def mkV (k : Int) : Value → Value
  | .int .i64 _ => .int .i64 k
  | .int kd _ => .int kd (kd.wrap k)
  | .bool _ => .bool (decide (k.tmod 3 = 0))
  | v => v
mutual
def mkC (k : Int) : Cell → Cell
  | .own z els => .own z (mkRs k els)
  | .v x => .v (mkV k x)
  | c => c
def mkR (k : Int) : List Cell → List Cell
  | [] => []
  | c :: cs => mkC k c :: mkR (k + lvC c) cs
def mkRs (k : Int) : List (List Cell) → List (List Cell)
  | [] => []
  | r :: rs => mkR k r :: mkRs (k + lvR r) rs
end
/-- a struct's own scalars are not marked -/
def mkS (k : Int) : List Cell → List Cell
  | [] => []
  | .own z els :: cs => .own z (mkRs k els) :: mkS (k + lvRs els) cs
  | c :: cs => c :: mkS k cs
def lvS : List Cell → Nat
  | [] => 0
  | .own z els :: cs => lvRs els + lvS cs
  | _ :: cs => lvS cs

section
variable {k : Int} {z i : Nat} {rows : List (List Cell)} {r row : List Cell} {c : Cell}
theorem cntC_own {els} : cntC (.own z els) = els.length + cntRs els := by simp [cntC]
theorem cntC_v {x} : cntC (.v x) = 0 := by simp [cntC]
theorem cntR_nil : cntR [] = 0 := by simp [cntR]
theorem cntR_cons : cntR (c :: r) = cntC c + cntR r := by simp [cntR]
theorem lvC_own {els} : lvC (.own z els) = lvRs els := by simp [lvC]
theorem lvC_v {x} : lvC (.v x) = 1 := by simp [lvC]
theorem lvR_nil : lvR [] = 0 := by simp [lvR]
theorem lvR_cons : lvR (c :: r) = lvC c + lvR r := by simp [lvR]
theorem mkC_own {els} : mkC k (.own z els) = .own z (mkRs k els) := by simp [mkC]
theorem mkC_v {x} : mkC k (.v x) = .v (mkV k x) := by simp [mkC]
theorem mkR_nil : mkR k [] = [] := by simp [mkR]
theorem mkR_cons : mkR k (c :: r) = mkC k c :: mkR (k + lvC c) r := by simp [mkR]
theorem cntRs_take (hi : i < rows.length) : cntRs (rows.take (i + 1)) = cntRs (rows.take i) + cntR rows[i] := by
  induction rows generalizing i with
  | nil => simp at hi
  | cons r rs ih =>
    cases i with
    | zero => simp [cntRs]
    | succ i => simp [cntRs, ih (i := i) (by simpa using hi)]; omega
theorem lvRs_take (hi : i < rows.length) : lvRs (rows.take (i + 1)) = lvRs (rows.take i) + lvR rows[i] := by
  induction rows generalizing i with
  | nil => simp at hi
  | cons r rs ih =>
    cases i with
    | zero => simp [lvRs]
    | succ i => simp [lvRs, ih (i := i) (by simpa using hi)]; omega
theorem cntRs_split : cntRs rows = cntRs (rows.take i) + cntRs (rows.drop i) := by
  induction rows generalizing i with
  | nil => simp [cntRs]
  | cons r rs ih =>
    cases i with
    | zero => simp [cntRs]
    | succ i => simp [cntRs, ih (i := i)]; omega
theorem lvRs_split : lvRs rows = lvRs (rows.take i) + lvRs (rows.drop i) := by
  induction rows generalizing i with
  | nil => simp [lvRs]
  | cons r rs ih =>
    cases i with
    | zero => simp [lvRs]
    | succ i => simp [lvRs, ih (i := i)]; omega
theorem cntRs_all (h : rows.length ≤ i) : cntRs (rows.take i) = cntRs rows := by rw [List.take_of_length_le h]
theorem lvRs_all (h : rows.length ≤ i) : lvRs (rows.take i) = lvRs rows := by rw [List.take_of_length_le h]
theorem lvRs_le : lvRs (rows.take i) ≤ lvRs rows := by have := lvRs_split (rows := rows) (i := i); omega
theorem cntR_mem (h : r ∈ rows) : cntR r ≤ cntRs rows := by
  induction rows with
  | nil => simp at h
  | cons r' rs ih =>
    simp only [cntRs]
    rcases List.mem_cons.1 h with rfl | h
    · omega
    · have := ih h; omega
theorem cntRs_zero (h : ∀ r ∈ rows, cntR r = 0) : cntRs rows = 0 := by
  induction rows with
  | nil => simp [cntRs]
  | cons r rs ih => simp [cntRs, h r (by simp), ih (fun r hr => h r (by simp [hr]))]
theorem lvRs_bound {n : Nat} (h : ∀ r ∈ rows, lvR r ≤ n) : lvRs rows ≤ n * rows.length := by
  induction rows with
  | nil => simp [lvRs]
  | cons r rs ih =>
    have h1 := h r (by simp)
    have h2 := ih (fun r hr => h r (by simp [hr]))
    simp [lvRs, Nat.mul_succ]; omega
theorem mkRs_length : ∀ {rows : List (List Cell)} {k : Int}, (mkRs k rows).length = rows.length
  | [], k => by simp [mkRs]
  | r :: rs, k => by simp [mkRs, mkRs_length (rows := rs)]
theorem mkRs_get (hi : i < rows.length) : (mkRs k rows)[i]? = some (mkR (k + lvRs (rows.take i)) rows[i]) := by
  induction rows generalizing i k with
  | nil => simp at hi
  | cons r rs ih =>
    cases i with
    | zero => simp [mkRs, lvRs]
    | succ i =>
      have := ih (i := i) (k := k + lvR r) (by simpa using hi)
      simp only [mkRs, List.getElem?_cons_succ, this, lvRs, List.take_succ_cons, List.getElem_cons_succ]
      congr 2
      push_cast
      omega
/-- rows marked up to the i-th -/
def mkTo (k : Int) (rows : List (List Cell)) (i : Nat) : List (List Cell) := mkRs k (rows.take i) ++ rows.drop i
theorem mkTo_zero : mkTo k rows 0 = rows := by simp [mkTo, mkRs]
theorem mkTo_all (h : rows.length ≤ i) : mkTo k rows i = mkRs k rows := by simp [mkTo, List.take_of_length_le h, List.drop_eq_nil_of_le h]
theorem mkTo_length : (mkTo k rows i).length = rows.length := by simp [mkTo, mkRs_length]; omega
theorem mkTo_at (hi : i < rows.length) : (mkTo k rows i)[i]? = some rows[i] := by
  unfold mkTo
  rw [List.getElem?_append_right (by simp [mkRs_length]; omega)]
  simp [mkRs_length, Nat.min_eq_left (Nat.le_of_lt hi), hi]
theorem mkTo_set (hi : i < rows.length) : (mkTo k rows i).set i (mkR (k + lvRs (rows.take i)) rows[i]) = mkTo k rows (i + 1) := by
  apply List.ext_getElem?
  intro j
  rw [List.getElem?_set]
  split
  · rename_i e
    subst e
    simp only [mkTo_length, hi, if_true]
    unfold mkTo
    rw [List.getElem?_append_left (by simp [mkRs_length]; omega), mkRs_get (by simp; omega)]
    simp [List.take_take, Nat.min_eq_left (Nat.le_succ i)]
  · rename_i e
    unfold mkTo
    by_cases hj : j < i
    · rw [List.getElem?_append_left (by simp [mkRs_length]; omega), List.getElem?_append_left (by simp [mkRs_length]; omega), mkRs_get (by simp; omega), mkRs_get (by simp; omega)]
      simp [List.take_take, Nat.min_eq_left (Nat.le_of_lt hj), Nat.min_eq_left (Nat.le_of_lt (Nat.lt_succ_of_lt hj))]
    · rw [List.getElem?_append_right (by simp [mkRs_length]; omega), List.getElem?_append_right (by simp [mkRs_length]; omega)]
      simp only [mkRs_length, List.length_take, List.getElem?_drop]
      rw [Nat.min_eq_left (Nat.le_of_lt hi), Nat.min_eq_left (by omega)]
      congr 1; omega
/-- rows filled in up to the i-th -/
def upTo (z : List Cell) (rows : List (List Cell)) (i : Nat) : List (List Cell) := rows.take i ++ List.replicate (rows.length - i) z
theorem upTo_zero : upTo r rows 0 = List.replicate rows.length r := by simp [upTo]
theorem upTo_all (h : rows.length ≤ i) : upTo r rows i = rows := by simp [upTo, List.take_of_length_le h, Nat.sub_eq_zero_of_le h]
theorem upTo_length : (upTo r rows i).length = rows.length := by simp [upTo]; omega
theorem upTo_at (hi : i < rows.length) : (upTo r rows i)[i]? = some r := by
  unfold upTo
  rw [List.getElem?_append_right (by simp; omega)]
  simp only [List.length_take, Nat.min_eq_left (Nat.le_of_lt hi), Nat.sub_self, List.getElem?_replicate]
  rw [if_pos (by omega)]
theorem upTo_set (hi : i < rows.length) : (upTo r rows i).set i rows[i] = upTo r rows (i + 1) := by
  apply List.ext_getElem?
  intro j
  rw [List.getElem?_set]
  split
  · rename_i e
    subst e
    simp only [upTo_length, hi, if_true]
    unfold upTo
    rw [List.getElem?_append_left (by simp; omega)]
    simp [hi]
  · rename_i e
    unfold upTo
    by_cases hj : j < i
    · rw [List.getElem?_append_left (by simp; omega), List.getElem?_append_left (by simp; omega)]
      simp [List.getElem?_take, hj, Nat.lt_succ_of_lt hj]
    · rw [List.getElem?_append_right (by simp; omega), List.getElem?_append_right (by simp; omega)]
      simp only [List.length_take, List.getElem?_replicate]
      have e1 : min i rows.length = i := Nat.min_eq_left (Nat.le_of_lt hi)
      have e2 : min (i + 1) rows.length = i + 1 := Nat.min_eq_left hi
      rw [e1, e2]
      by_cases hj2 : j - i < rows.length - i
      · rw [if_pos hj2, if_pos (by omega)]
      · rw [if_neg hj2, if_neg (by omega)]
theorem CleanRows_upTo {K : Cell → Prop} (h1 : CleanRows K rows) (h2 : cells1 K r) : CleanRows K (upTo r rows i) ↔ True := by
  simp only [iff_true]
  unfold upTo
  rw [CleanRows_append]
  exact ⟨fun x hx => h1 x (List.mem_of_mem_take hx), (CleanRows_replicate h2).2 trivial⟩
end
/-- rows that hold no reference at all -/
def Pure (rows : List (List Cell)) : Prop := ∀ K, CleanRows K rows
theorem Pure.of {rows : List (List Cell)} (h : ∀ r ∈ rows, ∀ K, cells1 K r) : Pure rows := fun K r hr => h r hr K

/-- a cell c' that stands for c: its array is meant by name -/
def RefC (H : HH) : Cell → Cell → Prop
  | .own z els, c' => ∃ r q, c' = .sl r q z 0 els.length ∧ arrAt H r q = some (z, els)
  | c, c' => c' = c
def Refs (H : HH) : List Cell → List Cell → Prop
  | [], [] => True
  | c :: cs, c' :: cs' => RefC H c c' ∧ Refs H cs cs'
  | _, _ => False
def szV (n : Nat) (left : Int) : Int := if (n : Int) ≤ left then left - n else -1
theorem szV_pos {n : Nat} {left : Int} (h : (n : Int) ≤ left) : szV n left = left - n := by simp [szV, h]
theorem szV_neg {n : Nat} {left : Int} (h : ¬ (n : Int) ≤ left) : szV n left = -1 := by simp [szV, h]
abbrev I (n : Int) : T := .c (.v (.int .i64 n))
abbrev B (b : Bool) : T := .c (.v (.bool b))
def okI64 (r : List Cell) : Prop := ∃ n, r = [.v (.int .i64 n)]
end Go.Px


namespace Go.Px
set_option linter.unnecessarySimpa false
set_option linter.unusedVariables false
set_option linter.unusedSimpArgs false
mutual
theorem mkC_clean {K : Cell → Prop} : ∀ {c : Cell} {k : Int}, Clean K c → Clean K (mkC k c)
  | .own z els, k, h => by rw [mkC_own, Clean_ownR]; exact mkRs_clean (Clean_ownR.1 h)
  | .v x, k, h => by rw [mkC_v]; exact Clean.v
  | .sl .., k, h => by simpa [mkC] using h
  | .pt .., k, h => by simpa [mkC] using h
  | .fn .., k, h => by simpa [mkC] using h
  | .x, k, h => by simpa [mkC] using h
theorem mkR_clean {K : Cell → Prop} : ∀ {r : List Cell} {k : Int}, cells1 K r → cells1 K (mkR k r)
  | [], k, h => by rw [mkR_nil]; exact h
  | c :: cs, k, h => by
    rw [mkR_cons]
    rw [cells1_cons] at h ⊢
    exact ⟨mkC_clean h.1, mkR_clean h.2⟩
theorem mkRs_clean {K : Cell → Prop} : ∀ {rs : List (List Cell)} {k : Int}, CleanRows K rs → CleanRows K (mkRs k rs)
  | [], k, h => by simp only [mkRs]; exact h
  | r :: rs, k, h => by
    simp only [mkRs]
    rw [CleanRows_cons] at h ⊢
    exact ⟨mkR_clean h.1, mkRs_clean h.2⟩
end
theorem cells1_append {K : Cell → Prop} {a b : List Cell} : cells1 K (a ++ b) ↔ cells1 K a ∧ cells1 K b := by
  simp only [cells1, List.mem_append]
  exact ⟨fun h => ⟨fun c hc => h c (.inl hc), fun c hc => h c (.inr hc)⟩, fun h c hc => hc.elim (h.1 c) (h.2 c)⟩
section
variable {H : HH} {r : Nm} {q : Path} {z i f : Nat} {rows : List (List Cell)} {row : List Cell} {c c0 : Cell} {K : Cell → Prop}
theorem setA_sub (ha : arrAt H r q = some (z, rows)) (hi : rows[i]? = some row) (hf : row[f]? = some c0) : setA H r (q ++ [(i, f)]) c = setA H r q (.own z (rows.set i (row.set f c))) := by
  obtain ⟨co, h1, h2⟩ := arrAt_iff.1 ha
  unfold setA
  rw [h1]
  simp only [set_append h2]
  simp [Cell.set, hi, hf]
theorem CleanH_arr (h : CleanH K H) (ha : arrAt H r q = some (z, rows)) : Clean K (.own z rows) := by
  obtain ⟨co, h1, h2⟩ := arrAt_iff.1 ha
  exact (h _ (look_mem h1)).at h2
variable {l cs : List Cell} {x : Value} {els : List (List Cell)}
theorem Refs_nil : Refs H [] cs ↔ cs = [] := by cases cs <;> simp [Refs]
theorem Refs_v : Refs H (.v x :: l) cs ↔ ∃ cs', cs = .v x :: cs' ∧ Refs H l cs' := by
  cases cs with
  | nil => simp [Refs]
  | cons a cs => simp only [Refs, RefC, List.cons.injEq]; constructor
                 · rintro ⟨rfl, h⟩; exact ⟨cs, ⟨rfl, rfl⟩, h⟩
                 · rintro ⟨_, ⟨rfl, rfl⟩, h⟩; exact ⟨rfl, h⟩
theorem Refs_own : Refs H (.own z els :: l) cs ↔ ∃ r q cs', cs = .sl r q z 0 els.length :: cs' ∧ arrAt H r q = some (z, els) ∧ Refs H l cs' := by
  cases cs with
  | nil => simp [Refs]
  | cons a cs => simp only [Refs, RefC, List.cons.injEq]; constructor
                 · rintro ⟨⟨r, q, rfl, h1⟩, h⟩; exact ⟨r, q, cs, ⟨rfl, rfl⟩, h1, h⟩
                 · rintro ⟨r, q, _, ⟨rfl, rfl⟩, h1, h⟩; exact ⟨⟨r, q, rfl, h1⟩, h⟩
theorem ix_of {α : Type} {l : List α} {i : Nat} {a : α} (h : l[i]? = some a) : ∀ h' : i < l.length, l[i] = a := fun h' => by
  rw [List.getElem?_eq_getElem h'] at h; exact Option.some.inj h
theorem set_at {α : Type} {l : List α} {i : Nat} {a : α} (h : l[i]? = some a) : l.set i a = l := by
  obtain ⟨h1, rfl⟩ := List.getElem?_eq_some_iff.1 h
  simp
end
end Go.Px

