/- Part 1 of the proof that the law FnExactDropKey answers true at every input: memory as trees, the program walked over them, and what it computes; no condition. -/
import Derived.Calls
import Derived.Below
import Derived.WalkKit
import Derived.Laws.Small
import Derived.Laws.OwnMore
import Derived.Laws.MakeOwn
import Derived.Laws.Tables
namespace Go.Px
set_option linter.unusedVariables false
set_option linter.unusedSimpArgs false

abbrev Nm := Nat × Nat
abbrev Path := List (Nat × Nat)

inductive Cell where
  | v (x : Value)
  | own (z : Nat) (els : List (List Cell))
  | sl (r : Nm) (q : Path) (z i n : Nat)
  | pt (r : Nm) (q : Path) (z i f : Nat)
  | fn (f : Nat) (cs : List Cell)
  | x
  deriving Inhabited

def isRef : Cell → Bool
  | .sl .. | .pt .. | .fn .. => true
  | _ => false

def flat : Value → Bool
  | .agg _ | .tuple _ => false
  | _ => true

mutual
inductive Rep (R : Cell → Value → Prop) (w : World) : Cell → Value → List Nat → Prop
  | v (x : Value) : flat x = true → Rep R w (.v x) x []
  | ref {c : Cell} {x : Value} : isRef c = true → flat x = true → R c x → Rep R w c x []
  | x (x : Value) : flat x = true → Rep R w .x x []
  | nil (z : Nat) (A : Option Addr) : Rep R w (.own z []) (.slice A 0 0) []
  | own {z b off cap : Nat} {els : List (List Cell)} {arr : Array Value} {el : TypeId} {fr : Nat × Nat} {F : List Nat} :
      0 < z → w.heap[b]? = some (.cells arr el fr) → (∀ o, off ≤ o → o < off + cap * z → ¬ (fr.1 ≤ o ∧ o < fr.2)) → (∀ row ∈ els, row.length = z) → els.length ≤ cap → off + cap * z ≤ arr.size →
      Reps R w b off els.flatten F → Rep R w (.own z els) (.slice (some ⟨b, off, none⟩) els.length cap) (b :: F)
inductive Reps (R : Cell → Value → Prop) (w : World) : Nat → Nat → List Cell → List Nat → Prop
  | nil (b o : Nat) : Reps R w b o [] []
  | cons {b o : Nat} {c : Cell} {cs : List Cell} {x : Value} {F G : List Nat} :
      w.cell? ⟨b, o, none⟩ = some x → Rep R w c x F → Reps R w b (o + 1) cs G → Reps R w b o (c :: cs) (F ++ G)
end

theorem Rep.flat {R w c x F} (h : Rep R w c x F) : flat x = true := by
  cases h <;> first | assumption | rfl

def Cell.get : Path → Cell → Option Cell
  | [], c => some c
  | (i, f) :: p, .own _ els => (els[i]?.bind (·[f]?)).bind (Cell.get p)
  | _ :: _, _ => none

def Cell.set (c' : Cell) : Path → Cell → Cell
  | [], _ => c'
  | (i, f) :: p, .own z els =>
    match els[i]? with
    | some row => (match row[f]? with
      | some c => .own z (els.set i (row.set f (Cell.set c' p c)))
      | none => .own z els)
    | none => .own z els
  | _ :: _, c => c

/-- The value of the cell at a path below a value. -/
def hdr (w : World) : Path → Cell → Value → Option Value
  | [], _, x => some x
  | (i, f) :: p, .own z els, .slice (some a) _ _ => (els[i]?.bind (·[f]?)).bind fun c => (w.cell? ⟨a.block, a.off + i * z + f, none⟩).bind fun x => hdr w p c x
  | _ :: _, _, _ => none

/-- No reference in c, at or below it, is one of which K speaks. -/
def Clean (K : Cell → Prop) (c : Cell) : Prop := ∀ p c', c.get p = some c' → isRef c' = true → ¬ K c'

theorem Clean.self {K c} (h : Clean K c) : isRef c = true → ¬ K c := h [] c rfl
theorem Clean.sub {K z els} (h : Clean K (.own z els)) : ∀ c ∈ els.flatten, Clean K c := by
  intro c hc p c' hg
  obtain ⟨row, hrow, hcr⟩ := List.mem_flatten.1 hc
  obtain ⟨i, hi⟩ := List.getElem?_of_mem hrow
  obtain ⟨f, hf⟩ := List.getElem?_of_mem hcr
  exact h ((i, f) :: p) c' (by simp [Cell.get, hi, hf, hg])
theorem Clean.leaf {K c} (h : ∀ z els, c ≠ .own z els) (hk : isRef c = true → ¬ K c) : Clean K c := by
  intro p c' hg hr
  cases p with
  | nil => simp [Cell.get] at hg; subst hg; exact hk hr
  | cons a p =>
    cases c with
    | own z els => exact absurd rfl (h z els)
    | _ => simp [Cell.get] at hg
theorem Clean.v {K x} : Clean K (.v x) := .leaf (fun _ _ => by simp) (by simp [isRef])
theorem Clean.hole {K} : Clean K .x := .leaf (fun _ _ => by simp) (by simp [isRef])
theorem Clean.own {K z els} (hs : ∀ row ∈ els, ∀ c ∈ row, Clean K c) : Clean K (.own z els) := by
  intro p c' hg hr
  cases p with
  | nil => simp [Cell.get] at hg; subst hg; simp [isRef] at hr
  | cons a p =>
    obtain ⟨i, f⟩ := a
    simp only [Cell.get] at hg
    cases hi : els[i]? with
    | none => simp [hi] at hg
    | some row =>
      cases hf : row[f]? with
      | none => simp [hi, hf] at hg
      | some c =>
        simp [hi, hf] at hg
        exact hs row (List.mem_of_getElem? hi) c (List.mem_of_getElem? hf) p c' hg hr

/-- What lies in blocks that stay is still there. -/
theorem Rep.mono {R R' : Cell → Value → Prop} {w w' : World} {K : Cell → Prop} {c : Cell} {x : Value} {F : List Nat} (h : Rep R w c x F) (hc : Clean K c)
    (hR : ∀ c x, isRef c = true → ¬ K c → R c x → R' c x) (hw : ∀ b ∈ F, w'.heap[b]? = w.heap[b]?) : Rep R' w' c x F := by
  revert hc hw
  refine Rep.rec (motive_1 := fun c x F _ => Clean K c → (∀ b ∈ F, w'.heap[b]? = w.heap[b]?) → Rep R' w' c x F)
    (motive_2 := fun b o cs F _ => (∀ c ∈ cs, Clean K c) → w'.heap[b]? = w.heap[b]? → (∀ b ∈ F, w'.heap[b]? = w.heap[b]?) → Reps R' w' b o cs F)
    ?_ ?_ ?_ ?_ ?_ ?_ ?_ h
  · exact fun x h _ _ => .v x h
  · exact fun hi hf h hc _ => .ref hi hf (hR _ _ hi (hc.self hi) h)
  · exact fun x h _ _ => .x x h
  · exact fun z A _ _ => .nil z A
  · intro z b off cap els arr el fr F hz hb hfr hr hl hs _ ih hc hw
    refine .own hz ((hw b (by simp)).trans hb) hfr hr hl hs (ih hc.sub (hw b (by simp)) (fun b' hb' => hw b' (by simp [hb'])))
  · exact fun b o _ _ _ => .nil b o
  · intro b o c cs x F G hx _ _ ih1 ih2 hc hb hw
    refine .cons ?_ (ih1 (hc c (by simp)) (fun b' hb' => hw b' (by simp [hb']))) (ih2 (fun c' h' => hc c' (by simp [h'])) hb (fun b' hb' => hw b' (by simp [hb'])))
    rw [← hx]; simp only [World.cell?, hb]

theorem Reps.append {R w b} : ∀ {cs ds o F G}, Reps R w b o cs F → Reps R w b (o + cs.length) ds G → Reps R w b o (cs ++ ds) (F ++ G)
  | [], ds, o, F, G, h, k => by cases h; simpa using k
  | c :: cs, ds, o, F, G, h, k => by
    cases h with
    | cons hx hc hs =>
      rw [List.append_assoc]
      exact .cons hx hc (hs.append (by simpa [Nat.add_assoc, Nat.add_comm, Nat.add_left_comm] using k))

theorem Reps.split {R w b} : ∀ {cs ds o F}, Reps R w b o (cs ++ ds) F → ∃ F1 F2, F = F1 ++ F2 ∧ Reps R w b o cs F1 ∧ Reps R w b (o + cs.length) ds F2
  | [], ds, o, F, h => ⟨[], F, rfl, .nil _ _, by simpa using h⟩
  | c :: cs, ds, o, F, h => by
    cases h with
    | @cons _ _ _ _ x F0 G0 hx hc hs =>
      obtain ⟨F1, F2, rfl, h1, h2⟩ := hs.split
      exact ⟨F0 ++ F1, F2, by simp, .cons hx hc h1, by simpa [Nat.add_assoc, Nat.add_comm, Nat.add_left_comm] using h2⟩

theorem flatten_get {α : Type} {z : Nat} : ∀ {els : List (List α)} {i f : Nat} {row : List α} {c : α}, (∀ r ∈ els, r.length = z) → els[i]? = some row → row[f]? = some c → els.flatten[i * z + f]? = some c
  | [], i, f, row, c, hz, hi, hf => by simp at hi
  | r :: els, i, f, row, c, hz, hi, hf => by
    have hr := hz r (by simp)
    rw [List.flatten_cons]
    cases i with
    | zero =>
      simp at hi; subst hi
      have := (List.getElem?_eq_some_iff.1 hf).1
      rw [List.getElem?_append_left (by omega)]; simpa using hf
    | succ i =>
      have e : (i + 1) * z = i * z + z := Nat.succ_mul i z
      rw [List.getElem?_append_right (by omega), show (i + 1) * z + f - r.length = i * z + f from by omega]
      exact flatten_get (fun r' h' => hz r' (by simp [h'])) (by simpa using hi) hf

theorem flatten_set {α : Type} {z : Nat} : ∀ {els : List (List α)} {i f : Nat} {row : List α} {c c' : α}, (∀ r ∈ els, r.length = z) → els[i]? = some row → row[f]? = some c → (els.set i (row.set f c')).flatten = els.flatten.set (i * z + f) c'
  | [], i, f, row, c, c', hz, hi, hf => by simp at hi
  | r :: els, i, f, row, c, c', hz, hi, hf => by
    have hr := hz r (by simp)
    rw [List.flatten_cons]
    cases i with
    | zero =>
      simp at hi; subst hi
      have := (List.getElem?_eq_some_iff.1 hf).1
      rw [List.set_append_left _ _ (by omega)]; simp
    | succ i =>
      have e : (i + 1) * z = i * z + z := Nat.succ_mul i z
      rw [List.set_append_right _ _ (by omega), show (i + 1) * z + f - r.length = i * z + f from by omega, List.set_cons_succ, List.flatten_cons,
        flatten_set (c := c) (fun r' h' => hz r' (by simp [h'])) (by simpa using hi) hf]

theorem flatten_len {α : Type} {z : Nat} : ∀ {els : List (List α)}, (∀ r ∈ els, r.length = z) → els.flatten.length = els.length * z
  | [], _ => by simp
  | r :: els, h => by
    rw [List.flatten_cons, List.length_append, flatten_len (fun r' h' => h r' (by simp [h'])), h r (by simp), List.length_cons, Nat.succ_mul]; omega

/-- Block b is as it was but, maybe, for one cell. -/
def But (w w' : World) (b : Nat) (a : Addr) : Prop :=
  ∀ arr el fr, w.heap[b]? = some (.cells arr el fr) → ∃ arr', w'.heap[b]? = some (.cells arr' el fr) ∧ arr'.size = arr.size ∧ ∀ o, (⟨b, o, none⟩ : Addr) ≠ a → arr'[o]? = arr[o]?

theorem But.cell {w w' b a o x} (h : But w w' b a) (hn : (⟨b, o, none⟩ : Addr) ≠ a) {arr el fr} (hb : w.heap[b]? = some (.cells arr el fr)) (hx : w.cell? ⟨b, o, none⟩ = some x) : w'.cell? ⟨b, o, none⟩ = some x := by
  obtain ⟨arr', h1, h2, h3⟩ := h arr el fr hb
  simp only [World.cell?, hb] at hx
  simp only [World.cell?, h1]
  have := h3 o hn
  simp at hx ⊢
  rw [this]; exact hx

end Go.Px


namespace Go.Px
set_option linter.unusedVariables false
set_option linter.unusedSimpArgs false

theorem Rep.block {R w c x F} (h : Rep R w c x F) : ∀ b ∈ F, ∃ arr el fr, w.heap[b]? = some (.cells arr el fr) := by
  refine Rep.rec (motive_1 := fun c x F _ => ∀ b ∈ F, ∃ arr el fr, w.heap[b]? = some (.cells arr el fr))
    (motive_2 := fun b o cs F _ => ∀ b ∈ F, ∃ arr el fr, w.heap[b]? = some (.cells arr el fr)) ?_ ?_ ?_ ?_ ?_ ?_ ?_ h
  · intros; simp_all
  · intros; simp_all
  · intros; simp_all
  · intros; simp_all
  · intro z b off cap els arr el fr F hz hb hfr hr hl hs _ ih b' hb'
    rcases List.mem_cons.1 hb' with rfl | h'
    · exact ⟨_, _, _, hb⟩
    · exact ih b' h'
  · intros; simp_all
  · intro b o c cs x F G hx _ _ ih1 ih2 b' hb'
    rcases List.mem_append.1 hb' with h' | h'
    · exact ih1 b' h'
    · exact ih2 b' h'

theorem Reps.block {R w b o cs F} (h : Reps R w b o cs F) : ∀ b ∈ F, ∃ arr el fr, w.heap[b]? = some (.cells arr el fr) := by
  induction cs generalizing o F with
  | nil => cases h; simp
  | cons c cs ih =>
    cases h with
    | cons hx hc hs =>
      intro b' hb'
      rcases List.mem_append.1 hb' with h' | h'
      · exact hc.block b' h'
      · exact ih hs b' h'

theorem But.eq {w w' b a} (h : But w w' b a) (hn : a.block ≠ b) {arr el fr} (hb : w.heap[b]? = some (.cells arr el fr)) : w'.heap[b]? = w.heap[b]? := by
  obtain ⟨arr', h1, h2, h3⟩ := h arr el _ hb
  have : arr' = arr := by
    apply Array.ext_getElem?
    intro o
    exact h3 o (fun e => hn (by rw [← e]))
  rw [h1, hb, this]

theorem But.of_eq {w w' b a} (h : w'.heap[b]? = w.heap[b]?) : But w w' b a := fun arr el fr hb => ⟨arr, h.trans hb, rfl, fun _ _ => rfl⟩

/-- cells of one block where one cell has turned, and that is none of these -/
theorem Reps.but {R R' : Cell → Value → Prop} {w w' : World} {K : Cell → Prop} {b a} (hR : ∀ c x, isRef c = true → ¬ K c → R c x → R' c x) (hb : But w w' b a) {arr el fr} (ha : w.heap[b]? = some (.cells arr el fr)) :
    ∀ {cs o F}, Reps R w b o cs F → (∀ c ∈ cs, Clean K c) → (∀ b' ∈ F, w'.heap[b']? = w.heap[b']?) → (∀ k, k < cs.length → (⟨b, o + k, none⟩ : Addr) ≠ a) → Reps R' w' b o cs F
  | [], o, F, h, _, _, _ => by cases h; exact .nil _ _
  | c :: cs, o, F, h, hc, hw, hn => by
    cases h with
    | cons hx hc' hs =>
      refine .cons (hb.cell (hn 0 (by simp)) ha hx) (hc'.mono (hc c (by simp)) hR (fun b' h' => hw b' (by simp [h']))) (Reps.but hR hb ha hs (fun c' h' => hc c' (by simp [h'])) (fun b' h' => hw b' (by simp [h'])) (fun k hk => ?_))
      have := hn (k + 1) (by simpa using hk)
      simpa [Nat.add_assoc, Nat.add_comm 1 k] using this

theorem row_lt {α : Type} {z : Nat} {els : List (List α)} {i f : Nat} {row : List α} {c : α} (hz : ∀ r ∈ els, r.length = z) (hi : els[i]? = some row) (hf : row[f]? = some c) : i < els.length ∧ f < z ∧ i * z + f < els.length * z := by
  have h1 := (List.getElem?_eq_some_iff.1 hi).1
  have h2 := (List.getElem?_eq_some_iff.1 hf).1
  have h3 := hz row (List.mem_of_getElem? hi)
  refine ⟨h1, by omega, ?_⟩
  have : (i + 1) * z ≤ els.length * z := Nat.mul_le_mul_right z h1
  rw [Nat.succ_mul] at this
  omega

theorem Rep.step {R w z els v F i f row c} (h : Rep R w (.own z els) v F) (hi : els[i]? = some row) (hf : row[f]? = some c) :
    ∃ b off cap x F0 F1 F2, v = .slice (some ⟨b, off, none⟩) els.length cap ∧ els.length ≤ cap ∧ w.cell? ⟨b, off + i * z + f, none⟩ = some x ∧ (∃ arr el fr, w.heap[b]? = some (.cells arr el fr) ∧ off + cap * z ≤ arr.size ∧ w.frozen? ⟨b, off + i * z + f, none⟩ = false) ∧ Rep R w c x F0 ∧
      F = b :: (F1 ++ (F0 ++ F2)) ∧ i * z + f < els.flatten.length ∧ (∀ r ∈ els, r.length = z) ∧ Reps R w b off (els.flatten.take (i * z + f)) F1 ∧ Reps R w b (off + (i * z + f) + 1) (els.flatten.drop (i * z + f + 1)) F2 ∧
      ∀ (K : Cell → Prop) (R' : Cell → Value → Prop) (w' : World) (c1 : Cell) (x1 : Value) (Fn : List Nat),
        (∀ b' ∈ F1 ++ F2, w'.heap[b']? = w.heap[b']?) → But w w' b ⟨b, off + i * z + f, none⟩ → w'.cell? ⟨b, off + i * z + f, none⟩ = some x1 →
        Clean K (Cell.set .x [(i, f)] (.own z els)) → (∀ c x, isRef c = true → ¬ K c → R c x → R' c x) → Rep R' w' c1 x1 Fn →
        Rep R' w' (.own z (els.set i (row.set f c1))) v (b :: (F1 ++ (Fn ++ F2))) := by
  cases h with
  | ref hir hfl hr => simp [isRef] at hir
  | nil => simp at hi
  | @own _ b off cap _ arr el fr F hz hb hfr hr hl hs hrep =>
    obtain ⟨h1, h2, h3⟩ := row_lt hr hi hf
    have hfz : w.frozen? ⟨b, off + i * z + f, none⟩ = false := by
      have hcz : els.length * z ≤ cap * z := Nat.mul_le_mul_right z hl
      have := hfr (off + i * z + f) (by omega) (by omega)
      simp only [World.frozen?, hb]
      simpa using this
    have hk := flatten_get hr hi hf
    obtain ⟨hkl, hke⟩ := List.getElem?_eq_some_iff.1 hk
    have hsplit : els.flatten = els.flatten.take (i * z + f) ++ (c :: els.flatten.drop (i * z + f + 1)) := by
      rw [← hke, List.getElem_cons_drop, List.take_append_drop]
    have hlen : (els.flatten.take (i * z + f)).length = i * z + f := by rw [List.length_take]; omega
    rw [hsplit] at hrep
    obtain ⟨F1, F2', rfl, hp, hq⟩ := hrep.split
    rw [hlen] at hq
    cases hq with
    | @cons _ _ _ _ x F0 F2 hx hc hs' =>
      refine ⟨b, off, cap, x, F0, F1, F2, rfl, hl, by simpa [Nat.add_assoc] using hx, ⟨arr, el, fr, hb, hs, hfz⟩, hc, rfl, hkl, hr, hp, hs', ?_⟩
      intro K R' w' c1 x1 Fn hw hbut hx1 hcl hRR hrep1
      obtain ⟨arr', hb', hsz, hcells⟩ := hbut arr el _ hb
      have hfs : (els.set i (row.set f c1)).flatten = els.flatten.take (i * z + f) ++ (c1 :: els.flatten.drop (i * z + f + 1)) := by
        rw [flatten_set hr hi hf, List.set_eq_take_append_cons_drop, if_pos hkl]
      have hset : Cell.set .x [(i, f)] (.own z els) = .own z (els.set i (row.set f .x)) := by simp [Cell.set, hi, hf]
      rw [hset] at hcl
      have hcl' := hcl.sub
      rw [flatten_set hr hi hf, List.set_eq_take_append_cons_drop, if_pos hkl] at hcl'
      have hrl : ∀ r ∈ els.set i (row.set f c1), r.length = z := by
        intro r hr'
        rcases List.mem_or_eq_of_mem_set hr' with h' | rfl
        · exact hr r h'
        · rw [List.length_set]; exact hr row (List.mem_of_getElem? hi)
      have := Rep.own (R := R') (w := w') (z := z) (b := b) (off := off) (cap := cap) (els := els.set i (row.set f c1)) (arr := arr') (el := el) (F := F1 ++ (Fn ++ F2)) hz hb' hfr hrl (by rw [List.length_set]; exact hl) (by rw [hsz]; exact hs) ?_
      · rw [List.length_set] at this; exact this
      · rw [hfs]
        refine Reps.append (Reps.but hRR hbut hb hp (fun c' h' => hcl' c' (by simp [h'])) (fun b' h' => hw b' (by simp [h'])) (fun k hk' => ?_)) ?_
        · rw [hlen] at hk'
          intro e
          have := congrArg Addr.off e
          simp at this; omega
        · rw [hlen]
          refine .cons (by simpa [Nat.add_assoc] using hx1) hrep1 (Reps.but hRR hbut hb hs' (fun c' h' => hcl' c' (by simp [h'])) (fun b' h' => hw b' (by simp [h'])) (fun k hk' => ?_))
          intro e
          have := congrArg Addr.off e
          simp at this; omega

theorem Reps.nth {R w b} : ∀ {cs : List Cell} {o F j c}, Reps R w b o cs F → cs[j]? = some c → ∃ x F', w.cell? ⟨b, o + j, none⟩ = some x ∧ Rep R w c x F' ∧ ∀ b' ∈ F', b' ∈ F
  | [], o, F, j, c, h, hj => by simp at hj
  | d :: cs, o, F, j, c, h, hj => by
    cases h with
    | @cons _ _ _ _ x F0 G hx hc hs =>
      cases j with
      | zero => simp at hj; subst hj; exact ⟨x, F0, by simpa using hx, hc, fun b' h' => by simp [h']⟩
      | succ j =>
        obtain ⟨x', F', h1, h2, h3⟩ := Reps.nth hs (by simpa using hj)
        exact ⟨x', F', by simpa [Nat.add_assoc, Nat.add_comm 1 j] using h1, h2, fun b' h' => by simp [h3 b' h']⟩

theorem get_own {i f p c c0} (h : Cell.get ((i, f) :: p) c = some c0) : ∃ z els row c', c = .own z els ∧ els[i]? = some row ∧ row[f]? = some c' ∧ c'.get p = some c0 := by
  cases c with
  | own z els =>
    simp only [Cell.get] at h
    cases hi : els[i]? with
    | none => simp [hi] at h
    | some row =>
      cases hf : row[f]? with
      | none => simp [hi, hf] at h
      | some c' => simp [hi, hf] at h; exact ⟨z, els, row, c', rfl, hi, hf, h⟩
  | _ => simp [Cell.get] at h

/-- The headers below a value whose blocks stay. -/
theorem Rep.hdr_same {R w w'} : ∀ {q : Path} {c vv F c0}, Rep R w c vv F → (∀ b ∈ F, w'.heap[b]? = w.heap[b]?) → c.get q = some c0 → hdr w' q c vv = hdr w q c vv
  | [], c, vv, F, c0, h, hw, hg => by simp [hdr]
  | (i, f) :: p, c, vv, F, c0, h, hw, hg => by
    obtain ⟨z, els, row, c', rfl, hi, hf, hg'⟩ := get_own hg
    obtain ⟨b, off, cap, x, F0, F1, F2, rfl, hcap, hx, ⟨arr, el, fr, hb, hsz, hfz⟩, hrep, rfl, -⟩ := h.step hi hf
    have hx' : w'.cell? ⟨b, off + i * z + f, none⟩ = some x := by
      rw [← hx]; simp only [World.cell?, hw b (by simp)]
    have := Rep.hdr_same hrep (fun b' hb' => hw b' (by simp [hb'])) hg'
    simp [hdr, hi, hf, hx, hx', this]

/-- Another cell of the same row, and its header below, where one cell has turned. -/
theorem Rep.hdr_beside {R : Cell → Value → Prop} {w w' : World} {z : Nat} {els : List (List Cell)} {b off k : Nat} {q : Path} {i' f' : Nat} {row' : List Cell} {c' c0 : Cell} {F1 F2 : List Nat} (hrl : ∀ r ∈ els, r.length = z) (hkl : k < els.flatten.length)
    (hpre : Reps R w b off (els.flatten.take k) F1) (hpost : Reps R w b (off + k + 1) (els.flatten.drop (k + 1)) F2)
    (hi' : els[i']? = some row') (hf' : row'[f']? = some c') (hne : i' * z + f' ≠ k) (hg : Cell.get q c' = some c0) (hb : w'.cell? ⟨b, off + i' * z + f', none⟩ = w.cell? ⟨b, off + i' * z + f', none⟩)
    (hw : ∀ b ∈ F1 ++ F2, w'.heap[b]? = w.heap[b]?) : ∃ x, w.cell? ⟨b, off + i' * z + f', none⟩ = some x ∧ w'.cell? ⟨b, off + i' * z + f', none⟩ = some x ∧ hdr w' q c' x = hdr w q c' x := by
  have hk := flatten_get hrl hi' hf'
  have : ∃ x F', w.cell? ⟨b, off + i' * z + f', none⟩ = some x ∧ Rep R w c' x F' ∧ ∀ b' ∈ F', b' ∈ F1 ++ F2 := by
    rcases Nat.lt_or_gt_of_ne hne with hlt | hgt
    · obtain ⟨x, F', h1, h2, h3⟩ := hpre.nth (j := i' * z + f') (c := c') (by rw [List.getElem?_take, if_pos hlt]; exact hk)
      exact ⟨x, F', by simpa [Nat.add_assoc] using h1, h2, fun b' h' => by simp [h3 b' h']⟩
    · obtain ⟨x, F', h1, h2, h3⟩ := hpost.nth (j := i' * z + f' - (k + 1)) (c := c') (by rw [List.getElem?_drop, ← hk]; congr 1; omega)
      refine ⟨x, F', ?_, h2, fun b' h' => by simp [h3 b' h']⟩
      rw [← h1]; congr 2; omega
  obtain ⟨x, F', h1, h2, h3⟩ := this
  exact ⟨x, h1, hb.trans h1, h2.hdr_same (fun b' h' => hw b' (h3 b' h')) hg⟩

theorem mul_add_inj {z i f i' f' : Nat} (hf : f < z) (hf' : f' < z) (h : i * z + f = i' * z + f') : i = i' ∧ f = f' := by
  have h1 : i = i' := by
    rcases Nat.lt_trichotomy i i' with h' | h' | h'
    · have : (i + 1) * z ≤ i' * z := Nat.mul_le_mul_right z h'
      rw [Nat.succ_mul] at this; omega
    · exact h'
    · have : (i' + 1) * z ≤ i * z := Nat.mul_le_mul_right z h'
      rw [Nat.succ_mul] at this; omega
  subst h1; exact ⟨rfl, by omega⟩

/-- The place of the cell at a path below a value. -/
def adr (w : World) : Path → Cell → Value → Option Addr
  | [], _, _ => none
  | [(i, f)], .own z _, .slice (some a) _ _ => some ⟨a.block, a.off + i * z + f, none⟩
  | (i, f) :: p, .own z els, .slice (some a) _ _ => (els[i]?.bind (·[f]?)).bind fun c => (w.cell? ⟨a.block, a.off + i * z + f, none⟩).bind fun x => adr w p c x
  | _, _, _ => none

theorem Rep.zoom {R w} : ∀ {P : Path} {c vv F c0}, Rep R w c vv F → F.Nodup → P ≠ [] → c.get P = some c0 →
    ∃ a x0 F0 G, hdr w P c vv = some x0 ∧ adr w P c vv = some a ∧ w.cell? a = some x0 ∧ (a.spot = none ∧ w.frozen? a = false) ∧ a.block ∈ G ∧ Rep R w c0 x0 F0 ∧ F.Perm (F0 ++ G) ∧
      (∀ (K : Cell → Prop) (R' : Cell → Value → Prop) (w' : World) (c1 : Cell) (x1 : Value) (Fn : List Nat), (∀ b ∈ G, But w w' b a) → w'.cell? a = some x1 →
        Clean K (Cell.set .x P c) → (∀ c x, isRef c = true → ¬ K c → R c x → R' c x) → Rep R' w' c1 x1 Fn → ∃ F', F'.Perm (Fn ++ G) ∧ Rep R' w' (Cell.set c1 P c) vv F') ∧
      ∀ (w' : World) (c1 cq : Cell) (q : Path), (∀ b ∈ G, But w w' b a) → ¬ P <+: q → c.get q = some cq → hdr w' q (Cell.set c1 P c) vv = hdr w q c vv
  | [], c, vv, F, c0, h, hn, hP, hg => absurd rfl hP
  | (i, f) :: p, c, vv, F, c0, h, hn, hP, hg => by
    obtain ⟨z, els, row, c', rfl, hi, hf, hg'⟩ := get_own hg
    obtain ⟨b, off, cap, x, F0, F1, F2, rfl, hcap, hx, ⟨arr, el, fr, hb, hsz, hfz⟩, hrep, rfl, hkl, hrl, hpre, hpost, hw⟩ := h.step hi hf
    cases p with
    | nil =>
      simp [Cell.get] at hg'
      subst hg'
      refine ⟨⟨b, off + i * z + f, none⟩, x, F0, b :: (F1 ++ F2), by simp [hdr, hi, hf, hx], by simp [adr], hx, ⟨rfl, hfz⟩, by simp, hrep, ?_, ?_, ?_⟩
      · rw [← List.append_assoc]
        refine List.Perm.trans (List.Perm.cons _ (List.Perm.append_right _ List.perm_append_comm)) ?_
        rw [List.append_assoc]
        exact List.perm_middle.symm
      · intro K R' w' c1 x1 Fn hbut hx1 hcl hRR hrep1
        refine ⟨b :: (F1 ++ (Fn ++ F2)), ?_, ?_⟩
        · rw [← List.append_assoc]
          refine List.Perm.trans (List.Perm.cons _ (List.Perm.append_right _ List.perm_append_comm)) ?_
          rw [List.append_assoc]
          exact List.perm_middle.symm
        · have hnb : b ∉ F1 ++ F2 := by
            intro hm
            have := (List.nodup_cons.1 hn).1
            apply this
            rcases List.mem_append.1 hm with h' | h' <;> simp [h']
          have key := hw K R' w' c1 x1 Fn (fun b' hb' => ?_) (hbut b (by simp)) hx1 hcl hRR hrep1
          · simpa [Cell.set, hi, hf] using key
          · have hne : (⟨b, off + i * z + f, none⟩ : Addr).block ≠ b' := fun e => hnb (by have : b = b' := e; rw [this]; exact hb')
            obtain ⟨arr', el', fr', hb''⟩ := h.block b' (by rcases List.mem_append.1 hb' with h' | h' <;> simp [h'])
            exact (hbut b' (by rcases List.mem_append.1 hb' with h' | h' <;> simp [h'])).eq hne hb''
      · intro w' c1 cq q hbut hnp hq
        have hnb : b ∉ F1 ++ F2 := by
          intro hm
          have := (List.nodup_cons.1 hn).1
          apply this
          rcases List.mem_append.1 hm with h' | h' <;> simp [h']
        cases q with
        | nil => simp [hdr]
        | cons s q =>
          obtain ⟨i', f'⟩ := s
          obtain ⟨z2, els2, row2, c2, e, hi2, hf2, hg2⟩ := get_own hq
          cases e
          obtain ⟨-, hfz, -⟩ := row_lt hrl hi hf
          obtain ⟨-, hfz', -⟩ := row_lt hrl hi2 hf2
          have hne : i' * z + f' ≠ i * z + f := by
            intro e
            obtain ⟨rfl, rfl⟩ := mul_add_inj hfz' hfz e
            exact hnp ((List.prefix_cons_inj _).2 List.nil_prefix)
          have hcl : w'.cell? ⟨b, off + i' * z + f', none⟩ = w.cell? ⟨b, off + i' * z + f', none⟩ := by
            obtain ⟨arr', k1, k2, k3⟩ := hbut b (by simp) arr el _ hb
            simp only [World.cell?, k1, hb]
            simp
            refine k3 _ (fun e => hne ?_)
            have := congrArg Addr.off e
            simp at this; omega
          obtain ⟨x2, y1, y2, y3⟩ := Rep.hdr_beside (w' := w') hrl hkl hpre hpost hi2 hf2 hne hg2 hcl (fun b' hb' => by
            have hne' : (⟨b, off + i * z + f, none⟩ : Addr).block ≠ b' := fun e => hnb (by have : b = b' := e; rw [this]; exact hb')
            obtain ⟨arr', el', fr', hb''⟩ := h.block b' (by rcases List.mem_append.1 hb' with h' | h' <;> simp [h'])
            exact (hbut b' (by rcases List.mem_append.1 hb' with h' | h' <;> simp [h'])).eq hne' hb'')
          have h1' := (List.getElem?_eq_some_iff.1 hi).1
          have hgs : (els.set i (row.set f c1))[i']?.bind (·[f']?) = some c2 := by
            by_cases hii : i' = i
            · subst hii
              rw [hi] at hi2; cases hi2
              have : f' ≠ f := fun e => hne (by rw [e])
              simp [List.getElem?_set_self h1', List.getElem?_set_ne (fun e => this e.symm), hf2]
            · simp [List.getElem?_set_ne (fun e => hii e.symm), hi2, hf2]
          have e1 : Cell.set c1 [(i, f)] (.own z els) = .own z (els.set i (row.set f c1)) := by simp [Cell.set, hi, hf]
          rw [e1]
          simp only [hdr, hgs, hi2, hf2, Option.bind_some, y1, y2, y3]
    | cons y p =>
      have hn0 : F0.Nodup := by
        have := (List.nodup_cons.1 hn).2
        rw [List.nodup_append] at this
        have := this.2.1
        rw [List.nodup_append] at this
        exact this.1
      obtain ⟨a, x0, F0', G', h1, h2, h3, h4, h5, h6, h7, h8, h9⟩ := Rep.zoom hrep hn0 (by simp) hg'
      have haF0 : a.block ∈ F0 := h7.symm.subset (by simp [h5])
      have hab : a.block ≠ b := by
        intro e
        have := (List.nodup_cons.1 hn).1
        exact this (by rw [← e]; simp [haF0])
      have hdis : ∀ b' ∈ F1 ++ F2, a.block ≠ b' := by
        intro b' hb' e
        subst e
        have h' := (List.nodup_cons.1 hn).2
        rw [List.nodup_append] at h'
        obtain ⟨_, h2', h3'⟩ := h'
        rw [List.nodup_append] at h2'
        rcases List.mem_append.1 hb' with hm | hm
        · exact h3' _ hm _ (by simp [haF0]) rfl
        · exact h2'.2.2 _ haF0 _ hm rfl
      refine ⟨a, x0, F0', b :: (F1 ++ (G' ++ F2)), by simp [hdr, hi, hf, hx, h1], by simp [adr, hi, hf, hx, h2], h3, h4, by simp [h5], h6, ?_, ?_, ?_⟩
      · have e1 : (F1 ++ (F0 ++ F2)).Perm (F0' ++ (F1 ++ (G' ++ F2))) := by
          refine (List.Perm.append_left _ (List.Perm.append_right _ h7)).trans ?_
          rw [List.append_assoc, ← List.append_assoc F1 F0', ← List.append_assoc F0' F1]
          exact List.Perm.append_right _ List.perm_append_comm
        exact (List.Perm.cons _ e1).trans List.perm_middle.symm
      · intro K R' w' c1 x1 Fn hbut hx1 hcl hRR hrep1
        have hset : Cell.set .x ((i, f) :: y :: p) (.own z els) = .own z (els.set i (row.set f (Cell.set .x (y :: p) c'))) := by simp [Cell.set, hi, hf]
        rw [hset] at hcl
        have hclsub : Clean K (Cell.set .x (y :: p) c') := by
          refine hcl.sub _ ?_
          have h1' := (List.getElem?_eq_some_iff.1 hi).1
          have h2' := (List.getElem?_eq_some_iff.1 hf).1
          refine List.mem_flatten.2 ⟨row.set f (Cell.set .x (y :: p) c'), ?_, ?_⟩
          · exact List.mem_of_getElem? (i := i) (by rw [List.getElem?_set_self h1'])
          · exact List.mem_of_getElem? (i := f) (by rw [List.getElem?_set_self h2'])
        obtain ⟨F', hF', hR'⟩ := h8 K R' w' c1 x1 Fn (fun b' hb' => hbut b' (by simp [hb'])) hx1 hclsub hRR hrep1
        have hcell : w'.cell? ⟨b, off + i * z + f, none⟩ = some x := (hbut b (by simp)).cell (fun e => hab (by rw [← e])) hb hx
        have hcl2 : Clean K (Cell.set .x [(i, f)] (.own z els)) := by
          have e : Cell.set .x [(i, f)] (.own z els) = .own z (els.set i (row.set f .x)) := by simp [Cell.set, hi, hf]
          rw [e]
          have h1' := (List.getElem?_eq_some_iff.1 hi).1
          have h2' := (List.getElem?_eq_some_iff.1 hf).1
          refine Clean.own (fun r hr c2 hc2 => ?_)
          obtain ⟨i2, hi2⟩ := List.getElem?_of_mem hr
          by_cases hii : i2 = i
          · subst hii
            rw [List.getElem?_set_self h1'] at hi2; cases hi2
            obtain ⟨f2, hf2⟩ := List.getElem?_of_mem hc2
            by_cases hff : f2 = f
            · subst hff
              rw [List.getElem?_set_self h2'] at hf2; cases hf2
              exact Clean.hole
            · rw [List.getElem?_set_ne (fun e => hff e.symm)] at hf2
              refine hcl.sub c2 (List.mem_flatten.2 ⟨row.set f (Cell.set .x (y :: p) c'), List.mem_of_getElem? (i := i2) (by rw [List.getElem?_set_self h1']), List.mem_of_getElem? (i := f2) (by rw [List.getElem?_set_ne (fun e => hff e.symm)]; exact hf2)⟩)
          · rw [List.getElem?_set_ne (fun e => hii e.symm)] at hi2
            exact hcl.sub c2 (List.mem_flatten.2 ⟨r, List.mem_of_getElem? (i := i2) (by rw [List.getElem?_set_ne (fun e => hii e.symm)]; exact hi2), hc2⟩)
        refine ⟨b :: (F1 ++ (F' ++ F2)), ?_, ?_⟩
        · have e1 : (F1 ++ (F' ++ F2)).Perm (Fn ++ (F1 ++ (G' ++ F2))) := by
            refine (List.Perm.append_left _ (List.Perm.append_right _ hF')).trans ?_
            rw [List.append_assoc, ← List.append_assoc F1 Fn, ← List.append_assoc Fn F1]
            exact List.Perm.append_right _ List.perm_append_comm
          exact (List.Perm.cons _ e1).trans List.perm_middle.symm
        · have key := hw K R' w' (Cell.set c1 (y :: p) c') x F' (fun b' hb' => ?_) (But.of_eq ?_) hcell hcl2 hRR hR'
          · simpa [Cell.set, hi, hf] using key
          · obtain ⟨arr', el', fr', hb''⟩ := h.block b' (by rcases List.mem_append.1 hb' with h' | h' <;> simp [h'])
            exact (hbut b' (by rcases List.mem_append.1 hb' with h' | h' <;> simp [h'])).eq (hdis b' hb') hb''
          · exact (hbut b (by simp)).eq hab hb
      · intro w' c1 cq q hbut hnp hq
        cases q with
        | nil => simp [hdr]
        | cons s q =>
          obtain ⟨i', f'⟩ := s
          obtain ⟨z2, els2, row2, c2, e, hi2, hf2, hg2⟩ := get_own hq
          cases e
          obtain ⟨-, hfz, -⟩ := row_lt hrl hi hf
          obtain ⟨-, hfz', -⟩ := row_lt hrl hi2 hf2
          have h1' := (List.getElem?_eq_some_iff.1 hi).1
          have h2' := (List.getElem?_eq_some_iff.1 hf).1
          have hbb : w'.heap[b]? = w.heap[b]? := (hbut b (by simp)).eq hab hb
          have e1 : Cell.set c1 ((i, f) :: y :: p) (.own z els) = .own z (els.set i (row.set f (Cell.set c1 (y :: p) c'))) := by simp [Cell.set, hi, hf]
          rw [e1]
          by_cases hne : i' * z + f' = i * z + f
          · obtain ⟨rfl, rfl⟩ := mul_add_inj hfz' hfz hne
            rw [hi] at hi2; cases hi2
            rw [hf] at hf2; cases hf2
            have hnp' : ¬ (y :: p) <+: q := fun h => hnp ((List.prefix_cons_inj _).2 h)
            have hrec := h9 w' c1 cq q (fun b' hb' => hbut b' (by simp [hb'])) hnp' hg2
            have hx' : w'.cell? ⟨b, off + i' * z + f', none⟩ = some x := by rw [← hx]; simp only [World.cell?, hbb]
            simp [hdr, hi, hf, hx, hx', hrec, List.getElem?_set_self h1', List.getElem?_set_self h2']
          · have hcl : w'.cell? ⟨b, off + i' * z + f', none⟩ = w.cell? ⟨b, off + i' * z + f', none⟩ := by simp only [World.cell?, hbb]
            obtain ⟨x2, y1, y2, y3⟩ := Rep.hdr_beside (w' := w') hrl hkl hpre hpost hi2 hf2 hne hg2 hcl (fun b' hb' => by
              obtain ⟨arr', el', fr', hb''⟩ := h.block b' (by rcases List.mem_append.1 hb' with h' | h' <;> simp [h'])
              exact (hbut b' (by rcases List.mem_append.1 hb' with h' | h' <;> simp [h'])).eq (hdis b' hb') hb'')
            have hgs : (els.set i (row.set f (Cell.set c1 (y :: p) c')))[i']?.bind (·[f']?) = some c2 := by
              by_cases hii : i' = i
              · subst hii
                rw [hi] at hi2; cases hi2
                have : f' ≠ f := fun e => hne (by rw [e])
                simp [List.getElem?_set_self h1', List.getElem?_set_ne (fun e => this e.symm), hf2]
              · simp [List.getElem?_set_ne (fun e => hii e.symm), hi2, hf2]
            simp only [hdr, hgs, hi2, hf2, Option.bind_some, y1, y2, y3]

end Go.Px


namespace Go.Px
set_option linter.unusedVariables false
set_option linter.unusedSimpArgs false

abbrev HH := List (Nm × Cell)

def look : HH → Nm → Option Cell
  | [], _ => none
  | (s, c) :: t, r => if s = r then some c else look t r

def putH : HH → Nm → Cell → HH
  | [], _, _ => []
  | (s, c) :: t, r, c1 => if s = r then (s, c1) :: t else (s, c) :: putH t r c1

theorem look_putH_self {r c c1} : ∀ {H : HH}, look H r = some c → look (putH H r c1) r = some c1
  | [], h => by simp [look] at h
  | (s, d) :: t, h => by
    by_cases e : s = r
    · simp [putH, look, e]
    · simp only [look, e, if_false] at h
      simp only [putH, e, if_false, look]; exact look_putH_self h

theorem look_putH_ne {r r' c1} (hn : r' ≠ r) : ∀ {H : HH}, look (putH H r c1) r' = look H r'
  | [] => rfl
  | (s, d) :: t => by
    by_cases e : s = r
    · subst e; simp only [putH, look, if_true, if_neg (fun h => hn (Eq.symm h))]
    · simp only [putH, e, if_false, look]; rw [look_putH_ne hn]

inductive Holds (g : Nat) (R : Cell → Value → Prop) (w : World) (β : Nm → Value) : HH → List Nat → Prop
  | nil : Holds g R w β [] []
  | sh {r c t F1 F} : r.1 = 0 → Rep R w c (β r) F1 → (∀ b ∈ F1, b < g) → Holds g R w β t F → Holds g R w β ((r, c) :: t) F
  | ow {r c t F1 F} : r.1 ≠ 0 → Rep R w c (β r) F1 → Holds g R w β t F → Holds g R w β ((r, c) :: t) (F1 ++ F)

theorem Holds.block {g R w β H F} (h : Holds g R w β H F) : ∀ b ∈ F, ∃ arr el fr, w.heap[b]? = some (.cells arr el fr) := by
  induction h with
  | nil => simp
  | sh _ _ _ _ ih => exact ih
  | ow _ hr _ ih =>
    intro b hb
    rcases List.mem_append.1 hb with h' | h'
    · exact hr.block b h'
    · exact ih b h'

theorem Holds.mono {g R R' w w' β β'} {K : Cell → Prop} {H F} (h : Holds g R w β H F) (hβ : ∀ e ∈ H, β' e.1 = β e.1) (hc : ∀ e ∈ H, Clean K e.2) (hR : ∀ c x, isRef c = true → ¬ K c → R c x → R' c x)
    (hw : ∀ b ∈ F, w'.heap[b]? = w.heap[b]?) (hg : ∀ b, b < g → w'.heap[b]? = w.heap[b]?) : Holds g R' w' β' H F := by
  induction h with
  | nil => exact .nil
  | @sh r c t F1 F h0 hr hb _ ih =>
    refine .sh h0 ?_ hb (ih (fun e he => hβ e (by simp [he])) (fun e he => hc e (by simp [he])) hw)
    rw [hβ (r, c) (by simp)]
    exact hr.mono (hc (r, c) (by simp)) hR (fun b h' => hg b (hb b h'))
  | @ow r c t F1 F h0 hr _ ih =>
    refine .ow h0 ?_ (ih (fun e he => hβ e (by simp [he])) (fun e he => hc e (by simp [he])) (fun b hb => hw b (by simp [hb])))
    rw [hβ (r, c) (by simp)]
    exact hr.mono (hc (r, c) (by simp)) hR (fun b hb => hw b (by simp [hb]))

/-- Any object's value; and its blocks are either all owned or all below g. -/
theorem Holds.rep {g R w β r c} : ∀ {H : HH} {F}, Holds g R w β H F → look H r = some c → ∃ F1, Rep R w c (β r) F1 ∧ ((∀ b ∈ F1, b ∈ F) ∨ (∀ b ∈ F1, b < g))
  | _, _, .nil, h => by simp [look] at h
  | _, _, .sh (r := s) (c := d) h0 hr hb ht, h => by
    by_cases e : s = r
    · subst e; simp [look] at h; subst h; exact ⟨_, hr, .inr hb⟩
    · simp only [look, e, if_false] at h
      exact ht.rep h
  | _, _, .ow (r := s) (c := d) h0 hr ht, h => by
    by_cases e : s = r
    · subst e; simp [look] at h; subst h; exact ⟨_, hr, .inl (fun b hb => by simp [hb])⟩
    · simp only [look, e, if_false] at h
      obtain ⟨F1, k1, k2⟩ := ht.rep h
      exact ⟨F1, k1, k2.imp (fun k b hb => by simp [k b hb]) id⟩

theorem Holds.zoom {g R w β r c} (h0 : r.1 ≠ 0) : ∀ {H : HH} {F}, Holds g R w β H F → look H r = some c →
    ∃ Fr G, F.Perm (Fr ++ G) ∧ Rep R w c (β r) Fr ∧ (∀ (K : Cell → Prop) (R' : Cell → Value → Prop) (w' : World) (c1 cx : Cell) (Fn : List Nat),
      (∀ b ∈ G, w'.heap[b]? = w.heap[b]?) → (∀ b, b < g → w'.heap[b]? = w.heap[b]?) → (∀ e ∈ putH H r cx, Clean K e.2) → (∀ c x, isRef c = true → ¬ K c → R c x → R' c x) →
      Rep R' w' c1 (β r) Fn → ∃ F', F'.Perm (Fn ++ G) ∧ Holds g R' w' β (putH H r c1) F') ∧
      ∀ r' c', r' ≠ r → look H r' = some c' → ∃ F1, Rep R w c' (β r') F1 ∧ ((∀ b ∈ F1, b ∈ G) ∨ (∀ b ∈ F1, b < g))
  | _, _, .nil, h => by simp [look] at h
  | _, _, .sh (r := s) (c := d) (t := t) (F1 := F1) (F := F) hs hr hb ht, h => by
    by_cases e : s = r
    · subst e; exact absurd hs h0
    · simp only [look, e, if_false] at h
      obtain ⟨Fr, G, h1, h2, h3, h4⟩ := Holds.zoom h0 ht h
      refine ⟨Fr, G, h1, h2, fun K R' w' c1 cx Fn hG hg hcl hR hrep => ?_, fun r' c' hne hl => ?_⟩
      · simp only [putH, e, if_false] at hcl ⊢
        obtain ⟨F', hp, hh⟩ := h3 K R' w' c1 cx Fn hG hg (fun e he => hcl e (by simp [he])) hR hrep
        exact ⟨F', hp, .sh hs (hr.mono (hcl (s, d) (by simp)) hR (fun b h' => hg b (hb b h'))) hb hh⟩
      · by_cases e' : s = r'
        · subst e'; simp [look] at hl; subst hl; exact ⟨_, hr, .inr hb⟩
        · simp only [look, e', if_false] at hl
          exact h4 r' c' hne hl
  | _, _, .ow (r := s) (c := d) (t := t) (F1 := F1) (F := F) hs hr ht, h => by
    by_cases e : s = r
    · subst e; simp [look] at h; subst h
      refine ⟨F1, F, .refl _, hr, fun K R' w' c1 cx Fn hG hg hcl hR hrep => ?_, fun r' c' hne hl => ?_⟩
      · simp only [putH, if_true] at hcl ⊢
        exact ⟨Fn ++ F, .refl _, .ow hs hrep (ht.mono (fun _ _ => rfl) (fun e he => hcl e (by simp [he])) hR hG hg)⟩
      · simp only [look, if_neg (fun h => hne (Eq.symm h))] at hl
        exact ht.rep hl
    · simp only [look, e, if_false] at h
      obtain ⟨Fr, G, h1, h2, h3, h4⟩ := Holds.zoom h0 ht h
      refine ⟨Fr, F1 ++ G, ?_, h2, fun K R' w' c1 cx Fn hG hg hcl hR hrep => ?_, fun r' c' hne hl => ?_⟩
      · refine (List.Perm.append_left _ h1).trans ?_
        rw [← List.append_assoc, ← List.append_assoc]
        exact List.Perm.append_right _ List.perm_append_comm
      · simp only [putH, e, if_false] at hcl ⊢
        obtain ⟨F', hp, hh⟩ := h3 K R' w' c1 cx Fn (fun b hb => hG b (by simp [hb])) hg (fun e he => hcl e (by simp [he])) hR hrep
        refine ⟨F1 ++ F', ?_, .ow hs (hr.mono (hcl (s, d) (by simp)) hR (fun b h' => hG b (by simp [h']))) hh⟩
        refine (List.Perm.append_left _ hp).trans ?_
        rw [← List.append_assoc, ← List.append_assoc]
        exact List.Perm.append_right _ List.perm_append_comm
      · by_cases e' : s = r'
        · subst e'; simp [look] at hl; subst hl; exact ⟨_, hr, .inl (fun b hb => by simp [hb])⟩
        · simp only [look, e', if_false] at hl
          obtain ⟨F2, k1, k2⟩ := h4 r' c' hne hl
          exact ⟨F2, k1, k2.imp (fun k b hb => by simp [k b hb]) id⟩

/-- What a reference of a temporary or of a cell means. -/
def VP1 (w : World) (β : Nm → Value) (H : HH) : Cell → Value → Prop
  | .sl r q z i n, x => ∃ c els h, look H r = some c ∧ c.get q = some (.own z els) ∧ hdr w q c (β r) = some h ∧ i + n ≤ els.length ∧
      ((∃ b off n0 cap0 cap, h = .slice (some ⟨b, off, none⟩) n0 cap0 ∧ x = .slice (some ⟨b, off + i * z, none⟩) n cap ∧ n ≤ cap ∧ i + cap = cap0) ∨ (n = 0 ∧ ∃ A, x = .slice A 0 0 ∧ ∃ B m, h = .slice B m i))
  | .pt r q z i f, x => ∃ c els h, look H r = some c ∧ c.get q = some (.own z els) ∧ hdr w q c (β r) = some h ∧ i < els.length ∧ f < z ∧
      ∃ b off n0 cap0, h = .slice (some ⟨b, off, none⟩) n0 cap0 ∧ x = .pointer (some ⟨b, off + i * z + f, none⟩)
  | .v y, x => x = y
  | _, _ => False

def VP (w : World) (β : Nm → Value) (H : HH) : Cell → Value → Prop
  | .fn f cs, x => ∃ xs : List Value, x = .func (.func f) #[] xs.toArray ∧ cs.length = xs.length ∧ ∀ (i : Nat) (c : Cell) (y : Value), cs[i]? = some c → xs[i]? = some y → VP1 w β H c y
  | .v _, _ => False
  | c, x => VP1 w β H c x

def hit1 (L : List (Nm × Path)) : Cell → Prop
  | .sl r q _ _ _ => ∃ e ∈ L, e.1 = r ∧ e.2 <+: q
  | .pt r q _ _ _ => ∃ e ∈ L, e.1 = r ∧ e.2 <+: q
  | _ => False

def hit (L : List (Nm × Path)) : Cell → Prop
  | .fn _ cs => ∃ c ∈ cs, hit1 L c
  | c => hit1 L c

theorem VP.map {w w' β β' H H'} {L : List (Nm × Path)} (h1 : ∀ c x, ¬ hit1 L c → VP1 w β H c x → VP1 w' β' H' c x) : ∀ c x, isRef c = true → ¬ hit L c → VP w β H c x → VP w' β' H' c x := by
  intro c x hr hn h
  cases c with
  | fn f cs =>
    obtain ⟨xs, e, hl, hcs⟩ := h
    refine ⟨xs, e, hl, fun i c y hc hy => h1 _ _ (fun hh => hn ⟨c, List.mem_of_getElem? hc, hh⟩) (hcs i c y hc hy)⟩
  | sl r q z i n => exact h1 (.sl r q z i n) x hn h
  | pt r q z i f => exact h1 (.pt r q z i f) x hn h
  | v y => simp [isRef] at hr
  | own z els => simp [isRef] at hr
  | x => simp [isRef] at hr

theorem set_get_len {c1} : ∀ {P q : Path} {c c0 z els}, c.get P = some c0 → c.get q = some (.own z els) → ¬ P <+: q → ∃ els', (Cell.set c1 P c).get q = some (.own z els') ∧ els'.length = els.length
  | [], q, c, c0, z, els, hP, hq, hn => absurd (List.nil_prefix) hn
  | (i, f) :: p, [], c, c0, z, els, hP, hq, hn => by
    obtain ⟨z', els0, row, c', rfl, hi, hf, hg'⟩ := get_own hP
    simp [Cell.get] at hq
    obtain ⟨rfl, rfl⟩ := hq
    exact ⟨els0.set i (row.set f (Cell.set c1 p c')), by simp [Cell.set, Cell.get, hi, hf], by simp⟩
  | (i, f) :: p, (i', f') :: q, c, c0, z, els, hP, hq, hn => by
    obtain ⟨z', els0, row, c', rfl, hi, hf, hg'⟩ := get_own hP
    obtain ⟨z2, els2, row2, c2, e, hi2, hf2, hg2⟩ := get_own hq
    cases e
    have h1' := (List.getElem?_eq_some_iff.1 hi).1
    have h2' := (List.getElem?_eq_some_iff.1 hf).1
    by_cases hii : i' = i
    · subst hii
      rw [hi] at hi2; cases hi2
      by_cases hff : f' = f
      · subst hff
        rw [hf] at hf2; cases hf2
        have hn' : ¬ p <+: q := fun h => hn ((List.prefix_cons_inj _).2 h)
        obtain ⟨els', k1, k2⟩ := set_get_len (c1 := c1) hg' hg2 hn'
        exact ⟨els', by simp [Cell.set, Cell.get, hi, hf, List.getElem?_set_self h1', List.getElem?_set_self h2', k1], k2⟩
      · exact ⟨els, by simp [Cell.set, Cell.get, hi, hf, List.getElem?_set_self h1', List.getElem?_set_ne (fun e => hff e.symm), hf2, hg2], rfl⟩
    · exact ⟨els, by simp [Cell.set, Cell.get, hi, hf, List.getElem?_set_ne (fun e => hii e.symm), hi2, hf2, hg2], rfl⟩

/-- A cell of what H holds, and what becomes of H when that cell turns. -/
theorem Holds.write {g w β H F r c P c0} (hh : Holds g (VP w β H) w β H F) (hn : F.Nodup) (hgF : ∀ b ∈ F, g ≤ b) (h0 : r.1 ≠ 0) (hl : look H r = some c) (hP : P ≠ []) (hg : c.get P = some c0) :
    ∃ a x0 F0 G, adr w P c (β r) = some a ∧ hdr w P c (β r) = some x0 ∧ w.cell? a = some x0 ∧ (a.spot = none ∧ w.frozen? a = false) ∧ a.block ∈ G ∧ Rep (VP w β H) w c0 x0 F0 ∧ F.Perm (F0 ++ G) ∧
      (∀ w' c1, (∀ b ∈ G, But w w' b a) → (∀ b, b < g → w'.heap[b]? = w.heap[b]?) → ∀ y x, ¬ hit1 [(r, P)] y → VP1 w β H y x → VP1 w' β (putH H r (Cell.set c1 P c)) y x) ∧
      (∀ (K : Cell → Prop) w' c1 x1 Fn, (∀ b ∈ G, But w w' b a) → (∀ b, b < g → w'.heap[b]? = w.heap[b]?) → w'.cell? a = some x1 → (∀ e ∈ putH H r (Cell.set .x P c), Clean K e.2) →
        (∀ y x, isRef y = true → ¬ K y → VP w β H y x → VP w' β (putH H r (Cell.set c1 P c)) y x) → Rep (VP w' β (putH H r (Cell.set c1 P c))) w' c1 x1 Fn →
        ∃ F', F'.Perm (Fn ++ G) ∧ Holds g (VP w' β (putH H r (Cell.set c1 P c))) w' β (putH H r (Cell.set c1 P c)) F') := by
  obtain ⟨Fr, G1, h1, h2, h3, h4⟩ := hh.zoom h0 hl
  have hn' := h1.nodup_iff.1 hn
  have hnr : Fr.Nodup := (List.nodup_append.1 hn').1
  obtain ⟨a, x0, F0, G, k1, k2, k3, k4, k5, k6, k7, k8, k9⟩ := h2.zoom hnr hP hg
  have haG1 : ∀ b ∈ G1, a.block ≠ b := by
    intro b hb e
    have ha : a.block ∈ Fr := k7.symm.subset (by simp [k5])
    exact (List.nodup_append.1 hn').2.2 _ ha _ hb e
  have hG1 : ∀ w', (∀ b ∈ G ++ G1, But w w' b a) → ∀ b ∈ G1, w'.heap[b]? = w.heap[b]? := by
    intro w' hb b hbm
    obtain ⟨arr, el, fr, he⟩ := hh.block b (h1.symm.subset (by simp [hbm]))
    exact (hb b (by simp [hbm])).eq (haG1 b hbm) he
  refine ⟨a, x0, F0, G ++ G1, k2, k1, k3, k4, by simp [k5], k6, ?_, ?_, ?_⟩
  · refine h1.trans ?_
    rw [← List.append_assoc]
    exact List.Perm.append_right _ k7
  · intro w' c1 hbut hlow
    have key : ∀ r' q cc z els h, look H r' = some cc → cc.get q = some (.own z els) → hdr w q cc (β r') = some h → ¬ (r = r' ∧ P <+: q) →
        ∃ cc' els', look (putH H r (Cell.set c1 P c)) r' = some cc' ∧ cc'.get q = some (.own z els') ∧ els'.length = els.length ∧ hdr w' q cc' (β r') = some h := by
      intro r' q cc z els h e1 e2 e3 e4
      by_cases hr : r' = r
      · subst hr
        rw [hl] at e1; cases e1
        have hnp : ¬ P <+: q := fun hh => e4 ⟨rfl, hh⟩
        obtain ⟨els', y1, y2⟩ := set_get_len (c1 := c1) hg e2 hnp
        exact ⟨_, els', look_putH_self hl, y1, y2, (k9 w' c1 _ q (fun b hb => hbut b (by simp [hb])) hnp e2).trans e3⟩
      · refine ⟨cc, els, (look_putH_ne hr).trans e1, e2, rfl, ?_⟩
        obtain ⟨F1, y1, y2⟩ := h4 r' cc hr e1
        rw [← e3]
        refine y1.hdr_same ?_ e2
        rcases y2 with y2 | y2
        · exact fun b hb => hG1 w' hbut b (y2 b hb)
        · exact fun b hb => hlow b (y2 b hb)
    intro y x hnh hv
    cases y with
    | sl r' q z i n =>
      obtain ⟨cc, els, h, e1, e2, e3, e4, e5⟩ := hv
      obtain ⟨cc', els', y1, y2, y3, y4⟩ := key r' q cc z els h e1 e2 e3 (fun hh => hnh ⟨(r, P), by simp, hh.1, hh.2⟩)
      exact ⟨cc', els', h, y1, y2, y4, by omega, e5⟩
    | pt r' q z i f =>
      obtain ⟨cc, els, h, e1, e2, e3, e4, e5, e6⟩ := hv
      obtain ⟨cc', els', y1, y2, y3, y4⟩ := key r' q cc z els h e1 e2 e3 (fun hh => hnh ⟨(r, P), by simp, hh.1, hh.2⟩)
      exact ⟨cc', els', h, y1, y2, y4, by omega, e5, e6⟩
    | v y => exact hv
    | own z els => exact hv.elim
    | fn f cs => exact hv.elim
    | x => exact hv.elim
  · intro K w' c1 x1 Fn hbut hlow hx1 hcl hR hrep
    have hclr : Clean K (Cell.set .x P c) := by
      have : look (putH H r (Cell.set .x P c)) r = some (Cell.set .x P c) := look_putH_self hl
      have hm : ∀ (H : HH) (r : Nm) (c : Cell), look H r = some c → (r, c) ∈ H := by
        intro H r c
        induction H with
        | nil => simp [look]
        | cons e t ih =>
          obtain ⟨s, d⟩ := e
          by_cases e : s = r
          · subst e; simp only [look, if_true]; intro h; cases h; simp
          · simp only [look, e, if_false]; intro h; exact List.mem_cons_of_mem _ (ih h)
      exact hcl _ (hm _ _ _ this)
    obtain ⟨F', p1, p2⟩ := k8 K _ w' c1 x1 Fn (fun b hb => hbut b (by simp [hb])) hx1 hclr hR hrep
    obtain ⟨F'', p3, p4⟩ := h3 K _ w' (Cell.set c1 P c) (Cell.set .x P c) F' (hG1 w' hbut) hlow hcl hR p2
    refine ⟨F'', p3.trans ?_, p4⟩
    rw [← List.append_assoc]
    exact List.Perm.append_right _ p1

end Go.Px


namespace Go.Px
set_option linter.unusedVariables false
set_option linter.unusedSimpArgs false
set_option linter.constructorNameAsVariable false

/-- What a temporary holds. -/
inductive T where
  | c (x : Cell)
  | a (l : List Cell)
  | t (l : List T)
  | u
  deriving Inhabited

inductive VRep (R : Cell → Value → Prop) (w : World) : List Cell → List Value → List Nat → Prop
  | nil : VRep R w [] [] []
  | cons {c x F cs xs G} : Rep R w c x F → VRep R w cs xs G → VRep R w (c :: cs) (x :: xs) (F ++ G)

mutual
inductive TRep (R : Cell → Value → Prop) (w : World) : T → Value → List Nat → Prop
  | c {x v F} : Rep R w x v F → TRep R w (.c x) v F
  | a {l vs F} : VRep R w l vs F → TRep R w (.a l) (.agg vs.toArray) F
  | t {l vs F} : TReps R w l vs F → TRep R w (.t l) (.tuple vs.toArray) F
  | u (v : Value) : TRep R w .u v []
inductive TReps (R : Cell → Value → Prop) (w : World) : List T → List Value → List Nat → Prop
  | nil : TReps R w [] [] []
  | cons {x v F l vs G} : TRep R w x v F → TReps R w l vs G → TReps R w (x :: l) (v :: vs) (F ++ G)
end

def cells1 (K : Cell → Prop) (l : List Cell) : Prop := ∀ c ∈ l, Clean K c
mutual
def T.clean (K : Cell → Prop) : T → Prop
  | .c x => Clean K x
  | .a l => cells1 K l
  | .t l => T.cleans K l
  | .u => True
def T.cleans (K : Cell → Prop) : List T → Prop
  | [] => True
  | x :: l => T.clean K x ∧ T.cleans K l
end

theorem VRep.mono {R R' : Cell → Value → Prop} {w w' : World} {K : Cell → Prop} {l vs F} (h : VRep R w l vs F) (hc : cells1 K l)
    (hR : ∀ c x, isRef c = true → ¬ K c → R c x → R' c x) (hw : ∀ b ∈ F, w'.heap[b]? = w.heap[b]?) : VRep R' w' l vs F := by
  induction h with
  | nil => exact .nil
  | cons hr _ ih => exact .cons (hr.mono (hc _ (by simp)) hR (fun b hb => hw b (by simp [hb]))) (ih (fun c hc' => hc c (by simp [hc'])) (fun b hb => hw b (by simp [hb])))

theorem TRep.mono {R R' : Cell → Value → Prop} {w w' : World} {K : Cell → Prop} {x v F} (h : TRep R w x v F) (hc : x.clean K)
    (hR : ∀ c x, isRef c = true → ¬ K c → R c x → R' c x) (hw : ∀ b ∈ F, w'.heap[b]? = w.heap[b]?) : TRep R' w' x v F := by
  revert hc hw
  refine TRep.rec (motive_1 := fun x v F _ => x.clean K → (∀ b ∈ F, w'.heap[b]? = w.heap[b]?) → TRep R' w' x v F)
    (motive_2 := fun l vs F _ => T.cleans K l → (∀ b ∈ F, w'.heap[b]? = w.heap[b]?) → TReps R' w' l vs F) ?_ ?_ ?_ ?_ ?_ ?_ h
  · exact fun hr hc hw => .c (hr.mono hc hR hw)
  · exact fun hr hc hw => .a (hr.mono hc hR hw)
  · exact fun _ ih hc hw => .t (ih hc hw)
  · exact fun v _ _ => .u v
  · exact fun _ _ => .nil
  · exact fun _ _ ih1 ih2 hc hw => .cons (ih1 hc.1 (fun b hb => hw b (by simp [hb]))) (ih2 hc.2 (fun b hb => hw b (by simp [hb])))

/-- The temporaries of which something is known. -/
inductive Tmps (R : Cell → Value → Prop) (w : World) (a : Array Value) : List (Nat × T) → List Nat → Prop
  | nil : Tmps R w a [] []
  | cons {i x v F t G} : a[i]? = some v → TRep R w x v F → Tmps R w a t G → Tmps R w a ((i, x) :: t) (F ++ G)

theorem Tmps.mono {R R' : Cell → Value → Prop} {w w' : World} {K : Cell → Prop} {a a' : Array Value} {t F} (h : Tmps R w a t F) (hc : ∀ e ∈ t, e.2.clean K) (ha : ∀ e ∈ t, a'[e.1]? = a[e.1]?)
    (hR : ∀ c x, isRef c = true → ¬ K c → R c x → R' c x) (hw : ∀ b ∈ F, w'.heap[b]? = w.heap[b]?) : Tmps R' w' a' t F := by
  induction h with
  | nil => exact .nil
  | @cons i x v F t G hi hr _ ih =>
    exact .cons ((ha (i, x) (by simp)).trans hi) (hr.mono (hc (i, x) (by simp)) hR (fun b hb => hw b (by simp [hb]))) (ih (fun e he => hc e (by simp [he])) (fun e he => ha e (by simp [he])) (fun b hb => hw b (by simp [hb])))

theorem Tmps.filter {R w a} (p : Nat × T → Bool) {t F} (h : Tmps R w a t F) : ∃ F', Tmps R w a (t.filter p) F' ∧ F'.Sublist F := by
  induction h with
  | nil => exact ⟨[], .nil, .refl _⟩
  | @cons i x v F t G hi hr _ ih =>
    obtain ⟨F', h1, h2⟩ := ih
    by_cases hp : p (i, x) = true
    · exact ⟨F ++ F', by rw [List.filter_cons, if_pos hp]; exact .cons hi hr h1, List.Sublist.append (.refl _) h2⟩
    · exact ⟨F', by rw [List.filter_cons, if_neg hp]; exact h1, h2.trans (List.sublist_append_right _ _)⟩

def getT : List (Nat × T) → Nat → Option T
  | [], _ => none
  | (j, x) :: t, i => if j = i then some x else getT t i
def delT (t : List (Nat × T)) (i : Nat) : List (Nat × T) := t.filter (fun e => e.1 != i)
def setT (t : List (Nat × T)) (i : Nat) (x : T) : List (Nat × T) := (i, x) :: delT t i

/-- A temporary, and the others. -/
theorem Tmps.take {R w a i x} : ∀ {t F}, Tmps R w a t F → getT t i = some x → F.Nodup → ∃ v F1 F2, a[i]? = some v ∧ TRep R w x v F1 ∧ Tmps R w a (delT t i) F2 ∧ (F1 ++ F2).Nodup ∧ ∀ b ∈ F1 ++ F2, b ∈ F
  | _, _, .nil, h, _ => by simp [getT] at h
  | _, _, .cons (i := j) (x := y) (v := v) (F := F) (t := t) (G := G) hj hr ht, h, hn => by
    by_cases e : j = i
    · subst e; simp [getT] at h; subst h
      obtain ⟨F', h1, h2⟩ := ht.filter (fun e => e.1 != j)
      refine ⟨v, F, F', hj, hr, ?_, List.Nodup.sublist (List.Sublist.append (.refl _) h2) hn, fun b hb => (List.Sublist.append (.refl _) h2).subset hb⟩
      simpa [delT, List.filter_cons] using h1
    · simp only [getT, e, if_false] at h
      obtain ⟨hn1, hn2, hn3⟩ := List.nodup_append.1 hn
      obtain ⟨v', F1, F2, h1, h2, h3, h4, h5⟩ := ht.take h hn2
      obtain ⟨k1, k2, k3⟩ := List.nodup_append.1 h4
      refine ⟨v', F1, F ++ F2, h1, h2, ?_, ?_, ?_⟩
      · simp only [delT, List.filter_cons]
        have : ((fun e : Nat × T => e.1 != i) (j, y)) = true := by simp [e]
        simp only [this, if_true]
        exact .cons hj hr h3
      · refine List.nodup_append.2 ⟨k1, List.nodup_append.2 ⟨hn1, k2, fun x hx y hy => hn3 x hx y (h5 y (by simp [hy]))⟩, fun x hx y hy => ?_⟩
        rcases List.mem_append.1 hy with hy | hy
        · exact fun e => hn3 y hy x (h5 x (by simp [hx])) e.symm
        · exact k3 x hx y hy
      · intro b hb
        rcases List.mem_append.1 hb with hb | hb
        · simp [h5 b (by simp [hb])]
        · rcases List.mem_append.1 hb with hb | hb
          · simp [hb]
          · simp [h5 b (by simp [hb])]

theorem Tmps.read {R w a i x} : ∀ {t F}, Tmps R w a t F → getT t i = some x → ∃ v F1, a[i]? = some v ∧ TRep R w x v F1 ∧ ∀ b ∈ F1, b ∈ F
  | _, _, .nil, h => by simp [getT] at h
  | _, _, .cons (i := j) (x := y) (v := v) (F := F) (t := t) (G := G) hj hr ht, h => by
    by_cases e : j = i
    · subst e; simp [getT] at h; subst h
      exact ⟨v, F, hj, hr, fun b hb => by simp [hb]⟩
    · simp only [getT, e, if_false] at h
      obtain ⟨v', F1, h1, h2, h3⟩ := ht.read h
      exact ⟨v', F1, h1, h2, fun b hb => by simp [h3 b hb]⟩

end Go.Px


namespace Go.Px
set_option linter.unusedVariables false
set_option linter.unusedSimpArgs false
set_option linter.constructorNameAsVariable false

/-- Blocks of cells keep what is frozen of them; of new ones nothing is; draws are not taken back. -/
def Frs (w0 w : World) : Prop := (∀ (b : Nat) (arr : Array Value) (el : TypeId) (fr : Nat × Nat), w.heap[b]? = some (.cells arr el fr) → (∃ arr0 el0, w0.heap[b]? = some (.cells arr0 el0 fr)) ∨ (w0.heap.size ≤ b ∧ fr = (0, 0))) ∧ w0.drawn ≤ w.drawn
/-- Of blocks from g on nothing is frozen. -/
def Pl (g : Nat) (w : World) : Prop := ∀ (b : Nat) (arr : Array Value) (el : TypeId) (fr : Nat × Nat), g ≤ b → w.heap[b]? = some (.cells arr el fr) → fr = (0, 0)
theorem Frs.refl (w : World) : Frs w w := ⟨fun b arr el fr h => .inl ⟨arr, el, h⟩, Nat.le_refl _⟩
theorem Frs.drew (w : World) : Frs w { w with drawn := w.drawn + 1 } := ⟨fun b arr el fr h => .inl ⟨arr, el, h⟩, Nat.le_succ _⟩
theorem Frs.trans {w0 w1 w2 : World} (h : Frs w0 w1) (hs : w0.heap.size ≤ w1.heap.size) (k : Frs w1 w2) : Frs w0 w2 := ⟨fun b arr el fr hb => by
  rcases k.1 b arr el fr hb with ⟨a1, e1, h1⟩ | ⟨h1, h2⟩
  · exact h.1 b a1 e1 fr h1
  · exact .inr ⟨by omega, h2⟩, Nat.le_trans h.2 k.2⟩
theorem Frs.pl {w0 w : World} {g : Nat} (h : Frs w0 w) (hg : g ≤ w0.heap.size) (hp : Pl g w0) : Pl g w := fun b arr el fr hb hl => by
  rcases h.1 b arr el fr hl with ⟨a0, e0, h0⟩ | ⟨-, h2⟩
  · exact hp b a0 e0 fr hb h0
  · exact h2
theorem Frs.push (w : World) (arr : Array Value) (el : TypeId) (k : Nat) (hk : w.drawn ≤ k := by first | exact Nat.le_refl _ | exact Nat.le_succ _) : Frs w { w with heap := w.heap.push (.cells arr el), drawn := k } := ⟨fun b arr' el' fr h => by
  simp only [Array.getElem?_push] at h
  split at h
  · rename_i hb
    cases h
    exact .inr ⟨by omega, rfl⟩
  · exact .inl ⟨arr', el', h⟩, hk⟩
theorem Frs.row {w w' : World} {b : Nat} {arr arr' : Array Value} {el el' : TypeId} {fr : Nat × Nat} (hb : w.heap[b]? = some (.cells arr el fr)) (hn : w'.heap[b]? = some (.cells arr' el' fr)) (ho : ∀ b', b' ≠ b → w'.heap[b']? = w.heap[b']?) (hd : w.drawn ≤ w'.drawn) : Frs w w' := ⟨fun b' arr1 el1 fr1 h => by
  by_cases e : b' = b
  · subst e
    rw [hn] at h; cases h
    exact .inl ⟨_, _, hb⟩
  · rw [ho b' e] at h
    exact .inl ⟨_, _, h⟩, hd⟩
theorem Frs.setCell (w : World) (a : Addr) (x : Value) : Frs w (w.setCell a x) := ⟨fun b arr el fr h => by
  simp only [World.setCell, Array.getElem?_modify] at h
  split at h
  · cases hb : w.heap[b]? with
    | none => rw [hb] at h; simp at h
    | some o =>
      rw [hb] at h
      cases o <;> simp at h
      obtain ⟨-, rfl, rfl⟩ := h
      exact .inl ⟨_, _, rfl⟩
  · exact .inl ⟨_, _, h⟩, Nat.le_refl _⟩
theorem Pl.top (w : World) : Pl w.heap.size w := fun b arr el fr hb h => by
  have := (Array.getElem?_eq_some_iff.1 h).1
  omega
/-- From world w0 to w: only what A owns, and what is new, has turned; what is owned now (B) was owned then or is new. -/
structure Ext (w0 w : World) (A B : List Nat) : Prop where
  os : w.os = w0.os
  tape : w.tape = w0.tape
  output : w.output = w0.output
  size : w0.heap.size ≤ w.heap.size ∧ Frs w0 w
  same : ∀ b, b < w0.heap.size → b ∉ A → w.heap[b]? = w0.heap[b]?
  new : ∀ b ∈ B, b ∈ A ∨ w0.heap.size ≤ b

theorem Ext.refl (w : World) (A : List Nat) : Ext w w A A := ⟨rfl, rfl, rfl, ⟨Nat.le_refl _, Frs.refl w⟩, fun _ _ _ => rfl, fun b h => .inl h⟩
theorem Ext.sub {w0 w A B B'} (h : Ext w0 w A B) (hs : ∀ b ∈ B', b ∈ B) : Ext w0 w A B' := ⟨h.os, h.tape, h.output, h.size, h.same, fun b hb => h.new b (hs b hb)⟩
theorem Ext.trans {w0 w1 w2 A B C} (h : Ext w0 w1 A B) (k : Ext w1 w2 B C) : Ext w0 w2 A C where
  os := k.os.trans h.os
  tape := k.tape.trans h.tape
  output := k.output.trans h.output
  size := ⟨Nat.le_trans h.size.1 k.size.1, h.size.2.trans h.size.1 k.size.2⟩
  same := fun b hb hA => (k.same b (Nat.lt_of_lt_of_le hb h.size.1) (fun hB => by rcases h.new b hB with h' | h'; exact hA h'; have := h.size.1; omega)).trans (h.same b hb hA)
  new := fun b hb => by
    rcases k.new b hb with h' | h'
    · exact h.new b h'
    · exact .inr (Nat.le_trans h.size.1 h')

/-- Where an activation began: what was there, and what it may touch. -/
structure Env where
  g : Nat
  w0 : World
  β0 : Nm → Value
  H0 : HH
  F0 : List Nat
  N : Nat
  d : Nat

/-- What is known in an activation. -/
structure St where
  t : List (Nat × T)
  H : HH
  lg : List (Nm × Path)

structure RelX (e : Env) (s : St) (a : Array Value) (w : World) (β : Nm → Value) (F G : List Nat) : Prop where
  holds : Holds e.g (VP w β s.H) w β s.H F
  tmps : Tmps (VP w β s.H) w a s.t G
  nd : (F ++ G).Nodup
  low : ∀ b ∈ F ++ G, e.g ≤ b
  ext : Ext e.w0 w e.F0 (F ++ G)
  gle : e.g ≤ e.w0.heap.size ∧ Pl e.g e.w0
  out : ∀ r, r.1 ≠ e.d → β r = e.β0 r
  fresh : ∀ x ∈ e.H0, x.1.1 ≠ e.d
  stab : ∀ y x, ¬ hit1 s.lg y → VP1 e.w0 e.β0 e.H0 y x → VP1 w β s.H y x
  size : a.size = e.N
  hd : e.d ≠ 0

def Rel (e : Env) (s : St) (a : Act) (w : World) : Prop := a.defers = [] ∧ ∃ β F G, RelX e s a.tmps w β F G

theorem RelX.gw {e s a w β F G} (h : RelX e s a w β F G) : e.g ≤ w.heap.size ∧ Pl e.g w := ⟨Nat.le_trans h.gle.1 h.ext.size.1, h.ext.size.2.pl h.gle.1 h.gle.2⟩

theorem clean_false (c : Cell) : Clean (fun _ => False) c := fun _ _ _ _ => id
mutual
theorem tclean_false : ∀ x : T, x.clean (fun _ => False)
  | .c x => clean_false x
  | .a l => fun c _ => clean_false c
  | .t l => tcleans_false l
  | .u => trivial
theorem tcleans_false : ∀ l : List T, T.cleans (fun _ => False) l
  | [] => trivial
  | x :: l => ⟨tclean_false x, tcleans_false l⟩
end

theorem nodup_sub {A B C D : List Nat} (h : (A ++ B).Nodup) (hC : C.Nodup) (hD : D.Nodup) (hc : ∀ b ∈ C, b ∈ A) (hd : ∀ b ∈ D, b ∈ B) : (C ++ D).Nodup :=
  List.nodup_append.2 ⟨hC, hD, fun x hx y hy => (List.nodup_append.1 h).2.2 x (hc x hx) y (hd y hy)⟩

/-- What is no more known of temporaries. -/
theorem Rel.keep {e s a w} (h : Rel e s a w) (p : Nat × T → Bool) : Rel e { s with t := s.t.filter p } a w := by
  obtain ⟨hd, β, F, G, h⟩ := h
  obtain ⟨G', h1, h2⟩ := h.tmps.filter p
  have hs : ∀ b ∈ F ++ G', b ∈ F ++ G := fun b hb => by
    rcases List.mem_append.1 hb with hb | hb
    · simp [hb]
    · simp [h2.subset hb]
  exact ⟨hd, β, F, G', { h with tmps := h1, nd := List.Nodup.sublist (List.Sublist.append (.refl _) h2) h.nd, low := fun b hb => h.low b (hs b hb), ext := h.ext.sub hs }⟩

theorem Tmps.set {R w a dst x v Fx t G} (h : Tmps R w a t G) (hx : TRep R w x v Fx) (hd : dst < a.size) :
    ∃ G', Tmps R w (a.setIfInBounds dst v) (setT t dst x) (Fx ++ G') ∧ G'.Sublist G := by
  obtain ⟨G', h1, h2⟩ := h.filter (fun e => e.1 != dst)
  refine ⟨G', .cons (by simp [Array.getElem?_setIfInBounds, hd]) hx ?_, h2⟩
  refine h1.mono (K := fun _ => False) (fun e _ => tclean_false e.2) (fun e he => ?_) (fun _ _ _ _ h => h) (fun _ _ => rfl)
  have : e.1 ≠ dst := by have := (List.mem_filter.1 he).2; simpa using this
  rw [Array.getElem?_setIfInBounds, if_neg (fun h => this h.symm)]

/-- A temporary is written, nothing else happens; t' is what is left of the temporaries. -/
theorem RelX.put {e s a w β F G dst x v Fx t' G'} (h : RelX e s a w β F G) (ht : Tmps (VP w β s.H) w a t' G') (hx : TRep (VP w β s.H) w x v Fx) (hn : (Fx ++ G').Nodup) (hs : ∀ b ∈ Fx ++ G', b ∈ G) (hd : dst < e.N) :
    ∃ G'', RelX e { s with t := setT t' dst x } (a.setIfInBounds dst v) w β F G'' := by
  obtain ⟨G2, h1, h2⟩ := ht.set hx (by rw [h.size]; exact hd)
  have hs2 : ∀ b ∈ Fx ++ G2, b ∈ G := fun b hb => hs b ((List.Sublist.append (.refl _) h2).subset hb)
  have hs3 : ∀ b ∈ F ++ (Fx ++ G2), b ∈ F ++ G := fun b hb => by
    rcases List.mem_append.1 hb with hb | hb
    · simp [hb]
    · simp [hs2 b hb]
  refine ⟨Fx ++ G2, { h with tmps := h1, nd := ?_, low := fun b hb => h.low b (hs3 b hb), ext := h.ext.sub hs3, size := by rw [Array.size_setIfInBounds]; exact h.size }⟩
  exact nodup_sub h.nd (List.nodup_append.1 h.nd).1 (List.Nodup.sublist (List.Sublist.append (.refl _) h2) hn) (fun b hb => hb) hs2

def isOwn : Cell → Bool
  | .own .. => true
  | _ => false
mutual
def T.bare : T → Bool   -- nothing owned at its face
  | .c x => !isOwn x
  | .a l => l.all (fun x => !isOwn x)
  | .t l => T.bares l
  | .u => true
def T.bares : List T → Bool
  | [] => true
  | x :: l => T.bare x && T.bares l
end

theorem Rep.bare {R w c x F} (h : Rep R w c x F) (hb : isOwn c = false) : F = [] := by
  cases h <;> first | rfl | simp [isOwn] at hb
theorem VRep.bare {R w} : ∀ {l vs F}, VRep R w l vs F → l.all (fun x => !isOwn x) = true → F = []
  | _, _, _, .nil, _ => rfl
  | _, _, _, .cons hr ht, h => by
    simp at h
    rw [hr.bare h.1, ht.bare (by simpa using h.2)]; rfl
mutual
theorem TRep.bare {R w} : ∀ {x v F}, TRep R w x v F → x.bare = true → F = []
  | _, _, _, .c hr, h => hr.bare (by simpa [T.bare] using h)
  | _, _, _, .a hr, h => hr.bare (by simpa [T.bare] using h)
  | _, _, _, .t hr, h => TReps.bare hr (by simpa [T.bare] using h)
  | _, _, _, .u _, h => rfl
theorem TReps.bare {R w} : ∀ {l vs F}, TReps R w l vs F → T.bares l = true → F = []
  | _, _, _, .nil, _ => rfl
  | _, _, _, .cons hr ht, h => by
    simp [T.bares] at h
    rw [TRep.bare hr h.1, TReps.bare ht h.2]; rfl
end

/-- What a constant is. -/
def constT : Value → T
  | .slice none 0 0 => .c (.own 0 [])
  | v => if flat v then .c (.v v) else .u

theorem constT_rep (R w) (v : Value) : TRep R w (constT v) v [] := by
  unfold constT
  split
  · exact .c (.nil _ _)
  · split
    · exact .c (.v _ (by assumption))
    · exact .u _

/-- An operand, and the temporaries behind its use: what owns something is used up. -/
def rdO (t : List (Nat × T)) : Operand → Option T
  | .tmp i => getT t i
  | .const v => some (constT v)
  | .func f => some (.c (.fn f []))
  | _ => none
def tkO (t : List (Nat × T)) : Operand → Option (T × List (Nat × T))
  | .tmp i => (getT t i).map fun x => (x, if x.bare then t else delT t i)
  | o => (rdO t o).map fun x => (x, t)

theorem tkO_rep {w a β H t G o x t'} {ds : List Deferred} (h : Tmps (VP w β H) w a t G) (hn : G.Nodup) (hx : tkO t o = some (x, t')) :
    ∃ Fx G', TRep (VP w β H) w x ((⟨a, ds⟩ : Act).eval o) Fx ∧ Tmps (VP w β H) w a t' G' ∧ (Fx ++ G').Nodup ∧ ∀ b ∈ Fx ++ G', b ∈ G := by
  cases o with
  | tmp i =>
    simp only [tkO, Option.map_eq_some_iff, Prod.mk.injEq] at hx
    obtain ⟨y, hy, rfl, rfl⟩ := hx
    obtain ⟨v, F1, F2, h1, h2, h3, h4, h5⟩ := h.take hy hn
    have hv : (⟨a, ds⟩ : Act).eval (.tmp i) = v := by simp [Act.eval, Array.getD_eq_getD_getElem?, h1]
    rw [hv]
    split
    · rename_i hb
      have := h2.bare hb
      subst this
      exact ⟨[], G, h2, h, by simpa using hn, by simp⟩
    · exact ⟨F1, F2, h2, h3, h4, h5⟩
  | const v =>
    simp [tkO, rdO] at hx
    obtain ⟨rfl, rfl⟩ := hx
    exact ⟨[], G, constT_rep _ _ v, h, by simpa using hn, by simp⟩
  | func f =>
    simp [tkO, rdO] at hx
    obtain ⟨rfl, rfl⟩ := hx
    exact ⟨[], G, .c (.ref rfl rfl ⟨[], rfl, rfl, by simp⟩), h, by simpa using hn, by simp⟩
  | global g => simp [tkO, rdO] at hx

theorem rdO_rep {w a β H t G o x} {ds : List Deferred} (h : Tmps (VP w β H) w a t G) (hx : rdO t o = some x) :
    ∃ Fx, TRep (VP w β H) w x ((⟨a, ds⟩ : Act).eval o) Fx ∧ ∀ b ∈ Fx, b ∈ G := by
  cases o with
  | tmp i =>
    obtain ⟨v, F1, h1, h2, h3⟩ := h.read hx
    have hv : (⟨a, ds⟩ : Act).eval (.tmp i) = v := by simp [Act.eval, Array.getD_eq_getD_getElem?, h1]
    rw [hv]
    exact ⟨F1, h2, h3⟩
  | const v =>
    simp [rdO] at hx
    subst hx
    exact ⟨[], constT_rep _ _ v, by simp⟩
  | func f =>
    simp [rdO] at hx
    subst hx
    exact ⟨[], .c (.ref rfl rfl ⟨[], rfl, rfl, by simp⟩), by simp⟩
  | global g => simp [rdO] at hx

theorem rdO_v {w a β H t G o y} {ds : List Deferred} (h : Tmps (VP w β H) w a t G) (hx : rdO t o = some (.c (.v y))) : (⟨a, ds⟩ : Act).eval o = y := by
  obtain ⟨Fx, h1, -⟩ := rdO_rep (ds := ds) h hx
  cases h1 with
  | c hr =>
    generalize (⟨a, ds⟩ : Act).eval o = z at hr
    cases hr with
    | v => rfl
    | ref hi => simp [isRef] at hi

end Go.Px


namespace Go.Px
set_option linter.unusedVariables false
set_option linter.unusedSimpArgs false
set_option linter.constructorNameAsVariable false

structure Cx where
  P : Program
  d : Nat
  N : Nat

/-- An operation, told of what is known. -/
def SOp (cx : Cx) (o : Oper) (s : St) (K : St → Prop) : Prop :=
  ∀ (e : Env) (a : Act) (w : World) (next : Act → World → Prop) (Q : Exit → Act → World → Prop), e.d = cx.d → e.N = cx.N → Rel e s a w →
    (∀ s' a' w', K s' → Rel e s' a' w' → next a' w') → o.wp cx.P a w next Q

/-- A list of operations. -/
def SOps (cx : Cx) (ops : Array Oper) (l : List Nat) (s : St) (K : St → Prop) : Prop :=
  ∀ (e : Env) (a : Act) (w : World) (Q : Exit → Act → World → Prop), e.d = cx.d → e.N = cx.N → Rel e s a w →
    (∀ s' a' w', K s' → Rel e s' a' w' → Q .normal a' w') → wpOps cx.P ops Q l a w

theorem SOps.nil {cx ops s K} (h : K s) : SOps cx ops [] s K := fun e a w Q _ _ hr hk => hk s a w h hr

theorem SOps.cons {cx ops i l s K o} (ho : ops[i]? = some o) (hg : o.guard = none) (h : SOp cx o s (fun s' => SOps cx ops l s' K)) : SOps cx ops (i :: l) s K := by
  intro e a w Q hd hN hr hk
  simp only [wpOps, ho]
  have : Region.wanted o (yielded ops a.tmps) = true := by simp [Region.wanted, hg]
  rw [if_pos this]
  exact .inl (h e a w _ Q hd hN hr (fun s' a' w' hs' hr' => hs' e a' w' Q hd hN hr' hk))

theorem SOps.guard {cx ops i l s K o j b b' dj} {oj : Oper} (ho : ops[i]? = some o) (hg : o.guard = some (j, b)) (hj : ops[j]? = some oj) (hdj : oj.dst = some dj) (hb : getT s.t dj = some (.c (.v (.bool b'))))
    (ht : b' = b → SOp cx o s (fun s' => SOps cx ops l s' K)) (hf : b' ≠ b → ∀ d, o.dst = some d → d < cx.N ∧ SOps cx ops l { s with t := setT s.t d .u } K) (hd0 : ∃ d, o.dst = some d) : SOps cx ops (i :: l) s K := by
  intro e a w Q hd hN hr hk
  simp only [wpOps, ho]
  obtain ⟨hdf, β, F, G, hx⟩ := hr
  have hv : a.tmps[dj]? = some (.bool b') := by
    obtain ⟨v, F1, h1, h2, -⟩ := hx.tmps.read hb
    cases h2 with
    | c hrep =>
      cases hrep with
      | v => exact h1
      | ref hi => simp [isRef] at hi
  have hw : Region.wanted o (yielded ops a.tmps) = (b' == b) := by
    simp [Region.wanted, hg, yielded, hj, hdj, hv, Array.getD_eq_getD_getElem?]
  rw [hw]
  by_cases hbb : b' = b
  · subst hbb
    simp only [beq_self_eq_true, if_true]
    exact .inl (ht rfl e a w _ Q hd hN ⟨hdf, β, F, G, hx⟩ (fun s' a' w' hs' hr' => hs' e a' w' Q hd hN hr' hk))
  · have : (b' == b) = false := by simpa using hbb
    simp only [this]
    obtain ⟨d, hdst⟩ := hd0
    obtain ⟨hdN, hrest⟩ := hf hbb d hdst
    simp only [Bool.false_eq_true, if_false]
    obtain ⟨G'', hx'⟩ := hx.put (dst := d) (x := .u) (v := undef) (Fx := []) hx.tmps (.u _) (by simpa using (List.nodup_append.1 hx.nd).2.1) (by simp) (by rw [hN]; exact hdN)
    refine hrest e _ w Q hd hN ⟨?_, β, F, G'', ?_⟩ hk
    · simp [Act.put, hdst, hdf]
    · simpa [Act.put, hdst] using hx'

theorem Act.put_defers (a : Act) (d : Option Tmp) (v : Value) : (a.put d v).defers = a.defers := by cases d <;> rfl

/-- An operation that gives a value and turns nothing. -/
theorem SOp.value {cx o s K dst x t'} (hdst : o.dst = some dst) (hN : dst < cx.N)
    (h : ∀ (w : World) (a : Act) (β : Nm → Value) (F G : List Nat) (e : Env), RelX e s a.tmps w β F G → ∃ v Fx G', (execOp a.eval o).run cx.P w = .ok (.value v) w ∧ Tmps (VP w β s.H) w a.tmps t' G' ∧
      TRep (VP w β s.H) w x v Fx ∧ (Fx ++ G').Nodup ∧ ∀ b ∈ Fx ++ G', b ∈ G) (hK : K { s with t := setT t' dst x }) : SOp cx o s K := by
  intro e a w next Q hd hNe hr hk
  obtain ⟨hdf, β, F, G, hx⟩ := hr
  obtain ⟨v, Fx, G', h1, h2, h3, h4, h5⟩ := h w a β F G e hx
  unfold Oper.wp
  rw [h1]
  show next (a.put o.dst v) w
  obtain ⟨G'', hx'⟩ := hx.put h2 h3 h4 h5 (by rw [hNe]; exact hN)
  refine hk _ _ _ hK ⟨by rw [Act.put_defers]; exact hdf, β, F, G'', ?_⟩
  simpa [Act.put, hdst] using hx'

/-- ... and whose value owns nothing: no temporary is used up. -/
theorem SOp.plain {cx o s K dst x} (hdst : o.dst = some dst) (hN : dst < cx.N)
    (h : ∀ (w : World) (a : Act) (β : Nm → Value) (F G : List Nat) (e : Env), RelX e s a.tmps w β F G → ∃ v, (execOp a.eval o).run cx.P w = .ok (.value v) w ∧ TRep (VP w β s.H) w x v [])
    (hK : K { s with t := setT s.t dst x }) : SOp cx o s K := by
  refine SOp.value hdst hN (fun w a β F G e hx => ?_) hK
  obtain ⟨v, h1, h2⟩ := h w a β F G e hx
  exact ⟨v, [], G, h1, hx.tmps, h2, by simpa using (List.nodup_append.1 hx.nd).2.1, by simp⟩

theorem ev_v {a : Act} {w β H G o y} {t : List (Nat × T)} (h : Tmps (VP w β H) w a.tmps t G) (hx : rdO t o = some (.c (.v y))) : a.eval o = y := by
  obtain ⟨tm, ds⟩ := a
  exact rdO_v h hx

/-- a scalar result -/
theorem SOp.scal {cx o s K dst y} (hdst : o.dst = some dst) (hN : dst < cx.N) (hf : flat y = true)
    (h : ∀ (w : World) (a : Act) (β : Nm → Value) (G : List Nat), Tmps (VP w β s.H) w a.tmps s.t G → (execOp a.eval o).run cx.P w = .ok (.value y) w)
    (hK : K { s with t := setT s.t dst (.c (.v y)) }) : SOp cx o s K :=
  SOp.plain hdst hN (fun w a β F G e hx => ⟨y, h w a β G hx.tmps, .c (.v y hf)⟩) hK

/-- What a binary operation on numbers, strings and truths gives. -/
def pbin (op : BinOp) : Value → Value → Option Value
  | .int k x, .int k' y =>
    match op with
    | .shl => if 0 ≤ y then some (.int k (k.wrap (x * 2 ^ (min y.toNat k.bits)))) else none
    | .shr => if 0 ≤ y then some (.int k (x.fdiv (2 ^ (min y.toNat k.bits)))) else none
    | op => if k ≠ k' then none else
      match op with
      | .add => some (.int k (k.wrap (x + y)))
      | .sub => some (.int k (k.wrap (x - y)))
      | .mul => some (.int k (k.wrap (x * y)))
      | .quo => if y = 0 then none else some (.int k (k.wrap (x.tdiv y)))
      | .rem => if y = 0 then none else some (.int k (x.tmod y))
      | .and => some (.int k (k.wrap (BitVec.ofInt k.bits x &&& BitVec.ofInt k.bits y).toNat))
      | .or => some (.int k (k.wrap (BitVec.ofInt k.bits x ||| BitVec.ofInt k.bits y).toNat))
      | .eql => some (.bool (decide (x = y)))
      | .neq => some (.bool (decide (x ≠ y)))
      | .lss => some (.bool (decide (x < y)))
      | .leq => some (.bool (decide (x ≤ y)))
      | .gtr => some (.bool (decide (x > y)))
      | .geq => some (.bool (decide (x ≥ y)))
      | _ => none
  | .string x, .string y =>
    match op with
    | .eql => some (.bool (x.toList == y.toList))
    | .neq => some (.bool !(x.toList == y.toList))
    | .add => if ((x.size + y.size : Nat) : Int) > IntKind.i64.max then none else some (.string (x ++ y))
    | _ => none
  | _, _ => none

theorem pbin_flat {op x y z} (h : pbin op x y = some z) : flat z = true := by
  unfold pbin at h
  repeat' split at h
  all_goals first | (cases h; rfl) | (simp at h)

theorem pbin_guard {P : Program} {op x y z t} {ox oy : Operand} (h : pbin op x y = some z) (w : World) : (eqGuard op t ox oy x y).run P w = .ok () w := by
  cases x with
  | int k x =>
    cases y with
    | int k' y => cases op <;> simp [eqGuard, Sem.run, pure, bind, Sem.bind]
    | _ => simp [pbin] at h
  | string x =>
    cases y with
    | string y => cases op <;> simp [eqGuard, Sem.run, pure, bind, Sem.bind]
    | _ => simp [pbin] at h
  | _ => simp [pbin] at h
theorem pbin_run {P : Program} {op x y z t} (h : pbin op x y = some z) (w : World) : (binOp op t x y).run P w = .ok z w := by
  cases x with
  | int k x =>
    cases y with
    | int k' y =>
      cases op <;> simp only [pbin] at h <;> (try (split at h)) <;> (try (split at h)) <;> (try (simp at h)) <;> (try subst h) <;>
        simp_all [binOp, Op.shift, Op.intArith, Op.intDiv, Op.intBits, Op.intCmp, Sem.run, pure, bind, Sem.bind]
      all_goals first | (intro hh; omega) | (by_cases e : x = y <;> simp [e])
    | _ => simp [pbin] at h
  | string x =>
    cases y with
    | string y =>
      cases op <;> simp only [pbin] at h <;> (try (split at h)) <;> (try (simp at h)) <;> (try subst h) <;>
        simp_all [binOp, Op.stringOp, Sem.run, pure, bind, Sem.bind]
    | _ => simp [pbin] at h
  | _ => simp [pbin] at h

theorem SOp.bin {cx o s K dst op tx x y ty a b z} (ho : o.op = .binOp op tx x y ty) (hdst : o.dst = some dst) (hN : dst < cx.N) (hx : rdO s.t x = some (.c (.v a))) (hy : rdO s.t y = some (.c (.v b))) (hz : pbin op a b = some z)
    (hK : K { s with t := setT s.t dst (.c (.v z)) }) : SOp cx o s K := by
  refine SOp.scal hdst hN (pbin_flat hz) (fun w ac β G ht => ?_) hK
  have h1 := ev_v ht hx
  have h2 := ev_v ht hy
  simp [execOp, ho, h1, h2, Sem.run_bind, pbin_guard hz, pbin_run hz, Result.andThen]

/-- what a comparison of truths gives -/
def pbool (op : BinOp) : Value → Value → Option Value
  | .bool a, .bool b => if op = .eql then some (.bool (a == b)) else if op = .neq then some (.bool (!(a == b))) else none
  | _, _ => none
theorem SOp.binB {cx o s K dst op tx x y ty a b z} (ho : o.op = .binOp op tx x y ty) (hdst : o.dst = some dst) (hN : dst < cx.N) (hx : rdO s.t x = some (.c (.v a))) (hy : rdO s.t y = some (.c (.v b))) (hz : pbool op a b = some z) (ht0 : cx.P.underlying tx = some .bool)
    (hK : K { s with t := setT s.t dst (.c (.v z)) }) : SOp cx o s K := by
  have hab : ∃ a' b', a = .bool a' ∧ b = .bool b' ∧ (op = .eql ∧ z = .bool (a' == b') ∨ op = .neq ∧ z = .bool (!(a' == b'))) := by
    unfold pbool at hz
    split at hz
    · rename_i a' b'
      split at hz
      · cases hz; exact ⟨a', b', rfl, rfl, .inl ⟨by assumption, rfl⟩⟩
      · split at hz
        · cases hz; exact ⟨a', b', rfl, rfl, .inr ⟨by assumption, rfl⟩⟩
        · cases hz
    · cases hz
  obtain ⟨a', b', rfl, rfl, h⟩ := hab
  have hf : flat z = true := by rcases h with ⟨-, rfl⟩ | ⟨-, rfl⟩ <;> rfl
  refine SOp.scal hdst hN hf (fun w ac β G ht => ?_) hK
  have h1 := ev_v ht hx
  have h2 := ev_v ht hy
  have he := run_equal_bool (P := cx.P) w tx a' b' ht0
  rcases h with ⟨rfl, rfl⟩ | ⟨rfl, rfl⟩
  · simp [execOp, ho, h1, h2, Sem.run_bind, eqGuard, binOp, he, Result.andThen, Sem.run, pure]
  · simp [execOp, ho, h1, h2, Sem.run_bind, eqGuard, binOp, he, Result.andThen, Sem.run, pure]

/-- not, minus -/
def pun (op : UnOp) : Value → Option Value
  | .bool b => if op = .not then some (.bool !b) else none
  | .int k n => if op = .neg then some (.int k (k.wrap (0 - n))) else none
  | _ => none
theorem SOp.un {cx o s K dst op tx x a z} (ho : o.op = .unOp op tx x) (hdst : o.dst = some dst) (hN : dst < cx.N) (hx : rdO s.t x = some (.c (.v a))) (hz : pun op a = some z)
    (hK : K { s with t := setT s.t dst (.c (.v z)) }) : SOp cx o s K := by
  have hf : flat z = true := by
    unfold pun at hz
    repeat' split at hz
    all_goals first | (cases hz; rfl) | (simp at hz)
  refine SOp.scal hdst hN hf (fun w ac β G ht => ?_) hK
  have h1 := ev_v ht hx
  have hr : (Op.unary op a).run cx.P w = .ok z w := by
    cases a <;> simp [pun] at hz
    · obtain ⟨rfl, rfl⟩ := hz; simp [Op.unary, Sem.run, pure]
    · obtain ⟨rfl, rfl⟩ := hz; simp [Op.unary, Op.intArith, Sem.run, pure]
  simp [execOp, ho, h1, Sem.run_bind, hr, Result.andThen]

theorem SOp.conv {cx o s K dst src dt x k k' n} (ho : o.op = .convert src dt x) (hdst : o.dst = some dst) (hN : dst < cx.N) (hx : rdO s.t x = some (.c (.v (.int k n)))) (hs : (cx.P.underlying src).isSome = true) (hk : cx.P.underlying dt = some (.int k'))
    (hK : K { s with t := setT s.t dst (.c (.v (.int k' (k'.wrap n)))) }) : SOp cx o s K := by
  refine SOp.scal hdst hN rfl (fun w ac β G ht => ?_) hK
  have h1 := ev_v ht hx
  obtain ⟨d, hd⟩ := Option.isSome_iff_exists.1 hs
  simp [execOp, ho, h1, convert, Sem.run_bind, underlying, program, Sem.run, hk, hd, Conv.intToInt, Result.andThen, pure]

theorem SOp.pick {cx o s K dst c x y b z} (ho : o.op = .pick c x y) (hdst : o.dst = some dst) (hN : dst < cx.N) (hc : rdO s.t c = some (.c (.v (.bool b)))) (hx : (if b then rdO s.t x else rdO s.t y) = some (.c (.v z)))
    (hf : flat z = true) (hK : K { s with t := setT s.t dst (.c (.v z)) }) : SOp cx o s K := by
  refine SOp.scal hdst hN hf (fun w ac β G ht => ?_) hK
  have h1 := ev_v ht hc
  have h2 : (if b then ac.eval x else ac.eval y) = z := by
    cases b
    · exact ev_v ht hx
    · exact ev_v ht hx
  simp [execOp, ho, h1, asBool, Sem.run_bind, Result.andThen, Sem.run, pure, ← h2]

end Go.Px


namespace Go.Px
open Go.RowKit
set_option linter.unusedVariables false
set_option linter.unusedSimpArgs false
set_option linter.constructorNameAsVariable false

theorem lt_of_block {w : World} {b arr el fr} (h : w.heap[b]? = some (Obj.cells arr el fr)) : b < w.heap.size := (Array.getElem?_eq_some_iff.1 h).1

theorem VRep.block {R w} : ∀ {l vs F}, VRep R w l vs F → ∀ b ∈ F, ∃ arr el fr, w.heap[b]? = some (.cells arr el fr)
  | _, _, _, .nil => by simp
  | _, _, _, .cons hr ht => fun b hb => by
    rcases List.mem_append.1 hb with h' | h'
    · exact hr.block b h'
    · exact ht.block b h'
mutual
theorem TRep.block {R w} : ∀ {x v F}, TRep R w x v F → ∀ b ∈ F, ∃ arr el fr, w.heap[b]? = some (.cells arr el fr)
  | _, _, _, .c hr => hr.block
  | _, _, _, .a hr => hr.block
  | _, _, _, .t hr => TReps.block hr
  | _, _, _, .u _ => by simp
theorem TReps.block {R w} : ∀ {l vs F}, TReps R w l vs F → ∀ b ∈ F, ∃ arr el fr, w.heap[b]? = some (.cells arr el fr)
  | _, _, _, .nil => by simp
  | _, _, _, .cons hr ht => fun b hb => by
    rcases List.mem_append.1 hb with h' | h'
    · exact TRep.block hr b h'
    · exact TReps.block ht b h'
end
theorem Tmps.block {R w a t F} (h : Tmps R w a t F) : ∀ b ∈ F, ∃ arr el fr, w.heap[b]? = some (.cells arr el fr) := by
  induction h with
  | nil => simp
  | cons _ hr _ ih =>
    intro b hb
    rcases List.mem_append.1 hb with h' | h'
    · exact hr.block b h'
    · exact ih b h'

theorem Ext.below {w w' : World} (h : Below w.heap.size w w') (hf : Frs w w') {A B : List Nat} (hB : ∀ b ∈ B, b ∈ A ∨ w.heap.size ≤ b) : Ext w w' A B := ⟨h.os, h.tape, h.output, ⟨h.size, hf⟩, fun b hb _ => h.block b hb, hB⟩

/-- The world grows: what references mean stays. -/
theorem VP1.grow {g R w w' β H F} (hh : Holds g R w β H F) (hgl : g ≤ w.heap.size) (hw : ∀ b, b < w.heap.size → w'.heap[b]? = w.heap[b]?) : ∀ y x, VP1 w β H y x → VP1 w' β H y x := by
  have key : ∀ r q c z els h, look H r = some c → c.get q = some (.own z els) → hdr w q c (β r) = some h → hdr w' q c (β r) = some h := by
    intro r q c z els h e1 e2 e3
    obtain ⟨F1, k1, k2⟩ := hh.rep e1
    rw [← e3]
    refine k1.hdr_same (fun b hb => ?_) e2
    obtain ⟨arr, el, fr, hb'⟩ := k1.block b hb
    exact hw b (lt_of_block hb')
  intro y x hv
  cases y with
  | sl r q z i n =>
    obtain ⟨c, els, h, e1, e2, e3, e4⟩ := hv
    exact ⟨c, els, h, e1, e2, key r q c z els h e1 e2 e3, e4⟩
  | pt r q z i f =>
    obtain ⟨c, els, h, e1, e2, e3, e4⟩ := hv
    exact ⟨c, els, h, e1, e2, key r q c z els h e1 e2 e3, e4⟩
  | v y => exact hv
  | own z els => exact hv.elim
  | fn f cs => exact hv.elim
  | x => exact hv.elim

theorem VP.of1 {w w' β β' H H'} (h1 : ∀ c x, VP1 w β H c x → VP1 w' β' H' c x) : ∀ c x, isRef c = true → ¬ (fun _ : Cell => False) c → VP w β H c x → VP w' β' H' c x := by
  intro c x hr _ h
  refine VP.map (L := []) (fun c x _ h => h1 c x h) c x hr ?_ h
  cases c with
  | fn f cs => rintro ⟨c, -, hc⟩; cases c <;> simp [hit1] at hc
  | _ => simp [hit, hit1]

theorem RelX.putW {e s a w w' β F G dst x v Fx t' G'} (h : RelX e s a w β F G) (hw : Below w.heap.size w w') (hfs : Frs w w') (ht : Tmps (VP w β s.H) w a t' G') (hx : TRep (VP w β s.H) w' x v Fx) (hn : (Fx ++ G').Nodup)
    (hs : ∀ b ∈ Fx, b ∈ G ∨ w.heap.size ≤ b) (hs' : ∀ b ∈ G', b ∈ G) (hd : dst < e.N) :
    ∃ G'', RelX e { s with t := setT t' dst x } (a.setIfInBounds dst v) w' β F G'' := by
  have hgl : e.g ≤ w.heap.size := h.gw.1
  have hF : ∀ b ∈ F, b < w.heap.size := fun b hb => by obtain ⟨arr, el, fr, hb'⟩ := h.holds.block b hb; exact lt_of_block hb'
  have hG : ∀ b ∈ G, b < w.heap.size := fun b hb => by obtain ⟨arr, el, fr, hb'⟩ := h.tmps.block b hb; exact lt_of_block hb'
  have hv1 := VP1.grow h.holds hgl hw.block
  have hv := VP.of1 hv1
  have ht2 : Tmps (VP w' β s.H) w' a t' G' := ht.mono (fun e _ => tclean_false e.2) (fun _ _ => rfl) hv (fun b hb => hw.block b (hG b (hs' b hb)))
  have hx2 : TRep (VP w' β s.H) w' x v Fx := hx.mono (tclean_false x) hv (fun _ _ => rfl)
  obtain ⟨G2, h1, h2⟩ := ht2.set hx2 (dst := dst) (by rw [h.size]; exact hd)
  have hsub : ∀ b ∈ Fx ++ G2, b ∈ G ∨ w.heap.size ≤ b := fun b hb => by
    rcases List.mem_append.1 hb with hb | hb
    · exact hs b hb
    · exact .inl (hs' b (h2.subset hb))
  refine ⟨Fx ++ G2, { holds := ?_, tmps := h1, nd := ?_, low := ?_, ext := ?_, gle := h.gle, out := h.out, fresh := h.fresh, stab := fun y x hy hh => hv1 _ _ (h.stab y x hy hh), size := by rw [Array.size_setIfInBounds]; exact h.size, hd := h.hd }⟩
  · exact h.holds.mono (fun _ _ => rfl) (fun e _ => clean_false e.2) hv (fun b hb => hw.block b (hF b hb)) (fun b hb => hw.block b (by omega))
  · refine List.nodup_append.2 ⟨(List.nodup_append.1 h.nd).1, List.Nodup.sublist (List.Sublist.append (.refl _) h2) hn, fun x hx y hy e => ?_⟩
    subst e
    rcases hsub x hy with h' | h'
    · exact (List.nodup_append.1 h.nd).2.2 x hx x h' rfl
    · have := hF x hx; omega
  · intro b hb
    rcases List.mem_append.1 hb with hb | hb
    · exact h.low b (by simp [hb])
    · rcases hsub b hb with h' | h'
      · exact h.low b (by simp [h'])
      · omega
  · refine h.ext.trans (Ext.below hw hfs (fun b hb => ?_))
    rcases List.mem_append.1 hb with hb | hb
    · exact .inl (by simp [hb])
    · exact (hsub b hb).imp (fun h' => by simp [h']) id

/-- A new object under a name that is not there yet: what references mean stays. -/
theorem VP1.root {w β H nm v c} (hl : look H nm = none) : ∀ y x, VP1 w β H y x → VP1 w (fun r => if r = nm then v else β r) ((nm, c) :: H) y x := by
  have key : ∀ r cc, look H r = some cc → r ≠ nm ∧ look ((nm, c) :: H) r = some cc := by
    intro r cc h
    have : r ≠ nm := fun e => by rw [e, hl] at h; cases h
    exact ⟨this, by simp only [look, if_neg (fun e => this (Eq.symm e)), h]⟩
  intro y x hv
  cases y with
  | sl r q z i n =>
    obtain ⟨c, els, h, e1, e2, e3, e4⟩ := hv
    obtain ⟨k1, k2⟩ := key r c e1
    exact ⟨c, els, h, k2, e2, by simp only [if_neg k1]; exact e3, e4⟩
  | pt r q z i f =>
    obtain ⟨c, els, h, e1, e2, e3, e4⟩ := hv
    obtain ⟨k1, k2⟩ := key r c e1
    exact ⟨c, els, h, k2, e2, by simp only [if_neg k1]; exact e3, e4⟩
  | v y => exact hv
  | own z els => exact hv.elim
  | fn f cs => exact hv.elim
  | x => exact hv.elim

theorem look_none : ∀ {H : HH} {nm}, look H nm = none → ∀ e ∈ H, e.1 ≠ nm
  | [], _, _, e, he => by simp at he
  | (s, c) :: t, nm, h, e, he => by
    by_cases hs : s = nm
    · simp [look, hs] at h
    · simp only [look, hs, if_false] at h
      rcases List.mem_cons.1 he with rfl | he
      · exact hs
      · exact look_none h e he

/-- A new object of the activation's own: c, of value v; the temporary dst is x, a reference into it, of value u. -/
theorem RelX.root {e s a w w' β F G dst n x u c v Fc t' G'} (h : RelX e s a w β F G) (hw : Below w.heap.size w w') (hfs : Frs w w') (ht : Tmps (VP w β s.H) w a t' G') (hl : look s.H (e.d, n) = none) (hc : Rep (VP w β s.H) w' c v Fc) (hn : (Fc ++ G').Nodup)
    (hs : ∀ b ∈ Fc, b ∈ G ∨ w.heap.size ≤ b) (hs' : ∀ b ∈ G', b ∈ G) (hd : dst < e.N)
    (hx : TRep (VP w' (fun r => if r = (e.d, n) then v else β r) (((e.d, n), c) :: s.H)) w' x u []) :
    ∃ β' F' G'', RelX e { s with t := setT t' dst x, H := ((e.d, n), c) :: s.H } (a.setIfInBounds dst u) w' β' F' G'' := by
  have hgl : e.g ≤ w.heap.size := h.gw.1
  have hF : ∀ b ∈ F, b < w.heap.size := fun b hb => by obtain ⟨arr, el, fr, hb'⟩ := h.holds.block b hb; exact lt_of_block hb'
  have hG : ∀ b ∈ G, b < w.heap.size := fun b hb => by obtain ⟨arr, el, fr, hb'⟩ := h.tmps.block b hb; exact lt_of_block hb'
  have hv1 : ∀ y x, VP1 w β s.H y x → VP1 w' (fun r => if r = (e.d, n) then v else β r) (((e.d, n), c) :: s.H) y x :=
    fun y x hh => VP1.root hl _ _ (VP1.grow h.holds hgl hw.block _ _ hh)
  have hv := VP.of1 hv1
  have ht2 := ht.mono (w' := w') (a' := a) (fun e _ => tclean_false e.2) (fun _ _ => rfl) hv (fun b hb => hw.block b (hG b (hs' b hb)))
  obtain ⟨G2, h1, h2⟩ := ht2.set hx (dst := dst) (by rw [h.size]; exact hd)
  have hh := h.holds.mono (β' := fun r => if r = (e.d, n) then v else β r) (w' := w') (fun e' he => if_neg (look_none hl e' he)) (fun e _ => clean_false e.2) hv (fun b hb => hw.block b (hF b hb)) (fun b hb => hw.block b (by omega))
  have hsub : ∀ b ∈ (Fc ++ F) ++ G2, b ∈ F ++ G ∨ w.heap.size ≤ b := fun b hb => by
    rcases List.mem_append.1 hb with hb | hb
    · rcases List.mem_append.1 hb with hb | hb
      · exact (hs b hb).imp (fun h' => by simp [h']) id
      · exact .inl (by simp [hb])
    · exact .inl (by simp [hs' b (h2.subset hb)])
  obtain ⟨n1, n2, n3⟩ := List.nodup_append.1 hn
  obtain ⟨m1, m2, m3⟩ := List.nodup_append.1 h.nd
  refine ⟨_, Fc ++ F, G2, { holds := .ow h.hd (by simp only [if_true]; exact hc.mono (clean_false c) hv (fun _ _ => rfl)) hh, tmps := by simpa using h1, nd := ?_, low := ?_, ext := h.ext.trans (Ext.below hw hfs hsub), gle := h.gle, out := ?_, fresh := h.fresh, stab := fun y x hy hh => hv1 _ _ (h.stab y x hy hh), size := by rw [Array.size_setIfInBounds]; exact h.size, hd := h.hd }⟩
  · refine List.nodup_append.2 ⟨List.nodup_append.2 ⟨n1, m1, fun x hx y hy e => ?_⟩, List.Nodup.sublist h2 n2, fun x hx y hy e => ?_⟩
    · subst e
      rcases hs x hx with h' | h'
      · exact m3 x hy x h' rfl
      · have := hF x hy; omega
    · subst e
      rcases List.mem_append.1 hx with hx | hx
      · exact n3 x hx x (h2.subset hy) rfl
      · exact m3 x hx x (hs' x (h2.subset hy)) rfl
  · intro b hb
    rcases hsub b hb with h' | h'
    · exact h.low b h'
    · omega
  · intro r hr
    rw [← h.out r hr]
    exact if_neg (fun e => hr (by rw [e]))

end Go.Px


namespace Go.Px
open Go.RowKit
set_option linter.unusedVariables false
set_option linter.unusedSimpArgs false
set_option linter.constructorNameAsVariable false

theorem get_append : ∀ (q p : Path) (c : Cell), c.get (q ++ p) = (c.get q).bind (·.get p)
  | [], p, c => by simp [Cell.get]
  | (i, f) :: q, p, c => by
    cases c with
    | own z els =>
      simp only [List.cons_append, Cell.get]
      cases (els[i]?.bind (·[f]?)) with
      | none => rfl
      | some c' => simp only [Option.bind_some]; exact get_append q p c'
    | _ => rfl

theorem hdr_append {w : World} : ∀ (q p : Path) (c : Cell) (v : Value) (c0 : Cell) (h : Value), c.get q = some c0 → hdr w q c v = some h → hdr w (q ++ p) c v = hdr w p c0 h
  | [], p, c, v, c0, h, e1, e2 => by simp [Cell.get] at e1; simp [hdr] at e2; subst e1; subst e2; rfl
  | (i, f) :: q, p, c, v, c0, h, e1, e2 => by
    obtain ⟨z, els, row, c', rfl, hi, hf, hg⟩ := get_own e1
    cases v with
    | slice A n cap =>
      cases A with
      | none => simp [hdr] at e2
      | some a =>
        simp only [hdr, hi, hf, Option.bind_some] at e2
        cases hx : w.cell? ⟨a.block, a.off + i * z + f, none⟩ with
        | none => simp [hx] at e2
        | some x =>
          simp only [hx, Option.bind_some] at e2
          simp only [List.cons_append, hdr, hi, hf, Option.bind_some, hx]
          exact hdr_append q p c' x c0 h hg e2
    | _ => simp [hdr] at e2

theorem Rep.node {R w} : ∀ {q : Path} {c vv F c0}, Rep R w c vv F → c.get q = some c0 → ∃ h F0, hdr w q c vv = some h ∧ Rep R w c0 h F0 ∧ ∀ b ∈ F0, b ∈ F
  | [], c, vv, F, c0, h, hg => by simp [Cell.get] at hg; subst hg; exact ⟨vv, F, rfl, h, fun _ h => h⟩
  | (i, f) :: p, c, vv, F, c0, h, hg => by
    obtain ⟨z, els, row, c', rfl, hi, hf, hg'⟩ := get_own hg
    obtain ⟨b, off, cap, x, F0, F1, F2, rfl, hcap, hx, ⟨arr, el, hb, hsz⟩, hrep, rfl, -⟩ := h.step hi hf
    obtain ⟨hh, F3, k1, k2, k3⟩ := hrep.node hg'
    exact ⟨hh, F3, by simp [hdr, hi, hf, hx, k1], k2, fun b' hb' => by simp [k3 b' hb']⟩

/-- The array that stands at a path of an object. -/
def arrAt (H : HH) (r : Nm) (q : Path) : Option (Nat × List (List Cell)) :=
  match (look H r).bind (·.get q) with
  | some (.own z els) => some (z, els)
  | _ => none

theorem arrAt_iff {H r q z els} : arrAt H r q = some (z, els) ↔ ∃ c, look H r = some c ∧ c.get q = some (.own z els) := by
  unfold arrAt
  constructor
  · intro h
    cases hl : look H r with
    | none => simp [hl] at h
    | some c =>
      simp only [hl, Option.bind_some] at h
      cases hg : c.get q with
      | none => simp [hg] at h
      | some c0 =>
        cases c0 <;> simp [hg] at h
        obtain ⟨rfl, rfl⟩ := h
        exact ⟨c, rfl, hg⟩
  · rintro ⟨c, h1, h2⟩
    simp [h1, h2]

/-- What a cell of an object is to a temporary that reads it. -/
def ldc (r : Nm) (q : Path) (i f : Nat) : Cell → Cell
  | .own z els => .sl r (q ++ [(i, f)]) z 0 els.length
  | c => c

/-- A reference at the face of an array: its place in memory, and what is read there. -/
theorem RelX.cell {e s a w β F G r q z els i f row c h} (hx : RelX e s a w β F G) (ha : arrAt s.H r q = some (z, els)) (hh : ∃ c0, look s.H r = some c0 ∧ hdr w q c0 (β r) = some h) (hi : els[i]? = some row) (hf : row[f]? = some c) :
    ∃ b off n0 cap0 x, h = .slice (some ⟨b, off, none⟩) n0 cap0 ∧ w.cell? ⟨b, off + i * z + f, none⟩ = some x ∧ flat x = true ∧ Rep (VP w β s.H) w (ldc r q i f c) x [] := by
  obtain ⟨c0, h1, h2⟩ := arrAt_iff.1 ha
  obtain ⟨c0', h1', h3⟩ := hh
  rw [h1] at h1'; cases h1'
  obtain ⟨F1, hr, -⟩ := hx.holds.rep h1
  obtain ⟨h', F0, k1, k2, k3⟩ := hr.node h2
  rw [h3] at k1; cases k1
  obtain ⟨b, off, cap, x, F0', F1', F2', rfl, hcap, hxc, ⟨arr, el, hb, hsz⟩, hrep, rfl, -⟩ := k2.step hi hf
  refine ⟨b, off, _, cap, x, rfl, hxc, hrep.flat, ?_⟩
  have hg : c0.get (q ++ [(i, f)]) = some c := by rw [get_append, h2]; simp [Cell.get, hi, hf]
  have hd : hdr w (q ++ [(i, f)]) c0 (β r) = some x := by
    rw [hdr_append q [(i, f)] c0 (β r) _ _ h2 h3]
    simp [hdr, hi, hf, hxc]
  cases hrep with
  | v y hfl => exact .v _ hfl
  | x y hfl => exact .x _ hfl
  | ref hi' hfl hv =>
    have : ldc r q i f c = c := by cases c <;> first | rfl | simp [isRef] at hi'
    rw [this]; exact .ref hi' hfl hv
  | nil z' A =>
    refine .ref rfl rfl ⟨c0, [], _, h1, hg, hd, by simp, .inr ⟨by simp, A, rfl, _, _, rfl⟩⟩
  | @own z' b' off' cap' els' arr' el' fr' F' hz hb' hfr' hr' hl' hs' hreps =>
    refine .ref rfl rfl ⟨c0, els', _, h1, hg, hd, by simp, .inl ⟨b', off', els'.length, cap', cap', rfl, by simp, hl', by omega⟩⟩

/-- what a pointer means, taken apart -/
theorem pt_inv {w β H r q z i f x} (h : VP w β H (.pt r q z i f) x) : ∃ els b off n0 cap0, arrAt H r q = some (z, els) ∧ (∃ c0, look H r = some c0 ∧ hdr w q c0 (β r) = some (.slice (some ⟨b, off, none⟩) n0 cap0)) ∧ i < els.length ∧ f < z ∧
    x = .pointer (some ⟨b, off + i * z + f, none⟩) := by
  obtain ⟨c, els, h, e1, e2, e3, e4, e5, b, off, n0, cap0, rfl, rfl⟩ := h
  exact ⟨els, b, off, n0, cap0, arrAt_iff.2 ⟨c, e1, e2⟩, ⟨c, e1, e3⟩, e4, e5, rfl⟩

theorem trep_ref {R w c x F} (h : TRep R w (.c c) x F) (hr : isRef c = true) : R c x := by
  cases h with
  | c h =>
    cases h with
    | ref _ _ h => exact h
    | _ => simp [isRef] at hr

def tsz (P : Program) (t : TypeId) : Nat := P.cellsOf t
def tagg (P : Program) (t : TypeId) : Bool := match P.underlying t with | some (.struct _) | some (.array _ _) => true | _ => false
def tel (P : Program) (t : TypeId) : Option TypeId := match P.underlying t with | some (.slice e) => some e | _ => none
def tzero (P : Program) (t : TypeId) : Option (List Value) := ((P.info? t).bind (·.zero)).map (·.cells.toList)
def tfield (P : Program) (t : TypeId) (f : Nat) : Option (Nat × TypeId) := match P.underlying t with | some (.struct fs) => (fs[f]?).map fun x => (x.offset, x.type) | _ => none
def tok (P : Program) (t : TypeId) : Bool := (P.info? t).isSome && (P.underlying t).isSome

theorem run_isAgg {P : Program} {t w} (h : tok P t = true) : (isAgg t).run P w = .ok (tagg P t) w := by
  simp only [tok, Bool.and_eq_true] at h
  obtain ⟨d, hd⟩ := Option.isSome_iff_exists.1 h.2
  simp only [isAgg, underlying, program, tagg, Sem.run_bind, Sem.run, Result.andThen, hd]
  cases d <;> simp [Sem.run, pure]
theorem run_sizeOf {P : Program} {t w} (h : tok P t = true) : (sizeOf t).run P w = .ok (tsz P t) w := by
  simp only [tok, Bool.and_eq_true] at h
  obtain ⟨d, hd⟩ := Option.isSome_iff_exists.1 h.1
  simp [sizeOf, typeInfo, program, tsz, Program.cellsOf, Sem.run_bind, Sem.run, Result.andThen, hd, pure]

end Go.Px


namespace Go.Px
open Go.RowKit
set_option linter.unusedVariables false
set_option linter.unusedSimpArgs false
set_option linter.constructorNameAsVariable false

theorem SOp.move {cx o s K dst x y t'} (ho : o.op = .move x ∨ o.op = .assign x) (hdst : o.dst = some dst) (hN : dst < cx.N) (hx : tkO s.t x = some (y, t')) (hK : K { s with t := setT t' dst y }) : SOp cx o s K := by
  refine SOp.value hdst hN (fun w a β F G e h => ?_) hK
  obtain ⟨tm, ds⟩ := a
  obtain ⟨Fx, G', h1, h2, h3, h4⟩ := tkO_rep (ds := ds) h.tmps (List.nodup_append.1 h.nd).2.1 hx
  refine ⟨_, Fx, G', ?_, h2, h1, h3, h4⟩
  rcases ho with ho | ho <;> simp [execOp, ho]

/-- The reference to the whole of an array under a name. -/
theorem vp_whole {R : Cell → Value → Prop} {w : World} {β : Nm → Value} {H : HH} {nm : Nm} {z : Nat} {els : List (List Cell)} {v : Value} {F : List Nat} (h : Rep R w (.own z els) v F) : VP w (fun r => if r = nm then v else β r) ((nm, .own z els) :: H) (.sl nm [] z 0 els.length) v ∧ flat v = true := by
  refine ⟨⟨.own z els, els, v, by simp [look], rfl, by simp [hdr], by simp, ?_⟩, h.flat⟩
  cases h with
  | ref hi => simp [isRef] at hi
  | nil z A => exact .inr ⟨rfl, A, rfl, _, _, rfl⟩
  | @own _ b off cap _ arr el fr F hz hb hfr hr hl hs hreps => exact .inl ⟨b, off, _, cap, cap, rfl, by simp, hl, by omega⟩

theorem Rep.rezz {R w z zz els x F} (hzz : z ≠ 0 → zz = z) (h : Rep R w (.own z els) x F) : Rep R w (.own zz els) x F := by
  by_cases h0 : z = 0
  · subst h0
    cases h with
    | nil => exact .nil _ _
    | own h0 => exact absurd h0 (by omega)
    | ref hi => simp [isRef] at hi
  · rw [hzz h0]; exact h
/-- A variable takes what is owned. -/
theorem SOp.bind {cx o s K dst x z els t'} (ho : o.op = .assign x) (hdst : o.dst = some dst) (hN : dst < cx.N) (hx : tkO s.t x = some (.c (.own z els), t')) (hl : look s.H (cx.d, dst) = none) {zz : Nat} (hzz : z ≠ 0 → zz = z)
    (hK : K { s with t := setT t' dst (.c (.sl (cx.d, dst) [] zz 0 els.length)), H := ((cx.d, dst), .own zz els) :: s.H }) : SOp cx o s K := by
  intro e a w next Q hd hNe hr hk
  obtain ⟨hdf, β, F, G, h⟩ := hr
  obtain ⟨tm, ds⟩ := a
  obtain ⟨Fx, G', h1, h2, h3, h4⟩ := tkO_rep (ds := ds) h.tmps (List.nodup_append.1 h.nd).2.1 hx
  have hrun : (execOp (⟨tm, ds⟩ : Act).eval o).run cx.P w = .ok (.value ((⟨tm, ds⟩ : Act).eval x)) w := by simp [execOp, ho]
  unfold Oper.wp
  rw [hrun]
  show next ((⟨tm, ds⟩ : Act).put o.dst _) w
  cases h1 with
  | c hrep =>
    replace hrep := Rep.rezz hzz hrep
    rw [← hd] at hl hK
    have hx' := vp_whole (β := β) (H := s.H) (nm := (e.d, dst)) hrep
    obtain ⟨β', F', G'', hr'⟩ := h.root (Below.refl _ _) (Frs.refl _) h2 hl hrep h3 (fun b hb => .inl (h4 b (by simp [hb]))) (fun b hb => h4 b (by simp [hb])) (by rw [hNe]; exact hN) (.c (.ref rfl hx'.2 hx'.1))
    refine hk _ _ _ hK ⟨by rw [Act.put_defers]; exact hdf, β', F', G'', ?_⟩
    simpa [Act.put, hdst] using hr'

/-- The same for a temporary that stays where it is. -/
theorem Rel.bind {e s a w i z els} (h : Rel e s a w) (hi : getT s.t i = some (.c (.own z els))) (hl : look s.H (e.d, i) = none) :
    Rel e { s with t := setT s.t i (.c (.sl (e.d, i) [] z 0 els.length)), H := ((e.d, i), .own z els) :: s.H } a w := by
  obtain ⟨hdf, β, F, G, h⟩ := h
  obtain ⟨v, F1, F2, k1, k2, k3, k4, k5⟩ := h.tmps.take hi (List.nodup_append.1 h.nd).2.1
  cases k2 with
  | c hrep =>
    have hx' := vp_whole (β := β) (H := s.H) (nm := (e.d, i)) hrep
    obtain ⟨β', F', G'', hr'⟩ := h.root (dst := i) (Below.refl _ _) (Frs.refl _) k3 hl hrep k4 (fun b hb => .inl (k5 b (by simp [hb]))) (fun b hb => k5 b (by simp [hb]))
      (by have := (Array.getElem?_eq_some_iff.1 k1).1; rw [← h.size]; exact this) (.c (.ref rfl hx'.2 hx'.1))
    have e1 : a.tmps.setIfInBounds i v = a.tmps := by
      apply Array.ext_getElem?
      intro j
      rw [Array.getElem?_setIfInBounds]
      split
      · rename_i hj; subst hj; rw [if_pos (Array.getElem?_eq_some_iff.1 k1).1, k1]
      · rfl
    rw [e1] at hr'
    refine ⟨hdf, β', F', G'', ?_⟩
    have e2 : setT (delT s.t i) i (T.c (.sl (e.d, i) [] z 0 els.length)) = setT s.t i (.c (.sl (e.d, i) [] z 0 els.length)) := by
      simp [setT, delT, List.filter_filter]
    rw [e2] at hr'
    exact hr'

theorem rd_ref {a : Act} {w β H G o c} {t : List (Nat × T)} (h : Tmps (VP w β H) w a.tmps t G) (hx : rdO t o = some (.c c)) (hr : isRef c = true) : VP w β H c (a.eval o) := by
  obtain ⟨tm, ds⟩ := a
  obtain ⟨Fx, h1, -⟩ := rdO_rep (ds := ds) h hx
  exact trep_ref h1 hr

theorem SOp.nilCheck {cx o s K dst x r q z i f} (ho : o.op = .nilCheck x) (hdst : o.dst = some dst) (hN : dst < cx.N) (hx : rdO s.t x = some (.c (.pt r q z i f))) (hK : K { s with t := setT s.t dst (.c (.pt r q z i f)) }) : SOp cx o s K := by
  refine SOp.plain hdst hN (fun w a β F G e h => ?_) hK
  have hv := rd_ref h.tmps hx rfl
  obtain ⟨els, b, off, n0, cap0, h1, h2, h3, h4, h5⟩ := pt_inv hv
  refine ⟨a.eval x, by simp [execOp, ho, h5], .c (.ref rfl (by rw [h5]; rfl) hv)⟩

theorem add_none (b o n : Nat) : (⟨b, o, none⟩ : Addr).add n = ⟨b, o + n, none⟩ := by
  unfold Addr.add; split
  · rename_i h; subst h; rfl
  · rfl

theorem SOp.fieldAddr {cx o s K dst x r q z i f st k off ft} (ho : o.op = .fieldAddr st x k) (hdst : o.dst = some dst) (hN : dst < cx.N) (hx : rdO s.t x = some (.c (.pt r q z i f))) (hft : tfield cx.P st k = some (off, ft)) (hto : tok cx.P ft = true) (htz : tsz cx.P ft ≠ 0) (hfz : f + off < z)
    (hK : K { s with t := setT s.t dst (.c (.pt r q z i (f + off))) }) : SOp cx o s K := by
  refine SOp.plain hdst hN (fun w a β F G e h => ?_) hK
  have hv := rd_ref h.tmps hx rfl
  obtain ⟨c, els, hh, e1, e2, e3, e4, e5, b, off0, n0, cap0, rfl, e6⟩ := hv
  obtain ⟨fs, fd, hu, hfd, rfl, rfl⟩ : ∃ fs fd, cx.P.underlying st = some (.struct fs) ∧ fs[k]? = some fd ∧ fd.offset = off ∧ fd.type = ft := by
    unfold tfield at hft
    split at hft
    · rename_i fs hu
      simp only [Option.map_eq_some_iff, Prod.mk.injEq] at hft
      obtain ⟨fd, h1, h2, h3⟩ := hft
      exact ⟨fs, fd, hu, h1, h2, h3⟩
    · simp at hft
  refine ⟨.pointer (some ⟨b, off0 + i * z + (f + fd.offset), none⟩), ?_, .c (.ref rfl rfl ⟨c, els, _, e1, e2, e3, e4, hfz, b, off0, n0, cap0, rfl, rfl⟩)⟩
  have hr := run_sizeOf (w := w) hto
  simp [execOp, ho, e6, Instr.fieldAt, run_underlying hu, hfd, Instr.sureAddr, fieldPlace, Sem.run_bind, hr, htz, Result.andThen, add_none, Nat.add_assoc]

theorem tel_iff {P : Program} {t e} (h : tel P t = some e) : P.underlying t = some (.slice e) := by
  unfold tel at h
  split at h
  · rename_i e' hu; cases h; exact hu
  · simp at h

theorem SOp.indexAddr {cx o s K dst t x ix r q z i n k j el} (ho : o.op = .indexAddr t x ix) (hdst : o.dst = some dst) (hN : dst < cx.N) (hx : rdO s.t x = some (.c (.sl r q z i n))) (hix : rdO s.t ix = some (.c (.v (.int k j))))
    (hel : tel cx.P t = some el) (hto : tok cx.P el = true) (htz : tsz cx.P el = z) (hz : 0 < z) (h0 : 0 ≤ j) (h1 : j < n) (hK : K { s with t := setT s.t dst (.c (.pt r q z (i + j.toNat) 0)) }) : SOp cx o s K := by
  refine SOp.plain hdst hN (fun w a β F G e h => ?_) hK
  have hv := rd_ref h.tmps hx rfl
  have hj := ev_v h.tmps hix
  obtain ⟨c, els, hh, e1, e2, e3, e4, e5⟩ := hv
  rcases e5 with ⟨b, off, n0, cap0, cap, rfl, e6, e7, e8⟩ | ⟨rfl, -⟩
  · refine ⟨.pointer (some ⟨b, off + (i + j.toNat) * z + 0, none⟩), ?_, .c (.ref rfl rfl ⟨c, els, _, e1, e2, e3, by omega, hz, b, off, n0, cap0, rfl, rfl⟩)⟩
    have hr := run_sizeOf (w := w) hto
    rw [htz] at hr
    simp [execOp, ho, e6, hj, Instr.indexAt, asIntOf, run_underlying (tel_iff hel), Sem.run_bind, hr, Result.andThen, add_none, h0, h1, Nat.add_assoc, Nat.add_mul]
  · omega

theorem SOp.len {cx o s K dst c} (ho : o.op = .call c) {x : Operand} (hc : c.callee = .builtin .len) (ha : c.args = #[x]) {t el : TypeId} (hat : c.argTypes = #[t]) (hel : tel cx.P t = some el) (hdst : o.dst = some dst) (hN : dst < cx.N) {n : Nat}
    (hx : (∃ r q z i, rdO s.t x = some (.c (.sl r q z i n))) ∨ (∃ z els, rdO s.t x = some (.c (.own z els)) ∧ els.length = n)) (hK : K { s with t := setT s.t dst (.c (.v (.int .i64 n))) }) : SOp cx o s K := by
  refine SOp.scal hdst hN rfl (fun w a β G h => ?_) hK
  have : ∃ A cap, a.eval x = .slice A n cap := by
    rcases hx with ⟨r, q, z, i, hx⟩ | ⟨z, els, hx, rfl⟩
    · obtain ⟨c, els, hh, e1, e2, e3, e4, e5⟩ := rd_ref h hx rfl
      rcases e5 with ⟨b, off, n0, cap0, cap, rfl, e6, e7, e8⟩ | ⟨rfl, A, e6, -⟩
      · exact ⟨_, _, e6⟩
      · exact ⟨_, _, e6⟩
    · obtain ⟨tm, ds⟩ := a
      obtain ⟨Fx, h1, -⟩ := rdO_rep (ds := ds) h hx
      cases h1 with
      | c h =>
        generalize (⟨tm, ds⟩ : Act).eval x = y at h
        cases h with
        | ref hi => simp [isRef] at hi
        | nil z A => exact ⟨A, 0, by simp⟩
        | own => exact ⟨_, _, rfl⟩
  obtain ⟨A, cap, hv⟩ := this
  simp [execOp, ho, resolve, hc, ha, hat, invoke, builtin, Builtin.len_, hv, run_underlying (tel_iff hel), Sem.run_bind, Result.andThen, goInt]

theorem SOp.load1 {cx o s K dst t x r q z i f els row c} (ho : o.op = .load t x) (hdst : o.dst = some dst) (hN : dst < cx.N) (hx : rdO s.t x = some (.c (.pt r q z i f))) (hto : tok cx.P t = true) (hta : tagg cx.P t = false)
    (ha : arrAt s.H r q = some (z, els)) (hi : els[i]? = some row) (hf : row[f]? = some c) (hK : K { s with t := setT s.t dst (.c (ldc r q i f c)) }) : SOp cx o s K := by
  refine SOp.plain hdst hN (fun w a β F G e h => ?_) hK
  have hv := rd_ref h.tmps hx rfl
  obtain ⟨els', b, off, n0, cap0, h1, h2, h3, h4, h5⟩ := pt_inv hv
  rw [ha] at h1; cases h1
  obtain ⟨b', off', n0', cap0', y, e1, e2, e3, e4⟩ := h.cell ha h2 hi hf
  cases e1
  refine ⟨y, ?_, .c e4⟩
  have hr := run_isAgg (w := w) hto
  rw [hta] at hr
  simp [execOp, ho, Instr.loadAt, h5, Instr.sureAddr, loadVar, Sem.run_bind, hr, Result.andThen, load, Sem.run, e2]

end Go.Px


namespace Go.Px
open Go.RowKit
set_option linter.unusedVariables false
set_option linter.unusedSimpArgs false
set_option linter.constructorNameAsVariable false

def ldcs (r : Nm) (q : Path) (i : Nat) : Nat → List Cell → List Cell
  | _, [] => []
  | f, c :: cs => ldc r q i f c :: ldcs r q i (f + 1) cs

theorem RelX.cells {e s a w β F G r q z els i row h} (hx : RelX e s a w β F G) (ha : arrAt s.H r q = some (z, els)) (hh : ∃ c0, look s.H r = some c0 ∧ hdr w q c0 (β r) = some h) (hi : els[i]? = some row) {b off n0 cap0} (hs : h = .slice (some ⟨b, off, none⟩) n0 cap0) :
    ∀ (l : List Cell) (f : Nat), (∀ j c, l[j]? = some c → row[f + j]? = some c) → ∃ vs : List Value, vs.length = l.length ∧ (∀ (j : Nat) v, vs[j]? = some v → w.cell? ⟨b, off + i * z + f + j, none⟩ = some v) ∧ VRep (VP w β s.H) w (ldcs r q i f l) vs []
  | [], f, hl => ⟨[], rfl, fun j v h => by simp at h, .nil⟩
  | c :: l, f, hl => by
    obtain ⟨b', off', n0', cap0', x, e1, e2, e3, e4⟩ := hx.cell ha hh hi (hl 0 c (by simp))
    rw [hs] at e1; cases e1
    obtain ⟨vs, h1, h2, h3⟩ := RelX.cells hx ha hh hi hs l (f + 1) (fun j c' hj => by have := hl (j + 1) c' (by simpa using hj); rwa [show f + 1 + j = f + (j + 1) by omega])
    refine ⟨x :: vs, by simp [h1], fun j v hj => ?_, ?_⟩
    · cases j with
      | zero => simp at hj; subst hj; simpa using e2
      | succ j => have := h2 j v (by simpa using hj); rwa [show off + i * z + f + (j + 1) = off + i * z + (f + 1) + j by omega]
    · have := VRep.cons (by simpa using e4) h3
      simpa [ldcs] using this

theorem SOp.loadN {cx o s K dst t x r q z i f els row} (ho : o.op = .load t x) (hdst : o.dst = some dst) (hN : dst < cx.N) (hx : rdO s.t x = some (.c (.pt r q z i f))) (hto : tok cx.P t = true) (hta : tagg cx.P t = true)
    (ha : arrAt s.H r q = some (z, els)) (hi : els[i]? = some row) (hf : f + tsz cx.P t ≤ row.length) (hK : K { s with t := setT s.t dst (.a (ldcs r q i f ((row.drop f).take (tsz cx.P t)))) }) : SOp cx o s K := by
  refine SOp.plain hdst hN (fun w a β F G e h => ?_) hK
  have hv := rd_ref h.tmps hx rfl
  obtain ⟨els', b, off, n0, cap0, h1, h2, h3, h4, h5⟩ := pt_inv hv
  rw [ha] at h1; cases h1
  obtain ⟨vs, k1, k2, k3⟩ := h.cells ha h2 hi rfl ((row.drop f).take (tsz cx.P t)) f (fun j c hj => by
    rw [List.getElem?_take] at hj
    split at hj
    · rwa [List.getElem?_drop] at hj
    · simp at hj)
  have hl : vs.length = tsz cx.P t := by rw [k1, List.length_take, List.length_drop]; omega
  refine ⟨.agg vs.toArray, ?_, .a k3⟩
  have hr := run_isAgg (w := w) hto
  rw [hta] at hr
  have hr2 := run_sizeOf (w := w) hto
  have hr3 := run_loadCells_list (P := cx.P) w ⟨b, off + i * z + f, none⟩ vs (fun j v hj => by rw [add_none]; exact k2 j v hj)
  rw [hl] at hr3
  simp [execOp, ho, Instr.loadAt, h5, Instr.sureAddr, loadVar, Sem.run_bind, hr, hr2, hr3, Result.andThen]

/-- What a zero value's cell is: an array of nothing, whose elements would have z cells. -/
def zc (z : Nat) : Value → Cell
  | .slice none 0 0 => .own z []
  | x => .v x
def zcL : List Nat → List Value → List Cell
  | _, [] => []
  | [], v :: l => zc 0 v :: zcL [] l
  | z :: zs, v :: l => zc z v :: zcL zs l

theorem zc_rep (R w z) {x : Value} (h : flat x = true) : Rep R w (zc z x) x [] := by
  unfold zc
  split
  · exact .nil _ _
  · exact .v _ h

theorem zcs_rep (R w) : ∀ {zs : List Nat} {l : List Value}, l.all flat = true → VRep R w (zcL zs l) l []
  | _, [], _ => .nil
  | [], x :: l, h => by
    simp at h
    have := VRep.cons (zc_rep R w 0 h.1) (zcs_rep R w (zs := []) (l := l) (by simpa using h.2))
    simpa [zcL] using this
  | z :: zs, x :: l, h => by
    simp at h
    have := VRep.cons (zc_rep R w z h.1) (zcs_rep R w (zs := zs) (l := l) (by simpa using h.2))
    simpa [zcL] using this
theorem zcL_length : ∀ {zs : List Nat} {l : List Value}, (zcL zs l).length = l.length
  | _, [] => by simp [zcL]
  | [], x :: l => by simp [zcL, zcL_length (zs := []) (l := l)]
  | z :: zs, x :: l => by simp [zcL, zcL_length (zs := zs) (l := l)]
/-- the widths of the arrays that stand in the cells of a type -/
def tzsF (P : Program) : Nat → TypeId → List Nat
  | 0, _ => []
  | n + 1, t => match P.underlying t with
    | some (.struct fs) => fs.toList.flatMap fun f => tzsF P n f.type
    | some (.slice e) => [P.cellsOf e]
    | _ => [0]
def tzs (P : Program) (t : TypeId) : List Nat := tzsF P 9 t
/-- the zero value of a type, as cells -/
def tzc (P : Program) (t : TypeId) : Option (List Cell) := match tzero P t with
  | some l => if l.all flat then some (zcL (tzs P t) l) else none
  | none => none
theorem tzc_iff {P t cs} (h : tzc P t = some cs) : ∃ zs l, tzero P t = some l ∧ l.all flat = true ∧ cs = zcL zs l := by
  unfold tzc at h
  split at h
  · rename_i l hl
    split at h
    · rename_i hf; cases h; exact ⟨_, l, hl, hf, rfl⟩
    · cases h
  · cases h
/-- arrays of nothing are given the width that they have by their type -/
def relz : List Nat → List Cell → List Cell
  | [], cs => cs
  | _, [] => []
  | z :: zs, .own 0 els :: cs => .own z els :: relz zs cs
  | _ :: zs, c :: cs => c :: relz zs cs
theorem Rep.rez {R w els x F} (h : Rep R w (.own 0 els) x F) (z : Nat) : Rep R w (.own z els) x F := by
  cases h with
  | nil => exact .nil _ _
  | own h0 => exact absurd h0 (by omega)
  | ref hi => simp [isRef] at hi
theorem relz_rep {R w} : ∀ {zs cs vs F}, VRep R w cs vs F → VRep R w (relz zs cs) vs F
  | [], _, _, _, h => by simpa [relz] using h
  | _ :: _, [], _, _, h => by simpa [relz] using h
  | z :: zs, c :: cs, _, _, .cons hc hs => by
    unfold relz
    split
    · simp_all
    · simp_all
    · rename_i e1 e2
      cases e2; cases e1; exact .cons (hc.rez z) (relz_rep hs)
    · rename_i e1 e2
      cases e2; cases e1; exact .cons hc (relz_rep hs)
theorem relz_length : ∀ {zs cs}, (relz zs cs).length = cs.length
  | [], _ => by simp [relz]
  | _ :: _, [] => by simp [relz]
  | z :: zs, c :: cs => by
    unfold relz
    split
    · simp_all
    · simp_all
    · rename_i e1 e2
      cases e2; cases e1; simp [relz_length (zs := zs) (cs := cs)]
    · rename_i e1 e2
      cases e2; cases e1; simp [relz_length (zs := zs) (cs := cs)]
def fixz (P : Program) (t : TypeId) (z : Nat) : Nat := if z = 0 then (match tel P t with | some e => tsz P e | none => 0) else z
theorem Rep.fixz {R w z els x F P t} (h : Rep R w (.own z els) x F) : Rep R w (.own (Px.fixz P t z) els) x F := by
  unfold Px.fixz
  split
  · rename_i e; subst e; exact h.rez _
  · exact h
def relC (P : Program) (t : TypeId) (o : Operand) (cs : List Cell) : List Cell := match o with | .const _ => relz (tzs P t) cs | _ => cs
theorem relC_rep {R w P t o cs vs F} (h : VRep R w cs vs F) : VRep R w (relC P t o cs) vs F := by
  unfold relC; split
  · exact relz_rep h
  · exact h
theorem relC_length {P t o cs} : (relC P t o cs).length = cs.length := by
  unfold relC; split
  · exact relz_length
  · rfl

theorem VRep.length {R w} : ∀ {l vs F}, VRep R w l vs F → vs.length = l.length
  | _, _, _, .nil => rfl
  | _, _, _, .cons _ h => by simp [h.length]

/-- Cells that stand in a block. -/
theorem VRep.reps {R : Cell → Value → Prop} {w : World} {b : Nat} {arr : Array Value} {el : TypeId} {fr : Nat × Nat} (hb : w.heap[b]? = some (.cells arr el fr)) : ∀ {l vs F o}, VRep R w l vs F → (∀ (j : Nat) v, vs[j]? = some v → arr[o + j]? = some v) → Reps R w b o l F
  | _, _, _, o, .nil, _ => .nil _ _
  | _, _, _, o, .cons (x := x) (xs := xs) hr ht, h => by
    refine .cons ?_ hr (VRep.reps hb ht (fun j v hj => by have := h (j + 1) v (by simpa using hj); rwa [show o + 1 + j = o + (j + 1) by omega]))
    have := h 0 x (by simp)
    simp [World.cell?, hb] at this ⊢
    exact this

theorem below_push (w : World) (o : Obj) : Below w.heap.size w { w with heap := w.heap.push o } :=
  ⟨rfl, rfl, rfl, by simp, fun k hk => by show (w.heap.push o)[k]? = _; rw [Array.getElem?_push, if_neg (by omega)]⟩

theorem push_new (w : World) (o : Obj) : (World.mk (w.heap.push o) w.tape w.drawn w.os w.output).heap[w.heap.size]? = some o := by simp

/-- A block of its own for cells: as a box. -/
theorem box_rep {R : Cell → Value → Prop} {w : World} {l : List Cell} {vs : List Value} {F : List Nat} {el : TypeId} (h : VRep R w l vs F) (hl : 0 < l.length) :
    Rep R { w with heap := w.heap.push (.cells vs.toArray el) } (.own l.length [l]) (.slice (some ⟨w.heap.size, 0, none⟩) 1 1) (w.heap.size :: F) := by
  have hlen := h.length
  have hb := push_new w (.cells vs.toArray el)
  have h' : VRep R { w with heap := w.heap.push (.cells vs.toArray el) } l vs F := h.mono (K := fun _ => False) (fun c _ => clean_false c) (fun _ _ _ _ h => h) (fun b hb => by
    obtain ⟨arr, el', fr, hb'⟩ := h.block b hb
    exact (below_push w _).block b (lt_of_block hb'))
  refine Rep.own (els := [l]) (cap := 1) (off := 0) hl hb (by simp) (by simp) (by simp) (by simp [hlen]) ?_
  simpa using VRep.reps hb h' (o := 0) (fun j v hj => by simpa using hj)

/-- A new object of the activation's own, and the pointer to it. -/
theorem SOp.newBox {cx o s K dst l t'} (hdst : o.dst = some dst) (hN : dst < cx.N) (hl : look s.H (cx.d, dst) = none) (hl0 : 0 < l.length)
    (h : ∀ (w : World) (a : Act) (β : Nm → Value) (F G : List Nat) (e : Env), RelX e s a.tmps w β F G → ∃ el vs Fl G', (execOp a.eval o).run cx.P w = .ok (.value (.pointer (some ⟨w.heap.size, 0, none⟩))) { w with heap := w.heap.push (.cells vs.toArray el) } ∧
      VRep (VP w β s.H) w l vs Fl ∧ Tmps (VP w β s.H) w a.tmps t' G' ∧ (Fl ++ G').Nodup ∧ ∀ b ∈ Fl ++ G', b ∈ G)
    (hK : K { s with t := setT t' dst (.c (.pt (cx.d, dst) [] l.length 0 0)), H := ((cx.d, dst), .own l.length [l]) :: s.H }) : SOp cx o s K := by
  intro e a w next Q hd hNe hr hk
  obtain ⟨hdf, β, F, G, hx⟩ := hr
  obtain ⟨el, vs, Fl, G', h1, h2, h3, h4, h5⟩ := h w a β F G e hx
  unfold Oper.wp
  rw [h1]
  show next (a.put o.dst _) _
  rw [← hd] at hl hK
  have hG : ∀ b ∈ G, b < w.heap.size := fun b hb => by obtain ⟨arr, el, fr, hb'⟩ := hx.tmps.block b hb; exact lt_of_block hb'
  obtain ⟨β', F', G'', hr'⟩ := hx.root (dst := dst) (n := dst) (below_push w _) (Frs.push w _ _ _) h3 hl (box_rep (el := el) h2 hl0)
    (by
      refine List.nodup_append.2 ⟨List.nodup_cons.2 ⟨fun hm => ?_, (List.nodup_append.1 h4).1⟩, (List.nodup_append.1 h4).2.1, fun x hx y hy e => ?_⟩
      · have := hG _ (h5 w.heap.size (by simp [hm])); omega
      · subst e
        rcases List.mem_cons.1 hx with h' | h'
        · have := hG _ (h5 x (by simp [hy])); omega
        · exact (List.nodup_append.1 h4).2.2 x h' x hy rfl)
    (fun b hb => by
      rcases List.mem_cons.1 hb with h' | h'
      · exact .inr (by omega)
      · exact .inl (h5 b (by simp [h'])))
    (fun b hb => h5 b (by simp [hb])) (by rw [hNe]; exact hN) (x := .c (.pt (e.d, dst) [] l.length 0 0)) (u := .pointer (some ⟨w.heap.size, 0, none⟩))
    (.c (.ref rfl rfl ⟨.own l.length [l], [l], _, by simp [look], rfl, rfl, by simp, hl0, w.heap.size, 0, 1, 1, by simp, by simp⟩))
  refine hk _ _ _ hK ⟨by rw [Act.put_defers]; exact hdf, β', F', G'', ?_⟩
  simpa [Act.put, hdst] using hr'

theorem SOp.alloc {cx o s K dst el l} (ho : o.op = .alloc el) (hdst : o.dst = some dst) (hN : dst < cx.N) (hl : look s.H (cx.d, dst) = none) (hz : tzc cx.P el = some l) (hl0 : 0 < l.length)
    (hK : K { s with t := setT s.t dst (.c (.pt (cx.d, dst) [] l.length 0 0)), H := ((cx.d, dst), .own l.length [l]) :: s.H }) : SOp cx o s K := by
  obtain ⟨zs, l, hz1, hfl, rfl⟩ := tzc_iff hz; clear hz; have hz := hz1; clear hz1
  refine SOp.newBox (l := zcL zs l) hdst hN hl hl0 (fun w a β F G e h => ?_) hK
  refine ⟨el, l, [], G, ?_, zcs_rep _ _ hfl, h.tmps, by simpa using (List.nodup_append.1 h.nd).2.1, by simp⟩
  unfold tzero at hz
  simp only [Option.map_eq_some_iff] at hz
  obtain ⟨z, hz, rfl⟩ := hz
  cases hi : cx.P.info? el with
  | none => simp [hi] at hz
  | some info =>
    simp [hi] at hz
    simp [execOp, ho, Instr.alloc, zeroValue, typeInfo, program, Sem.run_bind, Sem.run, Result.andThen, hi, hz, newVar, newRow, newObj, pure]

/-- The cells of what a temporary holds. -/
def T.cells : T → Option (List Cell)
  | .c x => some [x]
  | .a l => some l
  | _ => none

theorem cells_rep {R w x l v F} (h : TRep R w x v F) (hl : x.cells = some l) : VRep R w l v.cells.toList F := by
  cases h with
  | c hr =>
    simp [T.cells] at hl; subst hl
    have hf := hr.flat
    have : v.cells = #[v] := by cases v <;> first | rfl | simp [flat] at hf
    rw [this]
    have := VRep.cons hr .nil
    simpa using this
  | a hr => simp [T.cells] at hl; subst hl; simpa [Value.cells] using hr
  | t => simp [T.cells] at hl
  | u => simp [T.cells] at hl

theorem SOp.box {cx o s K dst el x y l t'} (ho : o.op = .box el x) (hdst : o.dst = some dst) (hN : dst < cx.N) (hl : look s.H (cx.d, dst) = none) (hx : tkO s.t x = some (y, t')) (hy : y.cells = some l) (hl0 : 0 < l.length)
    (hK : K { s with t := setT t' dst (.c (.pt (cx.d, dst) [] l.length 0 0)), H := ((cx.d, dst), .own l.length [l]) :: s.H }) : SOp cx o s K := by
  refine SOp.newBox hdst hN hl hl0 (fun w a β F G e h => ?_) hK
  obtain ⟨tm, ds⟩ := a
  obtain ⟨Fx, G', h1, h2, h3, h4⟩ := tkO_rep (ds := ds) h.tmps (List.nodup_append.1 h.nd).2.1 hx
  refine ⟨el, ((⟨tm, ds⟩ : Act).eval x).cells.toList, Fx, G', ?_, cells_rep h1 hy, h2, h3, h4⟩
  simp [execOp, ho, Instr.box, newVar, newRow, newObj, Sem.run_bind, Sem.run, Result.andThen, pure]

end Go.Px


namespace Go.Px
open Go.RowKit
set_option linter.unusedVariables false
set_option linter.unusedSimpArgs false
set_option linter.constructorNameAsVariable false

theorem TReps.nth {R w} : ∀ {l : List T} {vs F ix x}, TReps R w l vs F → l[ix]? = some x → ∃ v F1 F2, vs[ix]? = some v ∧ TRep R w x v F1 ∧ TReps R w (l.set ix .u) vs F2 ∧ F.Perm (F1 ++ F2)
  | _, _, _, ix, x, .nil, h => by simp at h
  | _, _, _, ix, x, .cons (x := y) (v := v) (F := F) (l := l) (vs := vs) (G := G) hr ht, h => by
    cases ix with
    | zero =>
      simp at h; subst h
      exact ⟨v, F, G, by simp, hr, by simpa using TReps.cons (.u v) ht, .refl _⟩
    | succ ix =>
      obtain ⟨v', F1, F2, h1, h2, h3, h4⟩ := TReps.nth ht (by simpa using h)
      refine ⟨v', F1, F ++ F2, by simpa using h1, h2, by simpa using TReps.cons hr h3, ?_⟩
      refine (List.Perm.append_left _ h4).trans ?_
      rw [← List.append_assoc, ← List.append_assoc]
      exact List.Perm.append_right _ List.perm_append_comm

theorem SOp.extract {cx o s K dst i ix l x} (ho : o.op = .extract (.tmp i) ix) (hdst : o.dst = some dst) (hN : dst < cx.N) (hx : getT s.t i = some (.t l)) (hl : l[ix]? = some x)
    (hK : K { s with t := setT (if x.bare then s.t else setT s.t i (.t (l.set ix .u))) dst x }) : SOp cx o s K := by
  refine SOp.value hdst hN (fun w a β F G e h => ?_) hK
  have hnG := (List.nodup_append.1 h.nd).2.1
  obtain ⟨v, F1, F2, h1, h2, h3, h4, h5⟩ := h.tmps.take hx hnG
  cases h2 with
  | @t _ vs _ hrs =>
    obtain ⟨v', Fa, Fb, k1, k2, k3, k4⟩ := hrs.nth hl
    have hrun : (execOp a.eval o).run cx.P w = .ok (.value v') w := by
      have : a.eval (.tmp i) = .tuple vs.toArray := by simp [Act.eval, Array.getD_eq_getD_getElem?, h1]
      simp [execOp, ho, this, Instr.extract, k1, Sem.run_bind, Result.andThen]
    by_cases hb : x.bare = true
    · have := k2.bare hb
      subst this
      rw [if_pos hb]
      exact ⟨v', [], G, hrun, h.tmps, k2, by simpa using hnG, by simp⟩
    · rw [if_neg hb]
      refine ⟨v', Fa, Fb ++ F2, hrun, ?_, k2, ?_, ?_⟩
      · exact Tmps.cons h1 (.t k3) h3
      · rw [← List.append_assoc]
        exact (List.Perm.append_right F2 k4).nodup_iff.1 h4
      · intro b hb'
        refine h5 b ?_
        rw [← List.append_assoc] at hb'
        exact (List.Perm.append_right F2 k4).symm.subset hb'

theorem VRep.take_drop {R w} : ∀ {l vs F} (n : Nat), VRep R w l vs F → ∃ F1 F2, F = F1 ++ F2 ∧ VRep R w (l.take n) (vs.take n) F1 ∧ VRep R w (l.drop n) (vs.drop n) F2
  | l, vs, F, 0, h => ⟨[], F, rfl, by simpa using VRep.nil, by simpa using h⟩
  | _, _, _, n + 1, .nil => ⟨[], [], rfl, by simpa using VRep.nil, by simpa using VRep.nil⟩
  | _, _, _, n + 1, .cons (F := F) hr ht => by
    obtain ⟨F1, F2, rfl, h1, h2⟩ := VRep.take_drop n ht
    exact ⟨F ++ F1, F2, by simp, by simpa using VRep.cons hr h1, by simpa using h2⟩

theorem VRep.append {R w} : ∀ {l vs F l' vs' F'}, VRep R w l vs F → VRep R w l' vs' F' → VRep R w (l ++ l') (vs ++ vs') (F ++ F')
  | _, _, _, _, _, _, .nil, h => h
  | _, _, _, _, _, _, .cons hr ht, h => by
    rw [List.append_assoc]
    exact .cons hr (ht.append h)

theorem VRep.nth {R : Cell → Value → Prop} {w : World} : ∀ {l : List Cell} {vs : List Value} {F : List Nat} {j : Nat} {c : Cell}, VRep R w l vs F → l[j]? = some c → ∃ v F1, vs[j]? = some v ∧ Rep R w c v F1 ∧ F1.Sublist F
  | _, _, _, j, c, .nil, h => by simp at h
  | _, _, _, j, c, .cons (x := x) (F := F) hr ht, h => by
    cases j with
    | zero => simp at h; subst h; exact ⟨x, F, by simp, hr, List.sublist_append_left _ _⟩
    | succ j =>
      obtain ⟨v, F1, h1, h2, h3⟩ := VRep.nth ht (by simpa using h)
      exact ⟨v, F1, by simpa using h1, h2, h3.trans (List.sublist_append_right _ _)⟩

theorem tfield_iff {P : Program} {t k off ft} (h : tfield P t k = some (off, ft)) : ∃ fs fd, P.underlying t = some (.struct fs) ∧ fs[k]? = some fd ∧ fd.offset = off ∧ fd.type = ft := by
  unfold tfield at h
  split at h
  · rename_i fs hu
    simp only [Option.map_eq_some_iff, Prod.mk.injEq] at h
    obtain ⟨fd, h1, h2, h3⟩ := h
    exact ⟨fs, fd, hu, h1, h2, h3⟩
  · simp at h

/-- what a field of an aggregate is -/
def fieldT (P : Program) (ft : TypeId) (off : Nat) (l : List Cell) : Option T :=
  if tagg P ft then (if off + tsz P ft ≤ l.length then some (.a ((l.drop off).take (tsz P ft))) else none) else (l[off]?).map .c

theorem SOp.field {cx o s K dst xt x k l t' off ft y} (ho : o.op = .field xt x k) (hdst : o.dst = some dst) (hN : dst < cx.N) (hx : tkO s.t x = some (.a l, t')) (hft : tfield cx.P xt k = some (off, ft)) (hto : tok cx.P ft = true)
    (hy : fieldT cx.P ft off l = some y) (hK : K { s with t := setT t' dst y }) : SOp cx o s K := by
  refine SOp.value hdst hN (fun w a β F G e h => ?_) hK
  obtain ⟨tm, ds⟩ := a
  obtain ⟨Fx, G', h1, h2, h3, h4⟩ := tkO_rep (ds := ds) h.tmps (List.nodup_append.1 h.nd).2.1 hx
  generalize hev : (⟨tm, ds⟩ : Act).eval x = v at h1
  cases h1 with
  | @a _ vs _ hv =>
    obtain ⟨fs, fd, hu, hfd, rfl, rfl⟩ := tfield_iff hft
    have hlen := hv.length
    have hag := run_isAgg (w := w) hto
    have hsz := run_sizeOf (w := w) hto
    unfold fieldT at hy
    split at hy
    · rename_i hagg
      split at hy
      · rename_i hle
        cases hy
        obtain ⟨Fa, Fb, rfl, ka, kb⟩ := hv.take_drop fd.offset
        obtain ⟨Fc, Fd, rfl, kc, kd⟩ := kb.take_drop (tsz cx.P fd.type)
        refine ⟨.agg ((vs.drop fd.offset).take (tsz cx.P fd.type)).toArray, Fc, G', ?_, h2, .a kc, ?_, ?_⟩
        · rw [hagg] at hag
          simp [execOp, ho, hev, Instr.field, run_underlying hu, hfd, asAgg, part, Sem.run_bind, hag, hsz, Result.andThen, List.extract_eq_take_drop]
        · refine List.Nodup.sublist (List.Sublist.append ?_ (.refl _)) h3
          exact (List.sublist_append_left Fc Fd).trans (List.sublist_append_right Fa _)
        · exact fun b hb => h4 b (by
            rcases List.mem_append.1 hb with hb | hb
            · simp [hb]
            · simp [hb])
      · cases hy
    · rename_i hagg
      simp only [Option.map_eq_some_iff] at hy
      obtain ⟨c, hc, rfl⟩ := hy
      obtain ⟨v, F1, k1, k2, k3⟩ := hv.nth hc
      refine ⟨v, F1, G', ?_, h2, .c k2, List.Nodup.sublist (List.Sublist.append k3 (.refl _)) h3, fun b hb => h4 b ((List.Sublist.append k3 (.refl _)).subset hb)⟩
      have : tagg cx.P fd.type = false := by simpa using hagg
      rw [this] at hag
      simp [execOp, ho, hev, Instr.field, run_underlying hu, hfd, asAgg, part, Sem.run_bind, hag, hsz, Result.andThen, k1]

theorem SOp.slice {cx o s K dst t x r q z i n el} {lo hi : Option Operand} {l h : Nat} (ho : o.op = .slice t x lo hi none) (hdst : o.dst = some dst) (hN : dst < cx.N) (hx : rdO s.t x = some (.c (.sl r q z i n)))
    (hel : tel cx.P t = some el) (hto : tok cx.P el = true) (htz : n ≠ 0 → tsz cx.P el = z) (hlo : (lo = none ∧ l = 0) ∨ ∃ ol k, lo = some ol ∧ rdO s.t ol = some (.c (.v (.int k l)))) (hhi : (hi = none ∧ h = n) ∨ ∃ oh k, hi = some oh ∧ rdO s.t oh = some (.c (.v (.int k h))))
    (h1 : l ≤ h) (h2 : h ≤ n ∨ ∃ els, arrAt s.H r q = some (z, els) ∧ i + h ≤ els.length ∧ tsz cx.P el = z) (hK : K { s with t := setT s.t dst (.c (.sl r q z (i + l) (h - l))) }) : SOp cx o s K := by
  refine SOp.plain hdst hN (fun w a β F G e hh => ?_) hK
  have hv := rd_ref hh.tmps hx rfl
  have hsz := run_sizeOf (w := w) hto
  obtain ⟨c, els, hd, e1, e2, e3, e4, e5⟩ := hv
  have hcl : ∀ A m cap0, hd = .slice A m cap0 → els.length ≤ cap0 := by
    rintro A m cap0 rfl
    obtain ⟨F1, hr, -⟩ := hh.holds.rep e1
    obtain ⟨h', F0, k1, k2, k3⟩ := hr.node e2
    rw [e3] at k1; cases k1
    generalize hhd : Value.slice A m cap0 = hv at k2
    cases k2 with
    | ref hi => simp [isRef] at hi
    | nil => simp
    | own _ _ _ _ hle => cases hhd; exact hle
  have hile : i + h ≤ els.length := by
    rcases h2 with h2 | ⟨els', ha, h2, -⟩
    · omega
    · have := arrAt_iff.2 ⟨c, e1, e2⟩
      rw [ha] at this; cases this; exact h2
  obtain ⟨A, cap, hx2, hcap⟩ : ∃ A cap, a.eval x = .slice A n cap ∧ h ≤ cap ∧ n ≤ cap := by
    rcases e5 with ⟨b, off, n0, cap0, cap, rfl, e6, e7, e8⟩ | ⟨rfl, A, e6, B, m, rfl⟩
    · have := hcl _ _ _ rfl
      exact ⟨_, _, e6, by omega, e7⟩
    · have := hcl _ _ _ rfl
      exact ⟨_, _, e6, by omega, Nat.le_refl _⟩
  have hsb : (Instr.sliceBounds true n cap (lo.map a.eval) (hi.map a.eval) none).run cx.P w = .ok (l, h, cap) w := by
    have hhi' : (match (hi.map a.eval) with | some v => Instr.sliceBound v cap .sliceAcap | none => pure n : Sem Nat).run cx.P w = .ok h w := by
      rcases hhi with ⟨rfl, rfl⟩ | ⟨oh, k, rfl, hoh⟩
      · simp [Sem.run, pure]
      · have := ev_v hh.tmps hoh
        simp [this, Instr.sliceBound, asIntOf, Sem.run_bind, Result.andThen, show (h : Int) ≤ cap by omega]
    have hlo' : (match (lo.map a.eval) with | some v => Instr.sliceBound v h .sliceB | none => pure 0 : Sem Nat).run cx.P w = .ok l w := by
      rcases hlo with ⟨rfl, rfl⟩ | ⟨ol, k, rfl, hol⟩
      · simp [Sem.run, pure]
      · have := ev_v hh.tmps hol
        simp [this, Instr.sliceBound, asIntOf, Sem.run_bind, Result.andThen, show (l : Int) ≤ h by omega]
    rcases hhi with ⟨rfl, rfl⟩ | ⟨oh, k, rfl, hoh⟩ <;> rcases hlo with ⟨rfl, rfl⟩ | ⟨ol, k', rfl, hol⟩ <;>
      simp_all [Instr.sliceBounds, Sem.run_bind, Result.andThen, Sem.run, pure]
  have hrun : (execOp a.eval o).run cx.P w = .ok (.value (.slice (if cap = l then A else A.map (·.add (l * tsz cx.P el))) (h - l) (cap - l))) w := by
    simp [execOp, ho, Instr.sliceAt, Instr.slice, run_underlying (tel_iff hel), hx2, Sem.run_bind, hsb, hsz, Result.andThen]
  refine ⟨_, hrun, .c (.ref rfl rfl ?_)⟩
  refine ⟨c, els, hd, e1, e2, e3, by omega, ?_⟩
  rcases e5 with ⟨b, off, n0, cap0, cap', rfl, e6, e7, e8⟩ | ⟨rfl, A', e6, e7⟩
  · rw [hx2] at e6; cases e6
    have hlz : l * tsz cx.P el = l * z := by
      by_cases hn : n = 0
      · rcases h2 with h2 | ⟨_, _, _, h2⟩
        · have : l = 0 := by omega
          simp [this]
        · rw [h2]
      · rw [htz hn]
    by_cases hc : cap = l
    · right
      have e1 : h - l = 0 := by omega
      have e2 : cap - l = 0 := by omega
      exact ⟨e1, _, by rw [e1, e2], _, _, by rw [show i + l = cap0 by omega]⟩
    · left
      refine ⟨b, off, n0, cap0, cap - l, rfl, ?_, by omega, by omega⟩
      rw [if_neg hc]
      simp [add_none, hlz, Nat.add_mul, Nat.add_assoc]
  · right
    obtain ⟨B, m, rfl⟩ := e7
    have := hcl _ _ _ rfl
    rw [hx2] at e6; cases e6
    have e1 : l = 0 := by omega
    have e2 : h = 0 := by omega
    subst e1; subst e2
    exact ⟨rfl, A, by simp, B, m, by simp⟩

end Go.Px


namespace Go.Px
open Go.RowKit
set_option linter.unusedVariables false
set_option linter.unusedSimpArgs false
set_option linter.constructorNameAsVariable false

inductive PRep (R : Cell → Value → Prop) (w : World) : List (Nat × List Cell) → List (Nat × Value) → List Nat → Prop
  | nil : PRep R w [] [] []
  | cons {k cs v F ps vs G} : VRep R w cs v.cells.toList F → PRep R w ps vs G → PRep R w ((k, cs) :: ps) ((k, v) :: vs) (F ++ G)

def tkParts : List (Nat × T) → List (Nat × Operand) → Option (List (Nat × List Cell) × List (Nat × T))
  | t, [] => some ([], t)
  | t, (k, o) :: rest =>
    match tkO t o with
    | some (x, t1) => (match x.cells with
      | some cs => (match tkParts t1 rest with
        | some (ps, t2) => some ((k, cs) :: ps, t2)
        | none => none)
      | none => none)
    | none => none

theorem tkParts_rep {w a β H} {ds : List Deferred} : ∀ {parts t G ps t'}, Tmps (VP w β H) w a t G → G.Nodup → tkParts t parts = some (ps, t') →
    ∃ Fp G', PRep (VP w β H) w ps (parts.map fun x => (x.1, (⟨a, ds⟩ : Act).eval x.2)) Fp ∧ Tmps (VP w β H) w a t' G' ∧ (Fp ++ G').Nodup ∧ ∀ b ∈ Fp ++ G', b ∈ G
  | [], t, G, ps, t', h, hn, hx => by
    simp [tkParts] at hx
    obtain ⟨rfl, rfl⟩ := hx
    exact ⟨[], G, .nil, h, by simpa using hn, by simp⟩
  | (k, o) :: rest, t, G, ps, t', h, hn, hx => by
    simp only [tkParts] at hx
    split at hx
    · rename_i x t1 h1
      split at hx
      · rename_i cs h2
        split at hx
        · rename_i ps' t2 h3
          cases hx
          obtain ⟨Fx, G1, k1, k2, k3, k4⟩ := tkO_rep (ds := ds) h hn h1
          obtain ⟨n1, n2, n3⟩ := List.nodup_append.1 k3
          obtain ⟨Fp, G', m1, m2, m3, m4⟩ := tkParts_rep (ds := ds) k2 n2 h3
          refine ⟨Fx ++ Fp, G', .cons (cells_rep k1 h2) m1, m2, ?_, ?_⟩
          · rw [List.append_assoc]
            exact List.nodup_append.2 ⟨n1, m3, fun x hx y hy => n3 x hx y (m4 y hy)⟩
          · intro b hb
            rw [List.append_assoc] at hb
            rcases List.mem_append.1 hb with hb | hb
            · exact k4 b (by simp [hb])
            · exact k4 b (by simp [m4 b hb])
        · cases hx
      · cases hx
    · cases hx

theorem foldl_set (off : Nat) : ∀ (l : List Value) (k : Nat) (cells : Array Value), off + k + l.length ≤ cells.size →
    ((l.zipIdx k).foldl (fun (cs : Array Value) (x : Value × Nat) => cs.setIfInBounds (off + x.2) x.1) cells).toList = cells.toList.take (off + k) ++ l ++ cells.toList.drop (off + k + l.length)
  | [], k, cells, h => by simp
  | x :: l, k, cells, h => by
    simp only [List.zipIdx_cons, List.foldl_cons]
    have h' : off + (k + 1) + l.length ≤ (cells.setIfInBounds (off + k) x).size := by rw [Array.size_setIfInBounds]; simp at h; omega
    rw [foldl_set off l (k + 1) _ h']
    rw [Array.toList_setIfInBounds]
    have hl : off + k < cells.toList.length := by simp at h ⊢; omega
    rw [show off + (k + 1) = off + k + 1 by omega, List.take_succ_eq_append_getElem (by simpa using hl)]
    simp only [List.getElem_set_self, List.append_assoc, List.cons_append, List.nil_append, List.length_cons]
    congr 1
    · simp [List.take_set_of_le]
    · congr 2
      rw [List.drop_set_of_lt (by omega)]
      congr 1; omega

/-- parts laid over cells -/
def fillG (place : Nat → Option (Nat × Nat)) : List (Nat × List Cell) → List Cell → Option (List Cell)
  | [], l => some l
  | (k, cs) :: rest, l =>
    match place k with
    | some (off, sz) => if cs.length = sz ∧ off + cs.length ≤ l.length then fillG place rest (l.take off ++ cs ++ l.drop (off + cs.length)) else none
    | none => none

theorem fillG_rep {R w} {place : Nat → Option (Nat × Nat)} : ∀ {ps vs Fp l cells F l'}, PRep R w ps vs Fp → VRep R w l cells F → l.length = cells.length → (F ++ Fp).Nodup → fillG place ps l = some l' →
    ∃ cells' F', Instr.fill place cells.toArray vs = some cells' ∧ VRep R w l' cells'.toList F' ∧ F'.Nodup ∧ ∀ b ∈ F', b ∈ F ++ Fp
  | [], _, _, l, cells, F, l', .nil, h, hl, hn, hx => by
    simp [fillG] at hx; subst hx
    exact ⟨cells.toArray, F, by simp [Instr.fill], by simpa using h, by simpa using hn, by simp⟩
  | (k, cs) :: ps, _, _, l, cells, F, l', .cons (v := v) (F := Fv) (vs := vs) (G := Gp) hv ht, h, hl, hn, hx => by
    simp only [fillG] at hx
    split at hx
    · rename_i off sz hp
      split at hx
      · rename_i hc
        obtain ⟨hsz, hle⟩ := hc
        have hvl := hv.length
        have hfold := foldl_set off v.cells.toList 0 cells.toArray (by simp at hvl ⊢; omega)
        obtain ⟨Fa, Fr, rfl, ha, hr⟩ := h.take_drop off
        obtain ⟨Fb, Fc, rfl, hb, hc'⟩ := hr.take_drop cs.length
        have hnew : VRep R w (l.take off ++ cs ++ l.drop (off + cs.length)) (cells.take off ++ v.cells.toList ++ cells.drop (off + cs.length)) (Fa ++ Fv ++ Fc) := by
          refine (ha.append hv).append ?_
          simpa [List.drop_drop] using hc'
        have hperm : ((Fa ++ Fv ++ Fc) ++ Gp).Nodup := by
          have e : (Fa ++ (Fb ++ Fc) ++ (Fv ++ Gp)).Perm (Fb ++ ((Fa ++ Fv ++ Fc) ++ Gp)) := by
            have e1 : (Fa ++ (Fb ++ Fc)).Perm (Fb ++ (Fa ++ Fc)) := by
              rw [← List.append_assoc, ← List.append_assoc]
              exact List.Perm.append_right _ List.perm_append_comm
            refine (List.Perm.append_right _ e1).trans ?_
            simp only [List.append_assoc]
            refine List.Perm.append_left _ (List.Perm.append_left _ ?_)
            rw [← List.append_assoc, ← List.append_assoc]
            exact List.Perm.append_right _ List.perm_append_comm
          have := e.nodup_iff.1 hn
          exact (List.nodup_append.1 this).2.1
        have hsub : ∀ b ∈ (Fa ++ Fv ++ Fc) ++ Gp, b ∈ Fa ++ (Fb ++ Fc) ++ (Fv ++ Gp) := by
          intro b hb; simp at hb ⊢; rcases hb with h | h | h | h <;> simp [h]
        obtain ⟨cells', F', k1, k2, k3, k4⟩ := fillG_rep ht hnew (by simp [hvl]; simp at hvl; omega) hperm hx
        refine ⟨cells', F', ?_, k2, k3, fun b hb => hsub b (k4 b hb)⟩
        have hss : v.cells.size = sz := by simp at hvl; omega
        simp only [Instr.fill, hp]
        rw [if_neg (by simp [hss]; simp at hvl hle; omega)]
        rw [← k1]
        congr 1
        apply Array.ext'
        have : (v.cells.zipIdx.foldl (fun (cs : Array Value) (x : Value × Nat) => cs.setIfInBounds (off + x.2) x.1) cells.toArray).toList = cells.take off ++ v.cells.toList ++ cells.drop (off + cs.length) := by
          rw [← Array.foldl_toList, Array.toList_zipIdx]
          simpa [hsz, ← hss] using hfold
        simpa using this
      · cases hx
    · cases hx

end Go.Px


namespace Go.Px
open Go.RowKit
set_option linter.unusedVariables false
set_option linter.unusedSimpArgs false
set_option linter.constructorNameAsVariable false

def tplaces (P : Program) (t : TypeId) : Option (List (Nat × Nat)) :=
  match P.underlying t with
  | some (.struct fields) => fields.toList.mapM (fun f => (P.info? f.type).map fun i => (f.offset, i.size))
  | _ => none

theorem SOp.build {cx o s K dst t parts ps t' zl pl l} (ho : o.op = .build t parts) (hdst : o.dst = some dst) (hN : dst < cx.N) (hp : tkParts s.t parts.toList = some (ps, t')) (hz : tzc cx.P t = some zl)
    (hpl : tplaces cx.P t = some pl) (hl : fillG (fun k => pl[k]?) ps zl = some l) (hK : K { s with t := setT t' dst (.a l) }) : SOp cx o s K := by
  obtain ⟨zs, zl, hz1, hfl, rfl⟩ := tzc_iff hz; clear hz; have hz := hz1; clear hz1
  refine SOp.value hdst hN (fun w a β F G e h => ?_) hK
  obtain ⟨tm, ds⟩ := a
  obtain ⟨Fp, G', h1, h2, h3, h4⟩ := tkParts_rep (ds := ds) h.tmps (List.nodup_append.1 h.nd).2.1 hp
  obtain ⟨n1, n2, n3⟩ := List.nodup_append.1 h3
  obtain ⟨cells', F', k1, k2, k3, k4⟩ := fillG_rep h1 (zcs_rep (VP w β s.H) w (zs := zs) hfl) zcL_length (by simpa using n1) hl
  have hb : cx.P.built t (parts.map fun x => (x.1, (⟨tm, ds⟩ : Act).eval x.2)).toList = some cells' := by
    unfold tzero at hz
    simp only [Option.map_eq_some_iff] at hz
    obtain ⟨z, hz, rfl⟩ := hz
    unfold tplaces at hpl
    cases hi : cx.P.info? t with
    | none => simp [hi] at hz
    | some info =>
      simp [hi] at hz
      split at hpl
      · rename_i fields hu
        simp only [Program.built, hi, hu, hz, hpl]
        simpa using k1
      · cases hpl
  have hrun := run_build (P := cx.P) w t _ cells' hb
  refine ⟨.agg cells', F', G', ?_, h2, ?_, ?_, ?_⟩
  · simp [execOp, ho, Sem.run_bind, hrun, Result.andThen]
  · have := TRep.a k2; simpa using this
  · exact List.nodup_append.2 ⟨k3, n2, fun x hx y hy => n3 x (by simpa using k4 x hx) y hy⟩
  · intro b hb
    rcases List.mem_append.1 hb with hb | hb
    · exact h4 b (by have := k4 b hb; simp at this; simp [this])
    · exact h4 b (by simp [hb])

/-- A row of its own. -/
theorem SOp.newRow {cx o s K dst z els cap t'} (hdst : o.dst = some dst) (hN : dst < cx.N) (hz : 0 < z) (hrows : ∀ row ∈ els, row.length = z) (hcap : els.length ≤ cap)
    (h : ∀ (w : World) (a : Act) (β : Nm → Value) (F G : List Nat) (e : Env), RelX e s a.tmps w β F G → ∃ el arr vs Fl G', (execOp a.eval o).run cx.P w = .ok (.value (.slice (some ⟨w.heap.size, 0, none⟩) els.length cap)) { w with heap := w.heap.push (.cells arr el) } ∧
      VRep (VP w β s.H) w els.flatten vs Fl ∧ (∀ (j : Nat) v, vs[j]? = some v → arr[j]? = some v) ∧ cap * z ≤ arr.size ∧ Tmps (VP w β s.H) w a.tmps t' G' ∧ (Fl ++ G').Nodup ∧ ∀ b ∈ Fl ++ G', b ∈ G)
    (hK : K { s with t := setT t' dst (.c (.own z els)) }) : SOp cx o s K := by
  intro e a w next Q hd hNe hr hk
  obtain ⟨hdf, β, F, G, hx⟩ := hr
  obtain ⟨el, arr, vs, Fl, G', h1, h2, h3, h4, h5, h6, h7⟩ := h w a β F G e hx
  unfold Oper.wp
  rw [h1]
  show next (a.put o.dst _) _
  have hG : ∀ b ∈ G, b < w.heap.size := fun b hb => by obtain ⟨arr, el, fr, hb'⟩ := hx.tmps.block b hb; exact lt_of_block hb'
  have hbl := below_push w (.cells arr el)
  have hfs := Frs.push w arr el w.drawn
  have hv : VRep (VP w β s.H) { w with heap := w.heap.push (.cells arr el) } els.flatten vs Fl :=
    h2.mono (K := fun _ => False) (fun c _ => clean_false c) (fun _ _ _ _ h => h) (fun b hb => hbl.block b (hG b (h7 b (by simp [hb]))))
  have hrep : Rep (VP w β s.H) { w with heap := w.heap.push (.cells arr el) } (.own z els) (.slice (some ⟨w.heap.size, 0, none⟩) els.length cap) (w.heap.size :: Fl) :=
    Rep.own hz (push_new w _) (by simp) hrows hcap (by simpa using h4) (hv.reps (push_new w _) (fun j v hj => by simpa using h3 j v hj))
  obtain ⟨G'', hr'⟩ := hx.putW (dst := dst) (x := .c (.own z els)) hbl hfs h5 (.c hrep)
    (List.nodup_append.2 ⟨List.nodup_cons.2 ⟨fun hm => by have := hG w.heap.size (h7 w.heap.size (by simp [hm])); omega, (List.nodup_append.1 h6).1⟩, (List.nodup_append.1 h6).2.1, fun x hx y hy e => by
      subst e
      rcases List.mem_cons.1 hx with h' | h'
      · have := hG x (h7 x (by simp [hy])); omega
      · exact (List.nodup_append.1 h6).2.2 x h' x hy rfl⟩)
    (fun b hb => by
      rcases List.mem_cons.1 hb with h' | h'
      · exact .inr (by omega)
      · exact .inl (h7 b (by simp [h'])))
    (fun b hb => h7 b (by simp [hb])) (by rw [hNe]; exact hN)
  refine hk _ _ _ hK ⟨by rw [Act.put_defers]; exact hdf, β, F, G'', ?_⟩
  simpa [Act.put, hdst] using hr'

theorem madeCells_rows (zs : List Value) (hz : 0 < zs.length) : ∀ n, (madeCells zs.toArray (n * zs.length)).toList = (List.replicate n zs).flatten := by
  intro n
  apply List.ext_getElem?
  intro j
  have hlen : ((List.replicate n zs).flatten).length = n * zs.length := by simp
  by_cases hj : j < n * zs.length
  · have hrow : ∀ r ∈ List.replicate n zs, r.length = zs.length := by intro r hr; rw [List.eq_of_mem_replicate hr]
    have h1 : j / zs.length < n := (Nat.div_lt_iff_lt_mul hz).2 hj
    have h2 : j % zs.length < zs.length := Nat.mod_lt _ hz
    have := flatten_get (els := List.replicate n zs) (i := j / zs.length) (f := j % zs.length) (row := zs) (c := zs[j % zs.length]) hrow (by simp [h1]) (by simp [h2])
    have e : j / zs.length * zs.length + j % zs.length = j := Nat.div_add_mod' j zs.length
    rw [e] at this
    rw [this]
    simp [madeCells, hj, h2]
  · rw [List.getElem?_eq_none (by rw [Array.length_toList, size_madeCells]; omega), List.getElem?_eq_none (by rw [hlen]; omega)]

theorem SOp.makeSlice {cx o s K dst t ln cp kl kc n c el zl i} (ho : o.op = .makeSlice t ln cp) (hdst : o.dst = some dst) (hN : dst < cx.N) (hl : rdO s.t ln = some (.c (.v (.int kl (n : Nat))))) (hc : rdO s.t cp = some (.c (.v (.int kc (c : Nat)))))
    (hel : tel cx.P t = some el) (hz : tzc cx.P el = some zl) (hz0 : 0 < zl.length) (hi : cx.P.info? el = some i) (hsz : i.size = zl.length) (hb : i.bytes ≤ 1048576) (hnc : n ≤ c) (hcb : c ≤ 134217728)
    (hK : K { s with t := setT s.t dst (.c (.own zl.length (List.replicate n zl))) }) : SOp cx o s K := by
  obtain ⟨zs, zl, hz1, hfl, rfl⟩ := tzc_iff hz; clear hz; have hz := hz1; clear hz1
  rw [zcL_length] at hz0 hsz hK
  refine SOp.newRow (cap := c) hdst hN hz0 (fun r hr => by rw [List.eq_of_mem_replicate hr, zcL_length]) (by simpa using hnc) (fun w a β F G e h => ?_) hK
  have e1 := ev_v h.tmps hl
  have e2 := ev_v h.tmps hc
  unfold tzero at hz
  simp only [Option.map_eq_some_iff, hi, Option.bind_some] at hz
  obtain ⟨z, hz, rfl⟩ := hz
  have hbb : i.bytes * c ≤ 1048576 * 134217728 := Nat.mul_le_mul hb hcb
  have hsz' : i.size = z.cells.size := by simpa using hsz
  have hr := run_make (P := cx.P) w t el i z (tel_iff hel) hi hz kl kc n c (by omega) (by omega) (by rw [← Int.natCast_mul]; omega) (by omega)
  simp only [Int.toNat_natCast, hsz] at hr
  have hlen : (List.replicate n (zcL zs z.cells.toList)).length = n := by simp
  refine ⟨el, madeCells z.cells (c * z.cells.toList.length), (List.replicate n z.cells.toList).flatten, [], G, ?_, ?_, ?_, ?_, h.tmps, by simpa using (List.nodup_append.1 h.nd).2.1, by simp⟩
  · rw [hlen]
    simp only [execOp, ho, e1, e2, Sem.run_bind, hr, Result.andThen_ok]
    rfl
  · have : ∀ n, VRep (VP w β s.H) w (List.replicate n (zcL zs z.cells.toList)).flatten (List.replicate n z.cells.toList).flatten [] := by
      intro n
      induction n with
      | zero => exact .nil
      | succ n ih =>
        have := (zcs_rep (VP w β s.H) w (zs := zs) hfl).append ih
        simpa [List.replicate_succ] using this
    exact this n
  · intro j v hj
    have hm := madeCells_rows z.cells.toList hz0 c
    have hj' : (List.replicate c z.cells.toList).flatten[j]? = some v := by
      have : (List.replicate c z.cells.toList) = List.replicate n z.cells.toList ++ List.replicate (c - n) z.cells.toList := by rw [List.replicate_append_replicate]; congr 1; omega
      rw [this, List.flatten_append, List.getElem?_append_left (List.getElem?_eq_some_iff.1 hj).1]
      exact hj
    rw [← hm] at hj'
    simpa using hj'
  · simp [madeCells]

end Go.Px


namespace Go.Px
open Go.RowKit
set_option linter.unusedVariables false
set_option linter.unusedSimpArgs false
set_option linter.constructorNameAsVariable false

/-- parts for the places k, k+1, .., each of z cells: the rows -/
def dense (z : Nat) : Nat → List (Nat × List Cell) → Option (List (List Cell))
  | _, [] => some []
  | k, (j, cs) :: rest => if j = k ∧ cs.length = z then (dense z (k + 1) rest).map (cs :: ·) else none

theorem dense_fill {z : Nat} : ∀ {ps : List (Nat × List Cell)} {k els} {pre l0 : List Cell}, dense z k ps = some els → pre.length = k * z → l0.length = ps.length * z →
    fillG (fun i => some (i * z, z)) ps (pre ++ l0) = some (pre ++ els.flatten) ∧ els.length = ps.length ∧ ∀ r ∈ els, r.length = z
  | [], k, els, pre, l0, h, hp, hl => by
    simp [dense] at h; subst h
    have : l0 = [] := by simpa using hl
    subst this
    simp [fillG]
  | (j, cs) :: rest, k, els, pre, l0, h, hp, hl => by
    simp only [dense] at h
    split at h
    · rename_i hc
      obtain ⟨rfl, hcs⟩ := hc
      simp only [Option.map_eq_some_iff] at h
      obtain ⟨els', h, rfl⟩ := h
      have hl' : l0.length = (rest.length + 1) * z := by simpa using hl
      rw [Nat.succ_mul] at hl'
      have e1 : (pre ++ l0).take (j * z) = pre := by rw [← hp, List.take_left']; rfl
      have e2 : (pre ++ l0).drop (j * z + cs.length) = l0.drop cs.length := by
        rw [← hp, List.drop_append, List.drop_eq_nil_of_le (by omega), show pre.length + cs.length - pre.length = cs.length by omega]; rfl
      obtain ⟨k1, k2, k3⟩ := dense_fill (pre := pre ++ cs) (l0 := l0.drop cs.length) h (by simp [hp, hcs, Nat.succ_mul]) (by simp [hl', hcs])
      refine ⟨?_, by simp [k2], ?_⟩
      · simp only [fillG]
        rw [if_pos ⟨hcs, by simp [hp, hcs, hl']⟩, e1, e2, k1]
        simp
      · intro r hr
        rcases List.mem_cons.1 hr with rfl | hr
        · exact hcs
        · exact k3 r hr
    · cases h

theorem SOp.buildSlice {cx o s K dst t len parts ps t' zl el els} (ho : o.op = .buildSlice t len parts) (hdst : o.dst = some dst) (hN : dst < cx.N) (hp : tkParts s.t parts.toList = some (ps, t')) (hel : tel cx.P t = some el) (hto : tok cx.P el = true)
    (hz : tzc cx.P el = some zl) (hz0 : 0 < zl.length) (hsz : tsz cx.P el = zl.length) (hlen : ps.length = len) (hne0 : 0 < len) (hd : dense zl.length 0 ps = some els) (hb : len * zl.length ≤ 16777216)
    (hK : K { s with t := setT t' dst (.c (.own zl.length els)) }) : SOp cx o s K := by
  subst hlen
  obtain ⟨zs, zl, hz1, hfl, rfl⟩ := tzc_iff hz; clear hz; have hz := hz1; clear hz1
  rw [zcL_length] at hz0 hsz hd hb hK
  have hdf := fun l0 hl0 => dense_fill (pre := []) (l0 := l0) hd (by simp) hl0
  have hel' : els.length = ps.length := (hdf (List.replicate (ps.length * zl.length) .x) (by simp)).2.1
  refine SOp.newRow (cap := ps.length) hdst hN hz0 (hdf (List.replicate (ps.length * zl.length) .x) (by simp)).2.2 (by omega) (fun w a β F G e h => ?_) hK
  obtain ⟨tm, ds⟩ := a
  obtain ⟨Fp, G', h1, h2, h3, h4⟩ := tkParts_rep (ds := ds) h.tmps (List.nodup_append.1 h.nd).2.1 hp
  obtain ⟨n1, n2, n3⟩ := List.nodup_append.1 h3
  unfold tzero at hz
  simp only [Option.map_eq_some_iff] at hz
  obtain ⟨z, hz, rfl⟩ := hz
  obtain ⟨info, hi, hz⟩ : ∃ info, cx.P.info? el = some info ∧ info.zero = some z := by
    cases hi : cx.P.info? el with
    | none => simp [hi] at hz
    | some info => simp [hi] at hz; exact ⟨info, rfl, hz⟩
  have hv0 : VRep (VP w β s.H) w (List.replicate ps.length (zcL zs z.cells.toList)).flatten (List.replicate ps.length z.cells.toList).flatten [] := by
    generalize ps.length = n
    induction n with
    | zero => exact .nil
    | succ n ih =>
      have := (zcs_rep (VP w β s.H) w (zs := zs) hfl).append ih
      simpa [List.replicate_succ] using this
  obtain ⟨hf, -, -⟩ := hdf (List.replicate ps.length (zcL zs z.cells.toList)).flatten (by simp [zcL_length])
  simp only [List.nil_append] at hf
  obtain ⟨cells', F', k1, k2, k3, k4⟩ := fillG_rep h1 hv0 (by simp [zcL_length]) (by simpa using n1) hf
  have hmc := madeCells_rows z.cells.toList hz0 ps.length
  have hzs : z.cells.toList.toArray = z.cells := by simp
  have hrun : (Instr.buildSlice t ps.length (parts.map fun x => (x.1, (⟨tm, ds⟩ : Act).eval x.2))).run cx.P w = .ok (.slice (some ⟨w.heap.size, 0, none⟩) ps.length ps.length) { w with heap := w.heap.push (.cells cells' el) } := by
    have hz1 : z.cells.size ≠ 0 := by simpa using Nat.ne_of_gt hz0
    have harr : (Array.range (ps.length * z.cells.toList.length)).map (z.cells[· % z.cells.size]!) = ((List.replicate ps.length z.cells.toList).flatten).toArray := by
      rw [← hmc, hzs, madeCells]
    have hsz1 : z.cells.toList.length = z.cells.size := by simp
    have hr1 := run_sizeOf (w := w) hto
    rw [hsz] at hr1
    rw [hzs] at hmc
    have hcs : z.cells.size ≠ 0 := hz1
    have hne : ¬ (ps.length * z.cells.size = 0) := by
      intro e
      rcases Nat.mul_eq_zero.1 e with e | e <;> omega
    have hb' : ¬ (16777216 < ps.length * z.cells.size) := by rw [hsz1] at hb; omega
    rw [hsz1] at harr
    have k1' : Instr.fill (fun i => some (i * z.cells.size, z.cells.size)) (Array.map (fun x => z.cells[x % z.cells.size]!) (Array.range (ps.length * z.cells.size))) (List.map (fun x => (x.fst, (⟨tm, ds⟩ : Act).eval x.snd)) parts.toList) = some cells' := by
      rw [harr, ← hsz1]; exact k1
    simp [Instr.buildSlice, run_underlying (tel_iff hel), Sem.run_bind, hr1, Result.andThen, Sem.run, zeroValue, typeInfo, program, hi, hz]
    rw [if_neg hb', if_neg hne]
    rw [k1']
    simp [Go.newRow, Go.newObj, Sem.run, Sem.run_bind, Result.andThen]
  refine ⟨el, cells', cells'.toList, F', G', ?_, k2, fun j v hj => by simpa using hj, ?_, h2, ?_, ?_⟩
  · rw [hel']
    simp only [execOp, ho, Sem.run_bind, hrun, Result.andThen_ok]
    rfl
  · have := k2.length
    have hl2 := flatten_len (hdf (List.replicate (ps.length * z.cells.toList.length) .x) (by simp)).2.2
    rw [Array.length_toList] at this
    rw [this, hl2, hel']; exact Nat.le_refl _
  · exact List.nodup_append.2 ⟨k3, n2, fun x hx y hy => n3 x (by simpa using k4 x hx) y hy⟩
  · intro b hb
    rcases List.mem_append.1 hb with hb | hb
    · exact h4 b (by have := k4 b hb; simp at this; simp [this])
    · exact h4 b (by simp [hb])

end Go.Px


namespace Go.Px
open Go.RowKit
set_option linter.unusedVariables false
set_option linter.unusedSimpArgs false
set_option linter.constructorNameAsVariable false

/-- What references mean stays where what is held stays. -/
theorem VP1.keep {g R w w' β H F} (hh : Holds g R w β H F) (hF : ∀ b ∈ F, w'.heap[b]? = w.heap[b]?) (hg : ∀ b, b < g → w'.heap[b]? = w.heap[b]?) : ∀ y x, VP1 w β H y x → VP1 w' β H y x := by
  have key : ∀ r q c z els h, look H r = some c → c.get q = some (.own z els) → hdr w q c (β r) = some h → hdr w' q c (β r) = some h := by
    intro r q c z els h e1 e2 e3
    obtain ⟨F1, k1, k2⟩ := hh.rep e1
    rw [← e3]
    refine k1.hdr_same (fun b hb => ?_) e2
    rcases k2 with k2 | k2
    · exact hF b (k2 b hb)
    · exact hg b (k2 b hb)
  intro y x hv
  cases y with
  | sl r q z i n =>
    obtain ⟨c, els, h, e1, e2, e3, e4⟩ := hv
    exact ⟨c, els, h, e1, e2, key r q c z els h e1 e2 e3, e4⟩
  | pt r q z i f =>
    obtain ⟨c, els, h, e1, e2, e3, e4⟩ := hv
    exact ⟨c, els, h, e1, e2, key r q c z els h e1 e2 e3, e4⟩
  | v y => exact hv
  | own z els => exact hv.elim
  | fn f cs => exact hv.elim
  | x => exact hv.elim

theorem RelX.putX {e s a w w' β F G dst x v Fx t' G'} (h : RelX e s a w β F G) (hext : Ext w w' (F ++ G) (F ++ (Fx ++ G'))) (hF : ∀ b ∈ F, w'.heap[b]? = w.heap[b]?) (hlow : ∀ b, b < e.g → w'.heap[b]? = w.heap[b]?)
    (ht : Tmps (VP w β s.H) w a t' G') (hG' : ∀ b ∈ G', w'.heap[b]? = w.heap[b]?) (hx : TRep (VP w' β s.H) w' x v Fx) (hn : (F ++ (Fx ++ G')).Nodup) (hd : dst < e.N) :
    ∃ G'', RelX e { s with t := setT t' dst x } (a.setIfInBounds dst v) w' β F G'' := by
  have hgl : e.g ≤ w.heap.size := h.gw.1
  have hv1 := VP1.keep h.holds hF hlow
  have hv := VP.of1 hv1
  have ht2 : Tmps (VP w' β s.H) w' a t' G' := ht.mono (fun e _ => tclean_false e.2) (fun _ _ => rfl) hv hG'
  obtain ⟨G2, h1, h2⟩ := ht2.set hx (dst := dst) (by rw [h.size]; exact hd)
  have hsl : (F ++ (Fx ++ G2)).Sublist (F ++ (Fx ++ G')) := List.Sublist.append (.refl _) (List.Sublist.append (.refl _) h2)
  refine ⟨Fx ++ G2, { holds := h.holds.mono (fun _ _ => rfl) (fun e _ => clean_false e.2) hv hF hlow, tmps := h1, nd := List.Nodup.sublist hsl hn, low := ?_, ext := h.ext.trans (hext.sub (fun b hb => hsl.subset hb)), gle := h.gle, out := h.out, fresh := h.fresh, stab := fun y x hy hh => hv1 _ _ (h.stab y x hy hh), size := by rw [Array.size_setIfInBounds]; exact h.size, hd := h.hd }⟩
  intro b hb
  rcases hext.new b (hsl.subset hb) with h' | h'
  · exact h.low b h'
  · omega

theorem Reps.vrep {R : Cell → Value → Prop} {w : World} {b : Nat} {arr : Array Value} {el : TypeId} {fr : Nat × Nat} (hb : w.heap[b]? = some (.cells arr el fr)) : ∀ {l F o}, Reps R w b o l F → ∃ vs, VRep R w l vs F ∧ ∀ (j : Nat) v, vs[j]? = some v → arr[o + j]? = some v
  | [], F, o, h => by cases h; exact ⟨[], .nil, by simp⟩
  | c :: l, F, o, h => by
    cases h with
    | @cons _ _ _ _ x F0 G hx hc hs =>
      obtain ⟨vs, h1, h2⟩ := Reps.vrep hb hs
      refine ⟨x :: vs, .cons hc h1, fun j v hj => ?_⟩
      cases j with
      | zero => simp at hj; subst hj; simp [World.cell?, hb] at hx; simpa using hx
      | succ j => have := h2 j v (by simpa using hj); rwa [show o + (j + 1) = o + 1 + j by omega]

theorem VRep.flat {R w} : ∀ {l vs F}, VRep R w l vs F → ∀ v ∈ vs, flat v = true
  | _, _, _, .nil, v, h => by simp at h
  | _, _, _, .cons hr ht, v, h => by
    rcases List.mem_cons.1 h with rfl | h
    · exact hr.flat
    · exact ht.flat v h

theorem oneCell_of_flat {v : Value} (h : flat v = true) : v.oneCell' = true := by cases v <;> first | rfl | simp [Go.Px.flat] at h

/-- What stands in line is what an array is that owns it. -/
theorem own_inv {R w z els v F} (h : Rep R w (.own z els) v F) : (els = [] ∧ F = [] ∧ ∃ A, v = .slice A 0 0) ∨
    ∃ b off cap arr el F1 vs fr, F = b :: F1 ∧ v = .slice (some ⟨b, off, none⟩) els.length cap ∧ 0 < z ∧ (w.heap[b]? = some (.cells arr el fr) ∧ ∀ o, off ≤ o → o < off + cap * z → ¬ (fr.1 ≤ o ∧ o < fr.2)) ∧ (∀ row ∈ els, row.length = z) ∧ els.length ≤ cap ∧ off + cap * z ≤ arr.size ∧
      VRep R w els.flatten vs F1 ∧ ∀ (j : Nat) u, vs[j]? = some u → arr[off + j]? = some u := by
  cases h with
  | ref hi => simp [isRef] at hi
  | nil z A => exact .inl ⟨rfl, rfl, A, rfl⟩
  | @own _ b off cap _ arr el fr F hz hb hfr hr hl hs hreps =>
    obtain ⟨vs, h1, h2⟩ := hreps.vrep hb
    exact .inr ⟨b, off, cap, arr, el, F, vs, fr, rfl, rfl, hz, ⟨hb, hfr⟩, hr, hl, hs, h1, h2⟩

section
variable {P : Program} {w : World}

theorem run_first {size n : Nat} {A : Option Addr} {cap : Nat} {news : List Value} {W : World} (hl : news.length = n * size) (h : news = [] ∨ ∃ a, A = some a ∧ ∀ (j : Nat) u, news[j]? = some u → W.cell? (a.add j) = some u) :
    (Builtin.firstCells size n (.slice A n cap)).run P W = .ok news.toArray W := by
  rcases h with rfl | ⟨a, rfl, h⟩
  · have : n * size = 0 := by rw [← hl]; rfl
    cases A with
    | none => simp [Builtin.firstCells]
    | some a =>
      simp [Builtin.firstCells, this, loadCells, loadCellsFrom]
  · exact run_firstCells_some W size n a n cap news hl h

theorem run_app_fit {t ty e : TypeId} {i : TypeInfo} (ht : P.underlying t = some (.slice e)) (hi : P.info? e = some i) {A X : Option Addr} {sLen sCap n c : Nat} {news : List Value} (hl : news.length = n * i.size)
    (h : news = [] ∨ ∃ a, X = some a ∧ ∀ (j : Nat) u, news[j]? = some u → w.cell? (a.add j) = some u) (hfit : sLen + n ≤ sCap) :
    (Builtin.append_ #[t, t] ty #[.slice A sLen sCap, .slice X n c]).run P w = ((match A with | some a => storeCells (a.add (sLen * i.size)) news | none => pure () : Sem Unit).run P w).andThen (fun _ w' => .ok (.slice A (sLen + n) sCap) w') := by
  have hf := run_first (P := P) (cap := c) hl h
  cases A with
  | none => simp [Builtin.append_, run_underlying ht, sizeOf, typeInfo, hi, Builtin.lenOf, hfit, hf, Sem.run_bind, Result.andThen, Sem.run, program]
  | some a => simp [Builtin.append_, run_underlying ht, sizeOf, typeInfo, hi, Builtin.lenOf, hfit, hf, Sem.run_bind, Result.andThen, Sem.run, program]

theorem run_app_grow {t ty e : TypeId} {i : TypeInfo} {z : Value} (ht : P.underlying t = some (.slice e)) (hi : P.info? e = some i) (hz : i.zero = some z) {A X : Option Addr} {sLen sCap n c : Nat} {olds news : List Value} (hl : news.length = n * i.size) (hlo : olds.length = sLen * i.size)
    (h : news = [] ∨ ∃ a, X = some a ∧ ∀ (j : Nat) u, news[j]? = some u → w.cell? (a.add j) = some u) (ho : olds = [] ∨ ∃ a, A = some a ∧ ∀ (j : Nat) u, olds[j]? = some u → w.cell? (a.add j) = some u)
    (hfit : sCap < sLen + n) (h63 : ((sLen + n : Nat) : Int) ≤ 9223372036854775807) (h48 : Builtin.nextslicecap (sLen + n) sCap * i.bytes ≤ 281474976710656) :
    (Builtin.append_ #[t, t] ty #[.slice A sLen sCap, .slice X n c]).run P w = .ok (.slice (some ⟨w.heap.size, 0, none⟩) (sLen + n) (grownCap w (sLen + n) sCap e))
        (w.drew.alloc (.cells (olds.toArray ++ news.toArray ++ Builtin.zeroCells z.cells (grownCap w (sLen + n) sCap e - (sLen + n))) e)) := by
  have hn : ¬ (sLen + n ≤ sCap) := by omega
  have h63' : ¬ (9223372036854775807 < ((sLen : Int) + (n : Int))) := by omega
  have h48' : ¬ (281474976710656 < Builtin.nextslicecap (sLen + n) sCap * i.bytes) := by omega
  have hf := run_first (P := P) (W := w.drew) (cap := c) hl (h.imp id (fun ⟨a, h1, h2⟩ => ⟨a, h1, by simpa using h2⟩))
  have hfo := run_first (P := P) (W := w.drew) (cap := sCap) hlo (ho.imp id (fun ⟨a, h1, h2⟩ => ⟨a, h1, by simpa using h2⟩))
  simp [Builtin.append_, run_underlying ht, sizeOf, typeInfo, zeroValue, hi, hz, Builtin.lenOf, hn, h63', h48', Question.forced, hf, hfo, Go.newRow, grownCap]
  congr 2
  apply Array.ext'
  simp [List.append_assoc]
end

/-- What is appended: cells that own nothing, read from an array; or an array that is used up. -/
inductive Src (s : St) (t1 : List (Nat × T)) (x : Operand) (els2 : List (List Cell)) (z : Nat) : List (Nat × T) → Prop
  | own {z2 t2} : tkO t1 x = some (.c (.own z2 els2), t2) → (els2 ≠ [] → z2 = z) → Src s t1 x els2 z t2
  | ref {r q z2 i n els} : rdO t1 x = some (.c (.sl r q z2 i n)) → arrAt s.H r q = some (z2, els) → els2 = (els.drop i).take n → (∀ row ∈ els2, ∀ c ∈ row, isOwn c = false) → (els2 ≠ [] → z2 = z) → Src s t1 x els2 z t1

theorem VRep.bare_of {R w} : ∀ {l vs F}, VRep R w l vs F → (∀ c ∈ l, isOwn c = false) → F = []
  | _, _, _, .nil, _ => rfl
  | _, _, _, .cons hr ht, h => by rw [hr.bare (h _ (by simp)), ht.bare_of (fun c hc => h c (by simp [hc]))]; rfl

theorem Src.rep {e s w β F G0 G x els2 z t2 t1} {a : Act} (h : Src s t1 x els2 z t2) (hx : RelX e s a.tmps w β F G0) (ht : Tmps (VP w β s.H) w a.tmps t1 G) (hn : G.Nodup) :
    ∃ X c vs F2 G', a.eval x = .slice X els2.length c ∧ VRep (VP w β s.H) w els2.flatten vs F2 ∧ (vs = [] ∨ ∃ b o, X = some ⟨b, o, none⟩ ∧ (∀ (j : Nat) u, vs[j]? = some u → w.cell? ⟨b, o + j, none⟩ = some u)) ∧ (∀ row ∈ els2, row.length = z) ∧
      Tmps (VP w β s.H) w a.tmps t2 G' ∧ (F2 ++ G').Nodup ∧ ∀ b ∈ F2 ++ G', b ∈ G := by
  cases h with
  | @own z2 _ h1 hz =>
    obtain ⟨tm, ds⟩ := a
    obtain ⟨Fx, G', k1, k2, k3, k4⟩ := tkO_rep (ds := ds) ht hn h1
    generalize hev : (⟨tm, ds⟩ : Act).eval x = v at k1
    cases k1 with
    | c hr =>
      rcases own_inv hr with ⟨rfl, rfl, A, rfl⟩ | ⟨b, off, cap, arr, el, F1, vs, fr, rfl, rfl, hz', ⟨hb, hfr⟩, hrow, hcap, hsz, hv, hcells⟩
      · exact ⟨A, 0, [], [], G', by simp, .nil, .inl rfl, by simp, k2, by simpa using k3, fun b hb => k4 b hb⟩
      · refine ⟨_, cap, vs, F1, G', rfl, hv, .inr ⟨b, off, rfl, fun j u hj => ?_⟩, fun row hr' => ?_, k2, ?_, ?_⟩
        · simp [World.cell?, hb]; exact hcells j u hj
        · rw [hrow row hr', hz (fun e => by rw [e] at hr'; simp at hr')]
        · exact List.Nodup.sublist (List.sublist_cons_self _ _) k3
        · exact fun b' hb' => k4 b' (by simp at hb' ⊢; exact .inr hb')
  | @ref r q z2 i n els h1 ha hels hbare hz =>
    have hv := rd_ref ht h1 rfl
    obtain ⟨c, els', hh, e1, e2, e3, e4, e5⟩ := hv
    have ha' := arrAt_iff.2 ⟨c, e1, e2⟩
    rw [ha] at ha'; cases ha'
    obtain ⟨F1, hr, -⟩ := hx.holds.rep e1
    obtain ⟨h', F0, k1, k2, k3⟩ := hr.node e2
    rw [e3] at k1; cases k1
    have hlen : els2.length = n := by rw [hels, List.length_take, List.length_drop]; omega
    rcases own_inv k2 with ⟨rfl, rfl, A, rfl⟩ | ⟨b, off, cap, arr, el, F1', vs, fr, rfl, rfl, hz', ⟨hb, hfr⟩, hrow, hcap, hsz, hvr, hcells⟩
    · simp at hels
      subst hels
      have hn0 : n = 0 := by simpa using hlen.symm
      subst hn0
      rcases e5 with ⟨b, off, n0, cap0, cap, e6, e7, -⟩ | ⟨-, A', e7⟩
      · exact ⟨_, _, [], [], G, e7, .nil, .inl rfl, by simp, ht, by simpa using hn, by simp⟩
      · exact ⟨_, _, [], [], G, e7.1, .nil, .inl rfl, by simp, ht, by simpa using hn, by simp⟩
    · -- the segment
      have hsplit : els.flatten = (els.take i).flatten ++ (els2.flatten ++ ((els.drop i).drop n).flatten) := by
        rw [hels, ← List.flatten_append, List.take_append_drop, ← List.flatten_append, List.take_append_drop]
      have hl1 : ((els.take i).flatten).length = i * z2 := by
        rw [flatten_len (fun r hr => hrow r (List.mem_of_mem_take hr)), List.length_take]
        congr 1; omega
      have hrow2 : ∀ row ∈ els2, row.length = z2 := fun row hr => hrow row (by rw [hels] at hr; exact List.mem_of_mem_drop (List.mem_of_mem_take hr))
      have hl2 : els2.flatten.length = n * z2 := by rw [flatten_len hrow2, hlen]
      rw [hsplit] at hvr
      obtain ⟨Fa, Fr, rfl, ka, kr⟩ := hvr.take_drop (i * z2)
      rw [List.drop_left' hl1] at kr
      obtain ⟨Fb, Fc, rfl, kb, kc⟩ := kr.take_drop (n * z2)
      rw [List.take_left' hl2] at kb
      have hFb : Fb = [] := kb.bare_of (fun c hc => by obtain ⟨row, h1, h2⟩ := List.mem_flatten.1 hc; exact hbare row h1 c h2)
      subst hFb
      have hcell : ∀ (j : Nat) u, ((vs.drop (i * z2)).take (n * z2))[j]? = some u → w.cell? ⟨b, off + i * z2 + j, none⟩ = some u := by
        intro j u hj
        rw [List.getElem?_take] at hj
        split at hj
        · rw [List.getElem?_drop] at hj
          have := hcells _ _ hj
          simp [World.cell?, hb]; rwa [Nat.add_assoc]
        · cases hj
      have hfin : ∀ X c, a.eval x = .slice X n c → (els2.flatten = [] ∨ X = some ⟨b, off + i * z2, none⟩) → ∃ X c vs F2 G', a.eval x = .slice X els2.length c ∧ VRep (VP w β s.H) w els2.flatten vs F2 ∧ (vs = [] ∨ ∃ b o, X = some ⟨b, o, none⟩ ∧ (∀ (j : Nat) u, vs[j]? = some u → w.cell? ⟨b, o + j, none⟩ = some u)) ∧ (∀ row ∈ els2, row.length = z) ∧
          Tmps (VP w β s.H) w a.tmps t2 G' ∧ (F2 ++ G').Nodup ∧ ∀ b ∈ F2 ++ G', b ∈ G := by
        intro X c hev hX
        refine ⟨X, c, _, [], G, by rw [hlen]; exact hev, kb, ?_, fun row hr => by rw [hrow2 row hr]; exact hz (fun e => by rw [e] at hr; simp at hr), ht, by simpa using hn, by simp⟩
        rcases hX with hX | hX
        · left
          have := kb.length
          rw [hX] at this
          exact List.length_eq_zero_iff.1 (by simpa using this)
        · right; exact ⟨b, _, hX, hcell⟩
      rcases e5 with ⟨b', off', n0, cap0, cap', e6, e7, e8, e9⟩ | ⟨hn0, A', e7⟩
      · cases e6
        exact hfin _ _ e7 (.inr rfl)
      · subst hn0
        have : els2 = [] := List.length_eq_zero_iff.1 hlen
        exact hfin _ _ e7.1 (.inl (by simp [this]))

end Go.Px


namespace Go.Px
open Go.RowKit
set_option linter.unusedVariables false
set_option linter.unusedSimpArgs false
set_option linter.constructorNameAsVariable false

theorem run_storeCells_fr (P : Program) (g o : Nat) (t : TypeId) (fz : Nat × Nat) : ∀ (vs : List Value) (i : Nat) (cur : Array Value) (w : World), w.heap[g]? = some (.cells cur t fz) → (∀ p, o + i ≤ p → p < o + i + vs.length → ¬ (fz.1 ≤ p ∧ p < fz.2)) → o + i + vs.length ≤ cur.size → (∀ v ∈ vs, v.oneCell' = true) →
    (storeCells ⟨g, o, none⟩ vs i).run P w = .ok () (w.setRow g (cur.toList.take (o + i) ++ vs ++ cur.toList.drop (o + i + vs.length)).toArray)
  | [], i, cur, w, hg, _, _, _ => by
    simp only [storeCells, List.append_nil, List.length_nil, Nat.add_zero, List.take_append_drop, Array.toArray_toList]
    rw [setRow_self w g cur t fz hg]
    rfl
  | v :: rest, i, cur, w, hg, hfz, hl, h1 => by
    have hi : o + i < cur.size := by simp at hl; omega
    have hadd : (⟨g, o, none⟩ : Addr).add i = ⟨g, o + i, none⟩ := by unfold Addr.add; split <;> simp_all
    have hcell : w.cell? ⟨g, o + i, none⟩ = some cur[o + i] := by simp [World.cell?, hg, hi]
    have hfro : w.frozen? ⟨g, o + i, none⟩ = false := by
      have := hfz (o + i) (by omega) (by simp)
      simp only [World.frozen?, hg]
      simpa using this
    have hst : (store ((⟨g, o, none⟩ : Addr).add i) v).run P w = .ok () (w.setRow g (cur.setIfInBounds (o + i) v)) := by
      rw [hadd, run_store P w _ v _ (h1 v (by simp)), hcell]
      simp [hfro, setCell_eq_setRow w g (o + i) cur t fz v hg]
    have ih := run_storeCells_fr P g o t fz rest (i + 1) (cur.setIfInBounds (o + i) v) (w.setRow g (cur.setIfInBounds (o + i) v)) (setRow_heap w g cur _ t _ hg) (fun p h2 h3 => hfz p (by omega) (by simp; omega)) (by simp at hl ⊢; omega) (fun x hx => h1 x (by simp [hx]))
    simp only [storeCells, Sem.run_bind, hst, Result.andThen_ok, ih, setRow_setRow]
    congr 3
    have e := list_seg_step cur.toList (o + i) v rest (by simp at hl ⊢; omega)
    simpa [Array.toList_setIfInBounds, Nat.add_assoc] using e

/-- What is appended, and what appending it does: the row's cells, and the two ways a run goes. -/
def AppSrc (cx : Cx) (s : St) (t1 : List (Nat × T)) (sx : Operand) (els2 : List (List Cell)) (zn : Nat) (i : TypeInfo) (el : TypeId) (at_ : Array TypeId) (ty : TypeId) (t2 : List (Nat × T)) : Prop :=
  ∀ (e : Env) (w : World) (β : Nm → Value) (F G1 : List Nat) (a : Act) (G : List Nat), RelX e s a.tmps w β F G → Tmps (VP w β s.H) w a.tmps t1 G1 → G1.Nodup →
    ∃ xv vs2 F2 G2, a.eval sx = xv ∧ VRep (VP w β s.H) w els2.flatten vs2 F2 ∧ (∀ row ∈ els2, row.length = zn) ∧ Tmps (VP w β s.H) w a.tmps t2 G2 ∧ (F2 ++ G2).Nodup ∧ (∀ b ∈ F2 ++ G2, b ∈ G1) ∧
      (∀ A sLen sCap, sLen + els2.length ≤ sCap → (Builtin.append_ at_ ty #[.slice A sLen sCap, xv]).run cx.P w = ((match A with | some a => storeCells (a.add (sLen * i.size)) vs2 | none => pure () : Sem Unit).run cx.P w).andThen (fun _ w' => .ok (.slice A (sLen + els2.length) sCap) w')) ∧
      (∀ A sLen sCap olds (z : Value), i.zero = some z → olds.length = sLen * i.size → (olds = [] ∨ ∃ a, A = some a ∧ ∀ (j : Nat) u, olds[j]? = some u → w.cell? (a.add j) = some u) → sCap < sLen + els2.length → ((sLen + els2.length : Nat) : Int) ≤ 9223372036854775807 → Builtin.nextslicecap (sLen + els2.length) sCap * i.bytes ≤ 281474976710656 →
        (Builtin.append_ at_ ty #[.slice A sLen sCap, xv]).run cx.P w = .ok (.slice (some ⟨w.heap.size, 0, none⟩) (sLen + els2.length) (grownCap w (sLen + els2.length) sCap el))
          (w.drew.alloc (.cells (olds.toArray ++ vs2.toArray ++ Builtin.zeroCells z.cells (grownCap w (sLen + els2.length) sCap el - (sLen + els2.length))) el)))

theorem SOp.append_core {cx o s K dst c t at_ sb sx z0 els els2 t1 t2 el i zl} (ho : o.op = .call c) (hc : c.callee = .builtin .append) (ha : c.args = #[sb, sx]) (hat : c.argTypes = at_) (hdst : o.dst = some dst) (hN : dst < cx.N)
    (hb : tkO s.t sb = some (.c (.own z0 els), t1)) (hs : AppSrc cx s t1 sx els2 zl.length i el at_ o.type t2) (hel : tel cx.P t = some el) (hi : cx.P.info? el = some i) (hz : tzc cx.P el = some zl) (hz0 : 0 < zl.length) (hsz : i.size = zl.length)
    (hbz : z0 = zl.length ∨ z0 = 0) (hbd : els.length + els2.length ≤ 134217728) (hby : i.bytes ≤ 1048576)
    (hK : K { s with t := setT t2 dst (.c (.own zl.length (els ++ els2))) }) : SOp cx o s K := by
  obtain ⟨zs, zl, hz1, hfl, rfl⟩ := tzc_iff hz; clear hz; have hz := hz1; clear hz1
  rw [zcL_length] at hs
  simp only [zcL_length] at hz0 hsz hbz hK
  obtain ⟨zr, hzr'⟩ : ∃ zr, zr = zl.length := ⟨_, rfl⟩
  rw [← hzr'] at hK
  have hzr : els ++ els2 ≠ [] → zr = zl.length := fun _ => hzr'
  intro e a w next Q hd hNe hr hk
  obtain ⟨hdf, β, F, G, hx⟩ := hr
  obtain ⟨tm, ds⟩ := a
  obtain ⟨Fx, G1, h1, h2, h3, h4⟩ := tkO_rep (ds := ds) hx.tmps (List.nodup_append.1 hx.nd).2.1 hb
  obtain ⟨n1, n2, n3⟩ := List.nodup_append.1 h3
  obtain ⟨xv, vs2, F2, G2, m1, m2, m4, m5, m6, m7, hfitR, hgrowR⟩ := hs e w β F G1 ⟨tm, ds⟩ G hx h2 n2
  unfold tzero at hz
  simp only [Option.map_eq_some_iff, hi, Option.bind_some] at hz
  obtain ⟨z, hz, rfl⟩ := hz
  generalize hev : (⟨tm, ds⟩ : Act).eval sb = v at h1
  have hl2 : vs2.length = els2.length * i.size := by rw [m2.length, flatten_len m4, hsz]
  have hF : ∀ b ∈ F, b < w.heap.size := fun b hb => by obtain ⟨arr, el, fr, hb'⟩ := hx.holds.block b hb; exact lt_of_block hb'
  have hG : ∀ b ∈ G, b < w.heap.size := fun b hb => by obtain ⟨arr, el, fr, hb'⟩ := hx.tmps.block b hb; exact lt_of_block hb'
  have hgl : e.g ≤ w.heap.size := hx.gw.1
  -- all that is owned, apart
  have hall : (F ++ (Fx ++ (F2 ++ G2))).Nodup := by
    refine List.nodup_append.2 ⟨(List.nodup_append.1 hx.nd).1, List.nodup_append.2 ⟨n1, m6, fun x hx y hy => n3 x hx y (m7 y hy)⟩, fun x hxx y hy => ?_⟩
    have hy' : y ∈ G := by
      rcases List.mem_append.1 hy with hy | hy
      · exact h4 y (by simp [hy])
      · exact h4 y (by simp [m7 y hy])
    exact (List.nodup_append.1 hx.nd).2.2 x hxx y hy'
  have hGall : ∀ b ∈ Fx ++ (F2 ++ G2), b ∈ G := by
    intro b hb
    rcases List.mem_append.1 hb with hb | hb
    · exact h4 b (by simp [hb])
    · exact h4 b (by simp [m7 b hb])
  -- what is to be shown of the run
  suffices hrun : ∃ v' w' Fn, (Builtin.append_ at_ o.type #[v, xv]).run cx.P w = .ok v' w' ∧ (∀ b ∈ F, w'.heap[b]? = w.heap[b]?) ∧ (∀ b, b < e.g → w'.heap[b]? = w.heap[b]?) ∧ (∀ b ∈ G2, w'.heap[b]? = w.heap[b]?) ∧
      Rep (VP w' β s.H) w' (.own zr (els ++ els2)) v' Fn ∧ (F ++ (Fn ++ G2)).Nodup ∧ Ext w w' (F ++ G) (F ++ (Fn ++ G2)) by
    obtain ⟨v', w', Fn, r1, r2, r3, r4, r5, r6, r7⟩ := hrun
    unfold Oper.wp
    have : (execOp (⟨tm, ds⟩ : Act).eval o).run cx.P w = .ok (.value v') w' := by
      simp only [execOp, ho, resolve, hc, ha, hat, invoke, Go.builtin]
      simp [hev, m1, r1, Sem.run_bind, Result.andThen]
    rw [this]
    show next ((⟨tm, ds⟩ : Act).put o.dst _) _
    obtain ⟨G'', hr'⟩ := hx.putX (dst := dst) (x := .c (.own zr (els ++ els2))) r7 r2 r3 m5 r4 (.c r5) r6 (by rw [hNe]; exact hN)
    refine hk _ _ _ hK ⟨by rw [Act.put_defers]; exact hdf, β, F, G'', ?_⟩
    simpa [Act.put, hdst] using hr'
  cases h1 with
  | c hrep =>
    have mkGrow : ∀ (A : Option Addr) (cap : Nat) (olds : List Value) (Fo : List Nat), v = .slice A els.length cap → VRep (VP w β s.H) w els.flatten olds Fo → (∀ row ∈ els, row.length = z.cells.toList.length) →
        (olds = [] ∨ ∃ a, A = some a ∧ ∀ (j : Nat) u, olds[j]? = some u → w.cell? (a.add j) = some u) → Fo.Sublist Fx → cap < els.length + els2.length → ∃ v' w' Fn, (Builtin.append_ at_ o.type #[v, xv]).run cx.P w = .ok v' w' ∧ (∀ b ∈ F, w'.heap[b]? = w.heap[b]?) ∧ (∀ b, b < e.g → w'.heap[b]? = w.heap[b]?) ∧ (∀ b ∈ G2, w'.heap[b]? = w.heap[b]?) ∧
      Rep (VP w' β s.H) w' (.own zr (els ++ els2)) v' Fn ∧ (F ++ (Fn ++ G2)).Nodup ∧ Ext w w' (F ++ G) (F ++ (Fn ++ G2)) := by
      intro A cap olds Fo hv ho1 hrow ho2 hsub hlt
      have hlo : olds.length = els.length * i.size := by rw [ho1.length, flatten_len hrow, hsz]
      have h48 : Builtin.nextslicecap (els.length + els2.length) cap * i.bytes ≤ 281474976710656 := by
        have h1 := nextslicecap_le hlt
        calc Builtin.nextslicecap (els.length + els2.length) cap * i.bytes ≤ (2 * 134217728) * 1048576 := Nat.mul_le_mul (by omega) hby
          _ = 281474976710656 := by decide
      have hr := hgrowR A els.length cap olds z hz hlo ho2 hlt (by omega) h48
      have hbl : Below w.heap.size w (w.drew.alloc (.cells (olds.toArray ++ vs2.toArray ++ Builtin.zeroCells z.cells (grownCap w (els.length + els2.length) cap el - (els.length + els2.length))) el)) :=
        ((Below.refl w.heap.size w).drew).alloc (Nat.le_refl _) _
      have hcap := grownCap_ge w (els.length + els2.length) cap el
      have hrows : ∀ row ∈ els ++ els2, row.length = z.cells.toList.length := fun row hr => by
        rcases List.mem_append.1 hr with h | h
        · exact hrow row h
        · exact m4 row h
      have hne : els ++ els2 ≠ [] := fun e => by
        have h := congrArg List.length e
        rw [List.length_append, List.length_nil] at h
        omega
      have hv1 := VP1.keep hx.holds (fun b hb => hbl.block b (hF b hb)) (fun b hb => hbl.block b (by omega))
      have hvr : VRep (VP (w.drew.alloc (.cells (olds.toArray ++ vs2.toArray ++ Builtin.zeroCells z.cells (grownCap w (els.length + els2.length) cap el - (els.length + els2.length))) el)) β s.H) (w.drew.alloc (.cells (olds.toArray ++ vs2.toArray ++ Builtin.zeroCells z.cells (grownCap w (els.length + els2.length) cap el - (els.length + els2.length))) el)) (els ++ els2).flatten (olds ++ vs2) (Fo ++ F2) := by
        rw [List.flatten_append]
        exact (ho1.append m2).mono (K := fun _ => False) (fun c _ => clean_false c) (VP.of1 hv1) (fun b hb => hbl.block b (hG b (hGall b (by
          rcases List.mem_append.1 hb with h | h
          · simp [hsub.subset h]
          · simp [h]))))
      have hnb : ((w.drew.alloc (.cells (olds.toArray ++ vs2.toArray ++ Builtin.zeroCells z.cells (grownCap w (els.length + els2.length) cap el - (els.length + els2.length))) el))).heap[w.heap.size]? = some (.cells (olds.toArray ++ vs2.toArray ++ Builtin.zeroCells z.cells (grownCap w (els.length + els2.length) cap el - (els.length + els2.length))) el (0, 0)) := by
        show (w.heap.push _)[w.heap.size]? = _
        simp
      have hreps := hvr.reps hnb (o := 0) (fun j u hj => by
        have : (olds ++ vs2)[j]? = some u := hj
        simp only [Nat.zero_add]
        have hlt := (List.getElem?_eq_some_iff.1 this).1
        rw [Array.getElem?_append_left (by simpa using hlt)]
        simpa using this)
      refine ⟨_, _, w.heap.size :: (Fo ++ F2), by rw [hv]; exact hr, fun b hb => hbl.block b (hF b hb), fun b hb => hbl.block b (by omega), fun b hb => hbl.block b (hG b (hGall b (by simp [hb]))), ?_, ?_, ?_⟩
      · rw [hzr hne]
        have hsize : 0 + grownCap w (els.length + els2.length) cap el * z.cells.toList.length ≤ (olds.toArray ++ vs2.toArray ++ Builtin.zeroCells z.cells (grownCap w (els.length + els2.length) cap el - (els.length + els2.length))).size := by
          have h1 : z.cells.size = i.size := by rw [hsz]; simp
          simp only [Array.size_append, List.size_toArray, size_zeroCells, hl2, hlo, h1, Array.length_toList, Nat.zero_add]
          rw [← Nat.add_mul, ← Nat.add_mul]
          exact Nat.mul_le_mul_right _ (by omega)
        have := Rep.own (els := els ++ els2) (off := 0) (cap := grownCap w (els.length + els2.length) cap el) hz0 hnb (by simp) hrows (by simpa using hcap) hsize hreps
        simpa using this
      · have hFo : ∀ b ∈ Fo ++ F2, b ∈ G := fun b hb => by
          rcases List.mem_append.1 hb with h | h
          · exact hGall b (by simp [hsub.subset h])
          · exact hGall b (by simp [h])
        have hsl : (F ++ ((Fo ++ F2) ++ G2)).Sublist (F ++ (Fx ++ (F2 ++ G2))) := by
          rw [List.append_assoc]
          exact List.Sublist.append (.refl _) (List.Sublist.append hsub (.refl _))
        have hnd := List.Nodup.sublist hsl hall
        obtain ⟨a1, a2, a3⟩ := List.nodup_append.1 hnd
        refine List.nodup_append.2 ⟨a1, ?_, fun x hx y hy e => ?_⟩
        · refine List.nodup_cons.2 ⟨fun hm => ?_, a2⟩
          have : w.heap.size ∈ G := by
            rcases List.mem_append.1 hm with h | h
            · exact hFo _ h
            · exact hGall _ (by simp [h])
          have := hG _ this; omega
        · subst e
          rcases List.mem_cons.1 hy with h | h
          · have := hF x hx; omega
          · exact a3 x hx x h rfl
      · refine Ext.below hbl (Frs.push w _ _ _) (fun b hb => ?_)
        rcases List.mem_append.1 hb with h | h
        · exact .inl (by simp [h])
        · rcases List.mem_cons.1 h with h | h
          · exact .inr (by omega)
          · refine .inl (List.mem_append.2 (.inr (hGall b ?_)))
            rcases List.mem_append.1 h with h | h
            · rcases List.mem_append.1 h with h | h
              · simp [hsub.subset h]
              · simp [h]
            · simp [h]
    rcases own_inv hrep with ⟨rfl, rfl, A, rfl⟩ | ⟨b, off, cap, arr, elt, F1, vs, fr, rfl, rfl, hz', ⟨hb', hfr⟩, hrow, hcap, hsize, hvr, hcells⟩
    · by_cases hfit : 0 + els2.length ≤ 0
      · have he2 : els2 = [] := List.length_eq_zero_iff.1 (by omega)
        subst he2
        have hv2 : vs2 = [] := List.length_eq_zero_iff.1 (by simpa using hl2)
        subst hv2
        have hr := hfitR A 0 0 (by simp)
        refine ⟨.slice A 0 0, w, [], ?_, fun _ _ => rfl, fun _ _ => rfl, fun _ _ => rfl, ?_, ?_, ?_⟩
        · simp only [List.length_nil, Nat.add_zero] at hr
          rw [hr]
          cases A <;> simp [storeCells, Sem.run, Result.andThen]
        · exact Rep.nil _ _
        · simp only [List.nil_append] at hall ⊢
          exact List.Nodup.sublist (List.Sublist.append (.refl _) (List.sublist_append_right _ _)) hall
        · exact (Ext.refl w _).sub (fun b hb => by
            rcases List.mem_append.1 hb with h | h
            · simp [h]
            · exact List.mem_append.2 (.inr (hGall b (by simpa using .inr h))))
      · exact mkGrow A 0 [] [] rfl .nil (by simp) (.inl rfl) (List.nil_sublist _) (by simp only [List.length_nil]; omega)
    · have hbz : z0 = z.cells.toList.length := hbz.resolve_right (by omega)
      by_cases hfit : els.length + els2.length ≤ cap
      · have hz1 : z0 = i.size := by rw [hbz, hsz]
        have hlz : els.length * i.size = els.length * z0 := by rw [hz1]
        -- the row's width, where the two are together not empty
        have hzz : zr = z0 := by
          rw [hzr', hbz]
        have hvl : vs2.length = els2.length * z0 := by rw [hl2, hz1]
        have hlen1 : els.flatten.length = els.length * z0 := flatten_len hrow
        have hmul : (els.length + els2.length) * z0 ≤ cap * z0 := Nat.mul_le_mul_right _ hfit
        rw [Nat.add_mul] at hmul
        have hr := hfitR (some ⟨b, off, none⟩) els.length cap hfit
        have hst := run_storeCells_fr cx.P b (off + els.length * z0) elt fr vs2 0 arr w hb' (fun o h1 h2 => hfr o (by omega) (by omega)) (by omega) (fun v hv => oneCell_of_flat (m2.flat v hv))
        simp only [Nat.add_zero] at hst
        simp only [add_none, hlz, hst, Result.andThen_ok] at hr
        generalize hA : (arr.toList.take (off + els.length * z0) ++ vs2 ++ arr.toList.drop (off + els.length * z0 + vs2.length)).toArray = arr' at hr
        have hsz' : arr'.size = arr.size := by
          rw [← hA]; simp; omega
        have hot : ∀ b', b' ≠ b → (w.setRow b arr').heap[b']? = w.heap[b']? := fun b' h => setRow_other w b b' arr' h
        have hnb := setRow_heap w b arr arr' elt fr hb'
        have hbF : ∀ b' ∈ F, b' ≠ b := fun b' h e => by
          subst e
          exact (List.nodup_append.1 hall).2.2 b' h b' (by simp) rfl
        have hbr : ∀ b' ∈ F1 ++ (F2 ++ G2), b' ≠ b := fun b' h e => by
          subst e
          have := (List.nodup_append.1 hall).2.1
          simp only [List.cons_append] at this
          exact (List.nodup_cons.1 this).1 h
        have hbg : e.g ≤ b := hx.low b (by simp [hGall b (by simp)])
        have hv1 := VP1.keep hx.holds (fun b' hb => hot b' (hbF b' hb)) (fun b' hb => hot b' (by omega))
        have hvr2 : VRep (VP (w.setRow b arr') β s.H) (w.setRow b arr') (els ++ els2).flatten (vs ++ vs2) (F1 ++ F2) := by
          rw [List.flatten_append]
          exact (hvr.append m2).mono (K := fun _ => False) (fun c _ => clean_false c) (VP.of1 hv1) (fun b' h => hot b' (hbr b' (by
            rcases List.mem_append.1 h with h | h <;> simp [h])))
        have hvs : vs.length = els.length * z0 := by rw [hvr.length, hlen1]
        have hreps := hvr2.reps hnb (o := off) (fun j u hj => by
          rw [← hA]
          rw [List.getElem?_toArray]
          by_cases hj1 : j < vs.length
          · rw [List.getElem?_append_left hj1] at hj
            rw [List.append_assoc, List.getElem?_append_left (by simp; omega), List.getElem?_take, if_pos (by omega)]
            simpa using hcells j u hj
          · rw [List.getElem?_append_right (by omega)] at hj
            have hlt := (List.getElem?_eq_some_iff.1 hj).1
            have ht : (List.take (off + els.length * z0) arr.toList).length = off + els.length * z0 := by simp; omega
            rw [List.append_assoc, List.getElem?_append_right (by omega), List.getElem?_append_left (by omega), ht]
            rw [← hj]; congr 1; omega)
        refine ⟨_, _, b :: (F1 ++ F2), hr, fun b' h => hot b' (hbF b' h), fun b' h => hot b' (by omega), fun b' h => hot b' (hbr b' (by simp [h])), ?_, ?_, ?_⟩
        · rw [hzz]
          have := Rep.own (els := els ++ els2) (off := off) (cap := cap) hz' hnb hfr (fun row hr => by
            rcases List.mem_append.1 hr with h | h
            · exact hrow row h
            · rw [m4 row h, hbz]) (by simpa using hfit) (by rw [hsz']; exact hsize) hreps
          simpa using this
        · simp only [List.cons_append, List.append_assoc] at hall ⊢
          exact hall
        · refine ⟨rfl, rfl, rfl, ⟨by simp, Frs.row hb' hnb hot (Nat.le_refl _)⟩, fun b' hb1 hb2 => hot b' (fun e => hb2 (by rw [e]; exact List.mem_append.2 (.inr (hGall b (by simp))))), fun b' hb1 => .inl ?_⟩
          rcases List.mem_append.1 hb1 with h | h
          · simp [h]
          · exact List.mem_append.2 (.inr (hGall b' (by simpa [List.append_assoc] using h)))
      · exact mkGrow _ cap vs F1 rfl hvr (fun row hr => by rw [hrow row hr, hbz]) (.inr ⟨_, rfl, fun j u hj => by rw [add_none]; simp [World.cell?, hb']; exact hcells j u hj⟩)
          (List.sublist_cons_self _ _) (by omega)

theorem Src.app {cx s t1 sx els2 zn i el t ty t2} (hs : Src s t1 sx els2 zn t2) (hel : tel cx.P t = some el) (hi : cx.P.info? el = some i) (hsz : i.size = zn) : AppSrc cx s t1 sx els2 zn i el #[t, t] ty t2 := by
  intro e w β F G1 a G hx h2 n2
  obtain ⟨X, cX, vs2, F2, G2, m1, m2, m3, m4, m5, m6, m7⟩ := hs.rep (a := a) hx h2 n2
  have hl2 : vs2.length = els2.length * i.size := by rw [m2.length, flatten_len m4, hsz]
  have hsrc : vs2 = [] ∨ ∃ a, X = some a ∧ ∀ (j : Nat) u, vs2[j]? = some u → w.cell? (a.add j) = some u := by
    rcases m3 with m3 | ⟨b, o, rfl, m3⟩
    · exact .inl m3
    · exact .inr ⟨_, rfl, fun j u hj => by rw [add_none]; exact m3 j u hj⟩
  exact ⟨_, vs2, F2, G2, m1, m2, m4, m5, m6, m7, fun A sLen sCap hfit => run_app_fit (tel_iff hel) hi hl2 hsrc hfit,
    fun A sLen sCap olds z hz hlo ho hlt h63 h48 => run_app_grow (tel_iff hel) hi hz hl2 hlo hsrc ho hlt h63 h48⟩

theorem SOp.append {cx o s K dst c t sb sx z0 els els2 t1 t2 el i zl} (ho : o.op = .call c) (hc : c.callee = .builtin .append) (ha : c.args = #[sb, sx]) (hat : c.argTypes = #[t, t]) (hdst : o.dst = some dst) (hN : dst < cx.N)
    (hb : tkO s.t sb = some (.c (.own z0 els), t1)) (hs : Src s t1 sx els2 zl.length t2) (hel : tel cx.P t = some el) (hi : cx.P.info? el = some i) (hz : tzc cx.P el = some zl) (hz0 : 0 < zl.length) (hsz : i.size = zl.length)
    (hbz : z0 = zl.length ∨ z0 = 0) (hbd : els.length + els2.length ≤ 134217728) (hby : i.bytes ≤ 1048576)
    (hK : K { s with t := setT t2 dst (.c (.own zl.length (els ++ els2))) }) : SOp cx o s K :=
  SOp.append_core ho hc ha hat hdst hN hb (hs.app hel hi hsz) hel hi hz hz0 hsz hbz hbd hby hK

/-- append(x, make([]T, n)...): rows of zeros -/
theorem SOp.appendZ {cx o s K dst c t tn k sb sx z0 els kn n t1 el i zl} (ho : o.op = .call c) (hc : c.callee = .builtin .append) (ha : c.args = #[sb, sx]) (hat : c.argTypes = #[t, tn]) (htn : cx.P.underlying tn = some (.int k)) (hdst : o.dst = some dst) (hN : dst < cx.N)
    (hb : tkO s.t sb = some (.c (.own z0 els), t1)) (hn : rdO s.t sx = some (.c (.v (.int kn n)))) (hn0 : 0 ≤ n) (hel : tel cx.P t = some el) (hi : cx.P.info? el = some i) (hz : tzc cx.P el = some zl) (hz0 : 0 < zl.length) (hsz : i.size = zl.length)
    (hbz : z0 = zl.length ∨ z0 = 0) (hbd : els.length + n.toNat ≤ 134217728) (hby : i.bytes ≤ 1048576)
    (hK : K { s with t := setT t1 dst (.c (.own zl.length (els ++ List.replicate n.toNat zl))) }) : SOp cx o s K := by
  obtain ⟨m, rfl⟩ : ∃ m : Nat, n = m := ⟨n.toNat, by omega⟩
  simp only [Int.toNat_natCast] at hbd hK
  refine SOp.append_core ho hc ha hat hdst hN hb (t2 := t1) ?_ hel hi hz hz0 hsz hbz (by simpa using hbd) hby hK
  obtain ⟨zs, zl, hz1, hfl, rfl⟩ := tzc_iff hz
  rw [zcL_length] at hz0 hsz ⊢
  unfold tzero at hz1
  simp only [Option.map_eq_some_iff, hi, Option.bind_some] at hz1
  obtain ⟨z, hzz, rfl⟩ := hz1
  intro e w β F G1 a G hx h2 n2
  have e1 := ev_v hx.tmps hn
  have hsz' : z.cells.size = i.size := by rw [hsz]; simp
  have hvr : ∀ n, VRep (VP w β s.H) w (List.replicate n (zcL zs z.cells.toList)).flatten (List.replicate n z.cells.toList).flatten [] := by
    intro n
    induction n with
    | zero => exact .nil
    | succ n ih =>
      have := (zcs_rep (VP w β s.H) w (zs := zs) hfl).append ih
      simpa [List.replicate_succ] using this
  have hw : IntKind.i64.wrap (m : Int) = m := by
    have e1 : (2 : Int) ^ 64 = 18446744073709551616 := rfl
    have e2 : (2 : Int) ^ (64 - 1) = 9223372036854775808 := rfl
    simp only [IntKind.wrap, IntKind.bits, IntKind.signed, Bool.true_and, decide_eq_true_eq, e1, e2]
    by_cases h : (m : Int) % 18446744073709551616 ≥ 9223372036854775808
    · rw [if_pos h]; omega
    · rw [if_neg h]; omega
  have hzc : (Builtin.zeroCells z.cells m).toList = (List.replicate m z.cells.toList).flatten := by
    have := madeCells_rows z.cells.toList hz0 m
    rw [← this]
    simp [Builtin.zeroCells, madeCells]
  have hbm : (m : Int) * i.bytes ≤ 281474976710656 := by
    have h1 : m * i.bytes ≤ 134217728 * 1048576 := Nat.mul_le_mul (by omega) hby
    have h2 : (m : Int) * i.bytes = ((m * i.bytes : Nat) : Int) := by simp
    rw [h2]; omega
  have happ : ∀ W : World, ((if m * i.size = 0 then pure #[] else do pure (Builtin.zeroCells (← zeroValue el).cells m) : Sem (Array Value))).run cx.P W = .ok (Builtin.zeroCells z.cells m) W := by
    intro W
    by_cases h0 : m * i.size = 0
    · have : m = 0 := by
        rcases Nat.mul_eq_zero.1 h0 with h | h
        · exact h
        · omega
      subst this
      simp [Sem.run, pure, Builtin.zeroCells]
    · rw [if_neg h0]
      simp [zeroValue, typeInfo, hi, hzz, Sem.run_bind, Result.andThen]
  refine ⟨_, (List.replicate m z.cells.toList).flatten, [], G1, e1, hvr m, fun r hr => by rw [List.eq_of_mem_replicate hr, zcL_length], h2, by simpa using n2, by simp, fun A sLen sCap hfit => ?_, fun A sLen sCap olds z' hz' hlo ho hlt h63 h48 => ?_⟩
  · have hlen : (List.replicate m (zcL zs z.cells.toList)).length = m := by simp
    rw [hlen] at hfit ⊢
    have hm0 : ¬ ((m : Int) < 0) := by omega
    have hbm' : ¬ (281474976710656 < (m : Int) * i.bytes) := by omega
    have ha := happ w
    cases A with
    | none =>
      by_cases h0 : m * i.size = 0
      · simp [Builtin.append_, run_underlying (tel_iff hel), run_underlying htn, sizeOf, typeInfo, hi, hfit, hw, hm0, hbm', asInt, asIntOf, Sem.run_bind, Result.andThen, h0]
      · simp [Builtin.append_, run_underlying (tel_iff hel), run_underlying htn, sizeOf, typeInfo, zeroValue, hi, hzz, hfit, hw, hm0, hbm', asInt, asIntOf, Sem.run_bind, Result.andThen, h0]
    | some b =>
      by_cases h0 : m * i.size = 0
      · have hm : m = 0 := by
          rcases Nat.mul_eq_zero.1 h0 with h | h
          · exact h
          · omega
        subst hm
        simp only [Int.natCast_zero] at hw
        simp [Builtin.append_, run_underlying (tel_iff hel), run_underlying htn, sizeOf, typeInfo, hi, show sLen ≤ sCap by omega, hw, asInt, asIntOf, Sem.run_bind, Result.andThen]
      · simp [Builtin.append_, run_underlying (tel_iff hel), run_underlying htn, sizeOf, typeInfo, zeroValue, hi, hzz, hfit, hw, hm0, hbm', asInt, asIntOf, Sem.run_bind, Result.andThen, h0, hzc]
  · have hlen : (List.replicate m (zcL zs z.cells.toList)).length = m := by simp
    rw [hlen] at hlt h63 h48 ⊢
    rw [hzz] at hz'; cases hz'
    have hm0 : ¬ ((m : Int) < 0) := by omega
    have hbm' : ¬ (281474976710656 < (m : Int) * i.bytes) := by omega
    have hn : ¬ (sLen + m ≤ sCap) := by omega
    have h63' : ¬ (9223372036854775807 < ((sLen : Int) + (m : Int))) := by omega
    have h48' : ¬ (281474976710656 < Builtin.nextslicecap (sLen + m) sCap * i.bytes) := by omega
    have hfo := run_first (P := cx.P) (W := w.drew) (cap := sCap) hlo (ho.imp id (fun ⟨a, h1, h2⟩ => ⟨a, h1, by simpa using h2⟩))
    by_cases h0 : m * i.size = 0
    · have hm : m = 0 := by
        rcases Nat.mul_eq_zero.1 h0 with h | h
        · exact h
        · omega
      subst hm
      simp only [Int.natCast_zero] at hw
      simp at hfo h48' hn h63'
      simp [Builtin.append_, run_underlying (tel_iff hel), run_underlying htn, sizeOf, typeInfo, zeroValue, hi, hzz, hw, asInt, asIntOf, Int.not_lt.2 h63', Nat.not_lt.2 h48', Question.forced, hfo, Go.newRow, grownCap, show ¬ sLen ≤ sCap by omega]
    · simp [Builtin.append_, run_underlying (tel_iff hel), run_underlying htn, sizeOf, typeInfo, zeroValue, hi, hzz, hw, hm0, hbm', asInt, asIntOf, hn, h63', h48', Question.forced, hfo, Go.newRow, grownCap, h0]
      congr 2
      apply Array.ext'
      simp [hzc, List.append_assoc]

end Go.Px


namespace Go.Px
open Go.RowKit
set_option linter.unusedVariables false
set_option linter.unusedSimpArgs false
set_option linter.constructorNameAsVariable false

theorem Clean.at {K c P c0} (h : Clean K c) (hg : c.get P = some c0) : Clean K c0 := by
  intro p c' hg' hr
  exact h (P ++ p) c' (by rw [get_append, hg]; exact hg') hr

theorem Clean.setc {K c1} (h1 : Clean K c1) : ∀ {P : Path} {c}, Clean K c → Clean K (Cell.set c1 P c)
  | [], c, h => by simpa [Cell.set] using h1
  | (i, f) :: p, c, h => by
    cases c with
    | own z els =>
      simp only [Cell.set]
      split
      · rename_i row hi
        split
        · rename_i c' hf
          have hc' : Clean K c' := h.sub c' (List.mem_flatten.2 ⟨row, List.mem_of_getElem? hi, List.mem_of_getElem? hf⟩)
          refine Clean.own (fun r hr x hx => ?_)
          rcases List.mem_or_eq_of_mem_set hr with h' | rfl
          · exact h.sub x (List.mem_flatten.2 ⟨r, h', hx⟩)
          · rcases List.mem_or_eq_of_mem_set hx with h' | rfl
            · exact h.sub x (List.mem_flatten.2 ⟨row, List.mem_of_getElem? hi, h'⟩)
            · exact Clean.setc h1 hc'
        · exact h
      · exact h
    | _ => exact h

theorem look_mem {r c} : ∀ {H : HH}, look H r = some c → (r, c) ∈ H
  | [], h => by simp [look] at h
  | (s, d) :: t, h => by
    by_cases e : s = r
    · subst e; simp [look] at h; subst h; simp
    · simp only [look, e, if_false] at h; exact List.mem_cons_of_mem _ (look_mem h)

theorem mem_putH {r c1 e} : ∀ {H : HH}, e ∈ putH H r c1 → e ∈ H ∨ e = (r, c1)
  | [], h => by simp [putH] at h
  | (s, d) :: t, h => by
    by_cases hs : s = r
    · simp only [putH, hs, if_true, List.mem_cons] at h
      rcases h with h | h
      · exact .inr (by rw [h])
      · exact .inl (by simp [h])
    · simp only [putH, hs, if_false, List.mem_cons] at h
      rcases h with h | h
      · exact .inl (by simp [h])
      · exact (mem_putH h).imp (fun h => by simp [h]) id

/-- The rest of an array, as a slice sees it to its end. -/
theorem rep_drop {R w z els h F v i0 n} (hr : Rep R w (.own z els) h F) (hv : (∃ b off n0 cap0 cap, h = .slice (some ⟨b, off, none⟩) n0 cap0 ∧ v = .slice (some ⟨b, off + i0 * z, none⟩) n cap ∧ n ≤ cap ∧ i0 + cap = cap0) ∨ (n = 0 ∧ ∃ A, v = .slice A 0 0 ∧ ∃ B m, h = .slice B m i0))
    (hn : i0 + n = els.length) : ∃ F', Rep R w (.own z (els.drop i0)) v F' ∧ F'.Sublist F := by
  have hlen : (els.drop i0).length = n := by rw [List.length_drop]; omega
  have hzero : n = 0 → ∀ A, v = .slice A 0 0 → ∃ F', Rep R w (.own z (els.drop i0)) v F' ∧ F'.Sublist F := by
    rintro h0 A rfl
    have : els.drop i0 = [] := List.length_eq_zero_iff.1 (by omega)
    rw [this]
    exact ⟨[], .nil _ _, List.nil_sublist _⟩
  rcases hv with ⟨b, off, n0, cap0, cap, rfl, rfl, h1, h2⟩ | ⟨h0, A, h1, -⟩
  · generalize hh : Value.slice (some ⟨b, off, none⟩) n0 cap0 = hv at hr
    cases hr with
    | ref hi => simp [isRef] at hi
    | nil z A =>
      cases hh
      simp only [List.length_nil] at hn
      have hc : cap = 0 := by omega
      have hn0 : n = 0 := by omega
      exact hzero hn0 (some ⟨b, off + i0 * z, none⟩) (by rw [hc, hn0])
    | @own _ b' off' cap' _ arr el fr F hz hb hfr hrow hl hs hreps =>
      cases hh
      have hsp : els.flatten = (els.take i0).flatten ++ (els.drop i0).flatten := by rw [← List.flatten_append, List.take_append_drop]
      have hl1 : ((els.take i0).flatten).length = i0 * z := by
        rw [flatten_len (fun r hr => hrow r (List.mem_of_mem_take hr)), List.length_take]
        congr 1; omega
      rw [hsp] at hreps
      obtain ⟨F1, F2, rfl, k1, k2⟩ := hreps.split
      rw [hl1] at k2
      have hm : (i0 + cap) * z ≤ cap0 * z := Nat.mul_le_mul_right _ (Nat.le_of_eq h2)
      rw [Nat.add_mul] at hm
      have := Rep.own (els := els.drop i0) (off := off + i0 * z) (cap := cap) hz hb (fun o h1 h2 => hfr o (by omega) (by omega)) (fun r hr => hrow r (List.mem_of_mem_drop hr)) (by omega) (by omega) k2
      rw [hlen] at this
      exact ⟨_, this, (List.sublist_append_right F1 F2).cons_cons _⟩
  · exact hzero h0 A h1

/-- A stretch of an array. -/
def cutD {α : Type} (i n : Nat) (l : List α) : List α := (l.drop i).take n
theorem cutD_drop {α : Type} {i n : Nat} {l : List α} (h : l.length ≤ i + n) : cutD i n l = l.drop i := List.take_of_length_le (by rw [List.length_drop]; omega)
theorem rep_cut {R w z els h F v i0 n} (hr : Rep R w (.own z els) h F) (hv : (∃ b off n0 cap0 cap, h = .slice (some ⟨b, off, none⟩) n0 cap0 ∧ v = .slice (some ⟨b, off + i0 * z, none⟩) n cap ∧ n ≤ cap ∧ i0 + cap = cap0) ∨ (n = 0 ∧ ∃ A, v = .slice A 0 0 ∧ ∃ B m, h = .slice B m i0))
    (hn : i0 + n ≤ els.length) : ∃ F', Rep R w (.own z (cutD i0 n els)) v F' ∧ F'.Sublist F := by
  have hlen : (cutD i0 n els).length = n := by unfold cutD; rw [List.length_take, List.length_drop]; omega
  have hzero : n = 0 → ∀ A, v = .slice A 0 0 → ∃ F', Rep R w (.own z (cutD i0 n els)) v F' ∧ F'.Sublist F := by
    rintro h0 A rfl
    have : cutD i0 n els = [] := List.length_eq_zero_iff.1 (by omega)
    rw [this]
    exact ⟨[], .nil _ _, List.nil_sublist _⟩
  rcases hv with ⟨b, off, n0, cap0, cap, rfl, rfl, h1, h2⟩ | ⟨h0, A, h1, -⟩
  · generalize hh : Value.slice (some ⟨b, off, none⟩) n0 cap0 = hv at hr
    cases hr with
    | ref hi => simp [isRef] at hi
    | nil z A =>
      cases hh
      simp only [List.length_nil] at hn
      have hc : cap = 0 := by omega
      have hn0 : n = 0 := by omega
      exact hzero hn0 (some ⟨b, off + i0 * z, none⟩) (by rw [hc, hn0])
    | @own _ b' off' cap' _ arr el fr F hz hb hfr hrow hl hs hreps =>
      cases hh
      have hsp : els.flatten = (els.take i0).flatten ++ ((cutD i0 n els).flatten ++ ((els.drop i0).drop n).flatten) := by
        unfold cutD
        rw [← List.flatten_append, ← List.flatten_append, List.take_append_drop, List.take_append_drop]
      have hl1 : ((els.take i0).flatten).length = i0 * z := by
        rw [flatten_len (fun r hr => hrow r (List.mem_of_mem_take hr)), List.length_take]
        congr 1; omega
      rw [hsp] at hreps
      obtain ⟨F1, F2, rfl, k1, k2⟩ := hreps.split
      obtain ⟨F3, F4, rfl, k3, k4⟩ := k2.split
      rw [hl1] at k3
      have hm : (i0 + cap) * z ≤ cap0 * z := Nat.mul_le_mul_right _ (Nat.le_of_eq h2)
      rw [Nat.add_mul] at hm
      have := Rep.own (els := cutD i0 n els) (off := off + i0 * z) (cap := cap) hz hb (fun o h1 h2 => hfr o (by omega) (by omega)) (fun r hr => hrow r (List.mem_of_mem_drop (List.mem_of_mem_take hr))) (by omega) (by omega) k3
      rw [hlen] at this
      exact ⟨_, this, ((List.sublist_append_left F3 F4).trans (List.sublist_append_right F1 _)).cons_cons _⟩
  · exact hzero h0 A h1

theorem outer_nohit {w0 β0 y x d q} {H0 : HH} {r : Nm} (h : VP1 w0 β0 H0 y x) (hf : ∀ x ∈ H0, x.1.1 ≠ d) (hr : r.1 = d) : ¬ hit1 [(r, q)] y := by
  intro hh
  cases y with
  | sl r' q' z i n =>
    obtain ⟨e, he, h1, -⟩ := hh
    simp at he; subst he
    obtain ⟨c, els, hd, e1, -⟩ := h
    exact hf _ (look_mem e1) (by rw [← h1]; exact hr)
  | pt r' q' z i f =>
    obtain ⟨e, he, h1, -⟩ := hh
    simp at he; subst he
    obtain ⟨c, els, hd, e1, -⟩ := h
    exact hf _ (look_mem e1) (by rw [← h1]; exact hr)
  | _ => exact hh

theorem hit1_cons {e L y} (h : ¬ hit1 (e :: L) y) : ¬ hit1 [e] y ∧ ¬ hit1 L y := by
  constructor
  · intro hh; apply h
    cases y <;> first | (obtain ⟨e', h1, h2⟩ := hh; simp at h1; subst h1; exact ⟨e', by simp, h2⟩) | exact hh
  · intro hh; apply h
    cases y <;> first | (obtain ⟨e', h1, h2⟩ := hh; exact ⟨e', by simp [h1], h2⟩) | exact hh

def noteH (d : Nat) (r : Nm) (q : Path) (lg : List (Nm × Path)) : List (Nm × Path) := if r.1 = d then lg else (r, q) :: lg

/-- What stands at a path of an object is taken out of it, into the temporary that refers to it. -/
theorem Rel.take {e s a w i r q z i0 n els c} (p : Nat × T → Bool) (h : Rel e s a w) (hi : getT s.t i = some (.c (.sl r q z i0 n))) (h0 : r.1 ≠ 0) (hq : q ≠ []) (hl : look s.H r = some c) (hg : c.get q = some (.own z els)) (hn : i0 + n ≤ els.length)
    (hcl : ∀ en ∈ s.H, Clean (hit [(r, q)]) en.2) (hp : ∀ en ∈ s.t, en.1 ≠ i → p en = true → en.2.clean (hit [(r, q)])) :
    Rel e { t := (i, .c (.own z (cutD i0 n els))) :: (delT s.t i).filter p, H := putH s.H r (Cell.set .x q c), lg := noteH e.d r q s.lg } a w := by
  obtain ⟨hdf, β, F, G, h⟩ := h
  have hnG := (List.nodup_append.1 h.nd).2.1
  obtain ⟨v, F1, F2, k1, k2, k3, k4, k5⟩ := h.tmps.take hi hnG
  have hv := trep_ref k2 rfl
  obtain ⟨a0, x0, F0, G0, m1, m2, m3, m4, m5, m6, m7, m8, m9⟩ := h.holds.write (List.nodup_append.1 h.nd).1 (fun b hb => h.low b (by simp [hb])) h0 hl hq hg
  obtain ⟨c', els', hd, e1, e2, e3, e4, e5⟩ := hv
  rw [hl] at e1; cases e1
  rw [hg] at e2; cases e2
  rw [m2] at e3; cases e3
  obtain ⟨F0', r1, r2⟩ := rep_cut m6 e5 hn
  have hst := m8 w .x (fun b _ => But.of_eq rfl) (fun _ _ => rfl)
  have hK : ∀ y x, isRef y = true → ¬ hit [(r, q)] y → VP w β s.H y x → VP w β (putH s.H r (Cell.set .x q c)) y x := VP.map hst
  obtain ⟨F', p1, p2⟩ := m9 (hit [(r, q)]) w .x x0 [] (fun b _ => But.of_eq rfl) (fun _ _ => rfl) m3 (fun en he => by
    rcases mem_putH he with h' | rfl
    · exact hcl en h'
    · exact Clean.setc Clean.hole (hcl _ (look_mem hl))) hK (.x x0 m6.flat)
  obtain ⟨G', t1, t2⟩ := k3.filter p
  have t3 := t1.mono (K := hit [(r, q)]) (R' := VP w β (putH s.H r (Cell.set .x q c))) (w' := w) (a' := a.tmps) (fun en he => by
    have h1 := List.mem_filter.1 he
    have h2 := List.mem_filter.1 h1.1
    exact hp en h2.1 (by simpa using h2.2) h1.2) (fun _ _ => rfl) hK (fun _ _ => rfl)
  have hcd : Clean (hit [(r, q)]) (.own z (cutD i0 n els)) := by
    have := (hcl _ (look_mem hl)).at hg
    exact Clean.own (fun row hr x hx => this.sub x (List.mem_flatten.2 ⟨row, List.mem_of_mem_drop (List.mem_of_mem_take hr), hx⟩))
  have r3 := r1.mono hcd hK (fun _ _ => rfl)
  have hFp : F.Perm (F0 ++ G0) := m7
  have hF' : ∀ b ∈ F', b ∈ G0 := fun b hb => by simpa using p1.subset hb
  have hsub : ∀ b ∈ F' ++ (F0' ++ G'), b ∈ F ++ G := by
    intro b hb
    rcases List.mem_append.1 hb with hb | hb
    · exact List.mem_append.2 (.inl (hFp.symm.subset (by simp [hF' b hb])))
    · rcases List.mem_append.1 hb with hb | hb
      · exact List.mem_append.2 (.inl (hFp.symm.subset (by simp [r2.subset hb])))
      · exact List.mem_append.2 (.inr (k5 b (by simp [t2.subset hb])))
  have hndF := hFp.nodup_iff.1 (List.nodup_append.1 h.nd).1
  obtain ⟨n1, n2, n3⟩ := List.nodup_append.1 hndF
  refine ⟨hdf, β, F', F0' ++ G', { holds := p2, tmps := .cons k1 (.c r3) t3, nd := ?_, low := fun b hb => h.low b (hsub b hb), ext := h.ext.sub hsub, gle := h.gle, out := h.out, fresh := h.fresh, stab := ?_, size := h.size, hd := h.hd }⟩
  · refine List.nodup_append.2 ⟨p1.nodup_iff.2 (by simpa using n2), List.nodup_append.2 ⟨List.Nodup.sublist r2 n1, List.Nodup.sublist t2 (List.nodup_append.1 k4).2.1, fun x hx y hy e => ?_⟩, fun x hx y hy e => ?_⟩
    · subst e
      exact (List.nodup_append.1 h.nd).2.2 x (hFp.symm.subset (by simp [r2.subset hx])) x (k5 x (by simp [t2.subset hy])) rfl
    · subst e
      rcases List.mem_append.1 hy with hy | hy
      · exact n3 x (r2.subset hy) x (hF' x hx) rfl
      · exact (List.nodup_append.1 h.nd).2.2 x (hFp.symm.subset (by simp [hF' x hx])) x (k5 x (by simp [t2.subset hy])) rfl
  · intro y x hy hv0
    by_cases hrd : r.1 = e.d
    · simp only [noteH, hrd, if_true] at hy
      exact hst y x (outer_nohit hv0 h.fresh hrd) (h.stab y x hy hv0)
    · simp only [noteH, hrd, if_false] at hy
      obtain ⟨y1, y2⟩ := hit1_cons hy
      exact hst y x y1 (h.stab y x y2 hv0)

end Go.Px


namespace Go.Px
open Go.RowKit
set_option linter.unusedVariables false
set_option linter.unusedSimpArgs false
set_option linter.constructorNameAsVariable false

def delH : HH → Nm → HH
  | [], _ => []
  | (s, c) :: t, r => if s = r then t else (s, c) :: delH t r

theorem look_delH_ne {r r'} (hn : r' ≠ r) : ∀ {H : HH}, look (delH H r) r' = look H r'
  | [] => rfl
  | (s, d) :: t => by
    by_cases e : s = r
    · subst e; simp only [delH, look, if_true, if_neg (fun h => hn (Eq.symm h))]
    · simp only [delH, e, if_false, look]; rw [look_delH_ne hn]

theorem mem_delH {r e} : ∀ {H : HH}, e ∈ delH H r → e ∈ H
  | [], h => by simp [delH] at h
  | (s, d) :: t, h => by
    by_cases hs : s = r
    · simp only [delH, hs, if_true] at h; simp [h]
    · simp only [delH, hs, if_false, List.mem_cons] at h
      rcases h with h | h
      · simp [h]
      · simp [mem_delH h]

theorem Holds.del {g R w β r c} (h0 : r.1 ≠ 0) : ∀ {H : HH} {F}, Holds g R w β H F → look H r = some c → ∃ Fr G, F.Perm (Fr ++ G) ∧ Rep R w c (β r) Fr ∧ Holds g R w β (delH H r) G
  | _, _, .nil, h => by simp [look] at h
  | _, _, .sh (r := s) (c := d) (t := t) hs hr hb ht, h => by
    by_cases e : s = r
    · subst e; exact absurd hs h0
    · simp only [look, e, if_false] at h
      obtain ⟨Fr, G, h1, h2, h3⟩ := Holds.del h0 ht h
      exact ⟨Fr, G, h1, h2, by simp only [delH, e, if_false]; exact .sh hs hr hb h3⟩
  | _, _, .ow (r := s) (c := d) (t := t) (F1 := F1) (F := F) hs hr ht, h => by
    by_cases e : s = r
    · subst e; simp [look] at h; subst h
      exact ⟨F1, F, .refl _, hr, by simp only [delH, if_true]; exact ht⟩
    · simp only [look, e, if_false] at h
      obtain ⟨Fr, G, h1, h2, h3⟩ := Holds.del h0 ht h
      refine ⟨Fr, F1 ++ G, ?_, h2, by simp only [delH, e, if_false]; exact .ow hs hr h3⟩
      refine (List.Perm.append_left _ h1).trans ?_
      rw [← List.append_assoc, ← List.append_assoc]
      exact List.Perm.append_right _ List.perm_append_comm

theorem VP1.del {w β H r} : ∀ y x, ¬ hit1 [(r, [])] y → VP1 w β H y x → VP1 w β (delH H r) y x := by
  intro y x hn hv
  cases y with
  | sl r' q z i n =>
    have : r' ≠ r := fun e => hn ⟨(r, []), by simp, e.symm, List.nil_prefix⟩
    obtain ⟨c, els, h, e1, e2⟩ := hv
    exact ⟨c, els, h, (look_delH_ne this).trans e1, e2⟩
  | pt r' q z i f =>
    have : r' ≠ r := fun e => hn ⟨(r, []), by simp, e.symm, List.nil_prefix⟩
    obtain ⟨c, els, h, e1, e2⟩ := hv
    exact ⟨c, els, h, (look_delH_ne this).trans e1, e2⟩
  | v y => exact hv
  | own z els => exact hv.elim
  | fn f cs => exact hv.elim
  | x => exact hv.elim

/-- A local object is forgotten, with all that refers to it. -/
theorem Rel.drop {e s a w} (r : Nm) (p : Nat × T → Bool) (h : Rel e s a w) (hd : r.1 = e.d) {c} (hl : look s.H r = some c) (hcl : ∀ en ∈ delH s.H r, Clean (hit [(r, [])]) en.2) (hp : ∀ en ∈ s.t, p en = true → en.2.clean (hit [(r, [])])) :
    Rel e { s with t := s.t.filter p, H := delH s.H r } a w := by
  obtain ⟨hdf, β, F, G, h⟩ := h
  have h0 : r.1 ≠ 0 := by rw [hd]; exact h.hd
  obtain ⟨Fr, G0, h1, h2, h3⟩ := h.holds.del h0 hl
  have hK : ∀ y x, isRef y = true → ¬ hit [(r, [])] y → VP w β s.H y x → VP w β (delH s.H r) y x := VP.map VP1.del
  obtain ⟨G', t1, t2⟩ := h.tmps.filter p
  have t3 := t1.mono (K := hit [(r, [])]) (R' := VP w β (delH s.H r)) (w' := w) (a' := a.tmps) (fun en he => hp en (List.mem_filter.1 he).1 (List.mem_filter.1 he).2) (fun _ _ => rfl) hK (fun _ _ => rfl)
  have h4 := h3.mono (fun _ _ => rfl) hcl hK (fun _ _ => rfl) (fun _ _ => rfl)
  have hsl : ∀ b ∈ G0 ++ G', b ∈ F ++ G := fun b hb => by
    rcases List.mem_append.1 hb with hb | hb
    · exact List.mem_append.2 (.inl (h1.symm.subset (by simp [hb])))
    · exact List.mem_append.2 (.inr (t2.subset hb))
  have hndF := h1.nodup_iff.1 (List.nodup_append.1 h.nd).1
  refine ⟨hdf, β, G0, G', { holds := h4, tmps := t3, nd := ?_, low := fun b hb => h.low b (hsl b hb), ext := h.ext.sub hsl, gle := h.gle, out := h.out, fresh := h.fresh, stab := fun y x hy hv0 => VP1.del y x (outer_nohit hv0 h.fresh hd) (h.stab y x hy hv0), size := h.size, hd := h.hd }⟩
  exact nodup_sub h.nd (List.nodup_append.1 hndF).2.1 (List.Nodup.sublist t2 (List.nodup_append.1 h.nd).2.1) (fun b hb => h1.symm.subset (by simp [hb])) (fun b hb => t2.subset hb)

/-- A local array goes whole into the temporary that refers to it. -/
theorem Rel.takeRoot {e s a w i r z i0 n els} (p : Nat × T → Bool) (h : Rel e s a w) (hi : getT s.t i = some (.c (.sl r [] z i0 n))) (hd : r.1 = e.d) (hl : look s.H r = some (.own z els)) (hn : i0 + n ≤ els.length)
    (hcl : ∀ en ∈ s.H, Clean (hit [(r, [])]) en.2) (hp : ∀ en ∈ s.t, en.1 ≠ i → p en = true → en.2.clean (hit [(r, [])])) :
    Rel e { s with t := (i, .c (.own z (cutD i0 n els))) :: (delT s.t i).filter p, H := delH s.H r } a w := by
  obtain ⟨hdf, β, F, G, h⟩ := h
  have h0 : r.1 ≠ 0 := by rw [hd]; exact h.hd
  have hnG := (List.nodup_append.1 h.nd).2.1
  obtain ⟨v, F1, F2, k1, k2, k3, k4, k5⟩ := h.tmps.take hi hnG
  have hv := trep_ref k2 rfl
  obtain ⟨Fr, G0, h1, h2, h3⟩ := h.holds.del h0 hl
  obtain ⟨c', els', hd', e1, e2, e3, e4, e5⟩ := hv
  rw [hl] at e1; cases e1
  simp [Cell.get] at e2; subst e2
  simp [hdr] at e3; subst e3
  obtain ⟨F0', r1, r2⟩ := rep_cut h2 e5 hn
  have hK : ∀ y x, isRef y = true → ¬ hit [(r, [])] y → VP w β s.H y x → VP w β (delH s.H r) y x := VP.map VP1.del
  obtain ⟨G', t1, t2⟩ := k3.filter p
  have t3 := t1.mono (K := hit [(r, [])]) (R' := VP w β (delH s.H r)) (w' := w) (a' := a.tmps) (fun en he => by
    have h1 := List.mem_filter.1 he
    have h2 := List.mem_filter.1 h1.1
    exact hp en h2.1 (by simpa using h2.2) h1.2) (fun _ _ => rfl) hK (fun _ _ => rfl)
  have hcd : Clean (hit [(r, [])]) (.own z (cutD i0 n els)) := by
    have := hcl _ (look_mem hl)
    exact Clean.own (fun row hr x hx => this.sub x (List.mem_flatten.2 ⟨row, List.mem_of_mem_drop (List.mem_of_mem_take hr), hx⟩))
  have r3 := r1.mono hcd hK (fun _ _ => rfl)
  have h4 := h3.mono (fun _ _ => rfl) (fun en he => hcl en (mem_delH he)) hK (fun _ _ => rfl) (fun _ _ => rfl)
  have hsub : ∀ b ∈ G0 ++ (F0' ++ G'), b ∈ F ++ G := by
    intro b hb
    rcases List.mem_append.1 hb with hb | hb
    · exact List.mem_append.2 (.inl (h1.symm.subset (by simp [hb])))
    · rcases List.mem_append.1 hb with hb | hb
      · exact List.mem_append.2 (.inl (h1.symm.subset (by simp [r2.subset hb])))
      · exact List.mem_append.2 (.inr (k5 b (by simp [t2.subset hb])))
  have hndF := h1.nodup_iff.1 (List.nodup_append.1 h.nd).1
  obtain ⟨n1, n2, n3⟩ := List.nodup_append.1 hndF
  refine ⟨hdf, β, G0, F0' ++ G', { holds := h4, tmps := .cons k1 (.c r3) t3, nd := ?_, low := fun b hb => h.low b (hsub b hb), ext := h.ext.sub hsub, gle := h.gle, out := h.out, fresh := h.fresh, stab := fun y x hy hv0 => VP1.del y x (outer_nohit hv0 h.fresh hd) (h.stab y x hy hv0), size := h.size, hd := h.hd }⟩
  refine List.nodup_append.2 ⟨n2, List.nodup_append.2 ⟨List.Nodup.sublist r2 n1, List.Nodup.sublist t2 (List.nodup_append.1 k4).2.1, fun x hx y hy e => ?_⟩, fun x hx y hy e => ?_⟩
  · subst e
    exact (List.nodup_append.1 h.nd).2.2 x (h1.symm.subset (by simp [r2.subset hx])) x (k5 x (by simp [t2.subset hy])) rfl
  · subst e
    rcases List.mem_append.1 hy with hy | hy
    · exact n3 x (r2.subset hy) x hx rfl
    · exact (List.nodup_append.1 h.nd).2.2 x (h1.symm.subset (by simp [hx])) x (k5 x (by simp [t2.subset hy])) rfl

end Go.Px


namespace Go.Px
open Go.RowKit
set_option linter.unusedVariables false
set_option linter.unusedSimpArgs false
set_option linter.constructorNameAsVariable false

/-- What is known, and values in hand that are to be written. -/
structure Pend (e : Env) (s : St) (a : Array Value) (w : World) (β : Nm → Value) (F G : List Nat) (cs : List Cell) (xs : List Value) (Fv : List Nat) : Prop where
  rel : RelX e s a w β F G
  vals : VRep (VP w β s.H) w cs xs Fv
  ndv : Fv.Nodup
  disj : ∀ x ∈ F ++ G, ∀ y ∈ Fv, x ≠ y
  lowv : ∀ b ∈ Fv, e.g ≤ b
  extv : ∀ b ∈ Fv, b ∈ e.F0 ∨ e.w0.heap.size ≤ b

/-- which references a write to a cell may spoil -/
def Kw (cold : Cell) (r : Nm) (P : Path) : Cell → Prop := if isOwn cold then hit [(r, P)] else fun _ => False
def logw (cold : Cell) (d : Nat) (r : Nm) (P : Path) (lg : List (Nm × Path)) : List (Nm × Path) := if isOwn cold then noteH d r P lg else lg

theorem nohit_own {w β H r P co cold} (hl : look H r = some co) (hg : co.get P = some cold) (ho : isOwn cold = false) : ∀ y x, VP1 w β H y x → ¬ hit1 [(r, P)] y := by
  have key : ∀ q z els, co.get q = some (.own z els) → ¬ P <+: q := by
    rintro q z els hq ⟨p, rfl⟩
    rw [get_append, hg] at hq
    cases p with
    | nil => simp [Cell.get] at hq; subst hq; simp [isOwn] at ho
    | cons s p =>
      obtain ⟨i, f⟩ := s
      obtain ⟨z', els', row, c', rfl, -⟩ := get_own (by simpa using hq)
      simp [isOwn] at ho
  intro y x hv hh
  cases y with
  | sl r' q z i n =>
    obtain ⟨e, he, h1, h2⟩ := hh
    simp at he; subst he
    obtain ⟨c, els, hd, e1, e2, -⟩ := hv
    have h1' : r = r' := h1
    subst h1'
    rw [hl] at e1; cases e1
    exact key _ _ _ e2 h2
  | pt r' q z i f =>
    obtain ⟨e, he, h1, h2⟩ := hh
    simp at he; subst he
    obtain ⟨c, els, hd, e1, e2, -⟩ := hv
    have h1' : r = r' := h1
    subst h1'
    rw [hl] at e1; cases e1
    exact key _ _ _ e2 h2
  | _ => exact hh

theorem Kw_ok {w w' β β' H H' r P co cold} (hl : look H r = some co) (hg : co.get P = some cold) (hst : ∀ y x, ¬ hit1 [(r, P)] y → VP1 w β H y x → VP1 w' β' H' y x) :
    ∀ y x, isRef y = true → ¬ Kw cold r P y → VP w β H y x → VP w' β' H' y x := by
  intro y x hr hk hv
  unfold Kw at hk
  by_cases ho : isOwn cold = true
  · rw [if_pos ho] at hk
    exact VP.map hst y x hr hk hv
  · simp only [Bool.not_eq_true] at ho
    exact VP.of1 (fun y x h => hst y x (nohit_own hl hg ho y x h) h) y x hr id hv

/-- One cell of an object is written: the first of the values in hand. -/
theorem Pend.write {e s a w β F G c cs x xs Fc Fs r P co cold} (p : Nat × T → Bool) (h : Pend e s a w β F G (c :: cs) (x :: xs) (Fc ++ Fs)) (hc0 : Rep (VP w β s.H) w c x Fc) (hs0 : VRep (VP w β s.H) w cs xs Fs) (h0 : r.1 ≠ 0) (hP : P ≠ []) (hl : look s.H r = some co) (hg : co.get P = some cold)
    (hcl : ∀ en ∈ s.H, Clean (Kw cold r P) en.2) (hcs : cells1 (Kw cold r P) (c :: cs)) (hp : ∀ en ∈ s.t, p en = true → en.2.clean (Kw cold r P)) :
    ∃ a0 x0 F' G', adr w P co (β r) = some a0 ∧ a0.spot = none ∧ w.cell? a0 = some x0 ∧ w.frozen? a0 = false ∧
      Pend e { t := s.t.filter p, H := putH s.H r (Cell.set c P co), lg := logw cold e.d r P s.lg } a (w.setCell a0 x) β F' G' cs xs Fs ∧
      ∀ y x', isRef y = true → ¬ Kw cold r P y → VP w β s.H y x' → VP (w.setCell a0 x) β (putH s.H r (Cell.set c P co)) y x' := by
  obtain ⟨hr, hv, hnv, hdj, hlv, hev⟩ := h
  obtain ⟨a0, x0, F0, G0, m1, m2, m3, ⟨m4, hfro⟩, m5, m6, m7, m8, m9⟩ := hr.holds.write (List.nodup_append.1 hr.nd).1 (fun b hb => hr.low b (by simp [hb])) h0 hl hP hg
  have ha0 : a0 = ⟨a0.block, a0.off, none⟩ := by cases a0; simp at m4; subst m4; rfl
  have hbF : ∀ b, a0.block ≠ b → (w.setCell a0 x).heap[b]? = w.heap[b]? := fun b hb => Below.heap_setCell w a0 x b (fun e => hb e.symm)
  have hbg : e.g ≤ a0.block := hr.low _ (List.mem_append.2 (.inl (m7.symm.subset (by simp [m5]))))
  have hbut : ∀ b ∈ G0, But w (w.setCell a0 x) b a0 := by
    intro b _
    by_cases hb : a0.block = b
    · subst hb
      intro arr' el' fr' hb'
      refine ⟨arr'.setIfInBounds a0.off x, ?_, by simp, fun o ho => ?_⟩
      · have hsp : a0.spot.isSome = false := by rw [m4]; rfl
        simp [World.setCell, Array.getElem?_modify, hb', hsp]
      · rw [Array.getElem?_setIfInBounds, if_neg (fun e => ho (by rw [ha0]; simp [e]))]
    · exact But.of_eq (hbF b hb)
  have hlow : ∀ b, b < e.g → (w.setCell a0 x).heap[b]? = w.heap[b]? := fun b hb => hbF b (by omega)
  have hcell : (w.setCell a0 x).cell? a0 = some x := World.cell?_setCell_same w _ _ m3
  have hst := m8 (w.setCell a0 x) c hbut hlow
  have hK := Kw_ok hl hg hst
  -- blocks of what is in hand are others than that of the cell
  have hne : ∀ b ∈ Fc ++ Fs, a0.block ≠ b := fun b hb => hdj _ (List.mem_append.2 (.inl (m7.symm.subset (by simp [m5])))) b hb
  have hneG : ∀ b ∈ G, a0.block ≠ b := fun b hb => (List.nodup_append.1 hr.nd).2.2 _ (m7.symm.subset (by simp [m5])) b hb
  have hc1 := hc0.mono (w' := w.setCell a0 x) (hcs c (by simp)) hK (fun b hb => hbF b (hne b (by simp [hb])))
  obtain ⟨F', p1, p2⟩ := m9 (Kw cold r P) (w.setCell a0 x) c x Fc hbut hlow hcell (fun en he => by
    rcases mem_putH he with h' | rfl
    · exact hcl en h'
    · exact Clean.setc Clean.hole (hcl _ (look_mem hl))) hK hc1
  obtain ⟨G', t1, t2⟩ := hr.tmps.filter p
  have t3 := t1.mono (K := Kw cold r P) (R' := VP (w.setCell a0 x) β (putH s.H r (Cell.set c P co))) (w' := w.setCell a0 x) (a' := a) (fun en he => hp en (List.mem_filter.1 he).1 (List.mem_filter.1 he).2) (fun _ _ => rfl) hK (fun b hb => hbF b (hneG b (t2.subset hb)))
  have hs1 := hs0.mono (w' := w.setCell a0 x) (fun c' hc' => hcs c' (by simp [hc'])) hK (fun b hb => hbF b (hne b (by simp [hb])))
  have hG0 : ∀ b ∈ G0, b ∈ F := fun b hb => m7.symm.subset (by simp [hb])
  have hndF := m7.nodup_iff.1 (List.nodup_append.1 hr.nd).1
  obtain ⟨q1, q2, q3⟩ := List.nodup_append.1 hnv
  have hsubF : ∀ b ∈ F', b ∈ Fc ∨ b ∈ F := fun b hb => (List.mem_append.1 (p1.subset hb)).imp id (hG0 b)
  have hall : ∀ b ∈ F' ++ G', b ∈ F ++ G ∨ b ∈ Fc := fun b hb => by
    rcases List.mem_append.1 hb with hb | hb
    · rcases hsubF b hb with h' | h'
      · exact .inr h'
      · exact .inl (by simp [h'])
    · exact .inl (by simp [t2.subset hb])
  refine ⟨a0, x0, F', G', m1, m4, m3, hfro, ?_, hK⟩
  refine { rel := { holds := p2, tmps := t3, nd := ?_, low := fun b hb => ?_, ext := ?_, gle := hr.gle, out := hr.out, fresh := hr.fresh, stab := ?_, size := hr.size, hd := hr.hd }, vals := hs1, ndv := q2, disj := ?_, lowv := fun b hb => hlv b (by simp [hb]), extv := fun b hb => hev b (by simp [hb]) }
  · refine List.nodup_append.2 ⟨p1.nodup_iff.2 (List.nodup_append.2 ⟨q1, (List.nodup_append.1 hndF).2.1, fun x hx y hy e => ?_⟩), List.Nodup.sublist t2 (List.nodup_append.1 hr.nd).2.1, fun x hx y hy e => ?_⟩
    · subst e; exact hdj x (by simp [hG0 x hy]) x (by simp [hx]) rfl
    · subst e
      rcases hsubF x hx with h' | h'
      · exact hdj x (by simp [t2.subset hy]) x (by simp [h']) rfl
      · exact (List.nodup_append.1 hr.nd).2.2 x h' x (t2.subset hy) rfl
  · rcases hall b hb with h' | h'
    · exact hr.low b h'
    · exact hlv b (by simp [h'])
  · have hx2 : Ext w (w.setCell a0 x) (F ++ G) (F ++ G) := ⟨rfl, rfl, rfl, ⟨by simp [World.setCell], Frs.setCell w a0 x⟩, fun b _ hb => hbF b (fun e => hb (by rw [← e]; exact List.mem_append.2 (.inl (m7.symm.subset (by simp [m5]))))), fun b hb => .inl hb⟩
    have := hr.ext.trans hx2
    refine ⟨this.os, this.tape, this.output, this.size, this.same, fun b hb => ?_⟩
    rcases hall b hb with h' | h'
    · exact this.new b h'
    · exact hev b (by simp [h'])
  · intro y x' hy hv0
    by_cases ho : isOwn cold = true
    · simp only [logw, ho, if_true] at hy
      by_cases hrd : r.1 = e.d
      · simp only [noteH, hrd, if_true] at hy
        exact hst y x' (outer_nohit hv0 hr.fresh hrd) (hr.stab y x' hy hv0)
      · simp only [noteH, hrd, if_false] at hy
        obtain ⟨y1, y2⟩ := hit1_cons hy
        exact hst y x' y1 (hr.stab y x' y2 hv0)
    · simp only [logw, ho] at hy
      have := hr.stab y x' hy hv0
      exact hst y x' (nohit_own hl hg (by simpa using ho) y x' this) this
  · intro x' hx' y hy e
    subst e
    rcases hall x' hx' with h' | h'
    · exact hdj x' h' x' (by simp [hy]) rfl
    · exact q3 x' h' x' hy rfl

theorem adr_append {w : World} : ∀ {q : Path} {c : Cell} {v : Value} {z els a n cap i f}, c.get q = some (.own z els) → hdr w q c v = some (.slice (some a) n cap) → adr w (q ++ [(i, f)]) c v = some ⟨a.block, a.off + i * z + f, none⟩
  | [], c, v, z, els, a, n, cap, i, f, h1, h2 => by
    simp [Cell.get] at h1; subst h1
    simp [hdr] at h2; subst h2
    simp [adr]
  | (i', f') :: q, c, v, z, els, a, n, cap, i, f, h1, h2 => by
    obtain ⟨z', els', row, c', rfl, hi, hf, hg⟩ := get_own h1
    cases v with
    | slice A n' cap' =>
      cases A with
      | none => simp [hdr] at h2
      | some a' =>
        simp only [hdr, hi, hf, Option.bind_some] at h2
        cases hx : w.cell? ⟨a'.block, a'.off + i' * z' + f', none⟩ with
        | none => simp [hx] at h2
        | some x =>
          simp only [hx, Option.bind_some] at h2
          have := adr_append (i := i) (f := f) hg h2
          cases q with
          | nil => simp [adr, hi, hf, hx] at this ⊢; exact this
          | cons s q => simp [adr, hi, hf, hx] at this ⊢; exact this
    | _ => simp [hdr] at h2

/-- is a reference untouched by a write at P below r -/
def keepC (r : Nm) (P : Path) : Cell → Bool
  | .sl r' q _ _ _ => !(decide (r = r') && P.isPrefixOf q)
  | .pt r' q _ _ _ => !(decide (r = r') && P.isPrefixOf q)
  | _ => true
def keepC2 (r : Nm) (P : Path) : Cell → Bool
  | .fn _ cs => cs.all (keepC r P)
  | c => keepC r P c
mutual
def T.keep (r : Nm) (P : Path) : T → Bool
  | .c x => keepC2 r P x
  | .a l => l.all (keepC2 r P)
  | .t l => T.keeps r P l
  | .u => true
def T.keeps (r : Nm) (P : Path) : List T → Bool
  | [] => true
  | x :: l => T.keep r P x && T.keeps r P l
end
mutual
/-- what is owned at the face is clean -/
def T.oclean (K : Cell → Prop) : T → Prop
  | .c x => isOwn x = true → Clean K x
  | .a l => ∀ c ∈ l, isOwn c = true → Clean K c
  | .t l => T.ocleans K l
  | .u => True
def T.ocleans (K : Cell → Prop) : List T → Prop
  | [] => True
  | x :: l => T.oclean K x ∧ T.ocleans K l
end

theorem keepC_hit {r P c} (h : keepC r P c = true) : ¬ hit1 [(r, P)] c := by
  have key : ∀ (r' : Nm) (q : Path), (!(decide (r = r') && P.isPrefixOf q)) = true → ¬ ∃ e ∈ [(r, P)], e.1 = r' ∧ e.2 <+: q := by
    rintro r' q h ⟨e, he, h1, h2⟩
    simp only [List.mem_singleton] at he
    subst he
    have h3 := List.isPrefixOf_iff_prefix.2 h2
    have h1' : r = r' := h1
    simp only at h3
    rw [h3, h1'] at h
    simp at h
  cases c with
  | sl r' q z i n => exact key r' q h
  | pt r' q z i f => exact key r' q h
  | _ => exact id
theorem keepC2_hit {r P c} (h : keepC2 r P c = true) : ¬ hit [(r, P)] c := by
  cases c with
  | fn f cs =>
    rintro ⟨c, hc, hh⟩
    simp [keepC2] at h
    exact keepC_hit (h c hc) hh
  | sl r' q z i n => exact keepC_hit (c := .sl r' q z i n) h
  | pt r' q z i f => exact keepC_hit (c := .pt r' q z i f) h
  | _ => exact id
theorem keep_clean1 {r P c} (h : keepC2 r P c = true) (ho : isOwn c = true → Clean (hit [(r, P)]) c) : Clean (hit [(r, P)]) c := by
  cases c with
  | own z els => exact ho rfl
  | _ => exact Clean.leaf (fun _ _ => by simp) (fun _ => keepC2_hit h)
mutual
theorem keep_clean {r P} : ∀ {x : T}, x.keep r P = true → x.oclean (hit [(r, P)]) → x.clean (hit [(r, P)])
  | .c x, h, ho => keep_clean1 h ho
  | .a l, h, ho => fun c hc => keep_clean1 (List.all_eq_true.1 h c hc) (ho c hc)
  | .t l, h, ho => keep_cleans h ho
  | .u, _, _ => trivial
theorem keep_cleans {r P} : ∀ {l : List T}, T.keeps r P l = true → T.ocleans (hit [(r, P)]) l → T.cleans (hit [(r, P)]) l
  | [], _, _ => trivial
  | x :: l, h, ho => by
    simp [T.keeps] at h
    exact ⟨keep_clean h.1 ho.1, keep_cleans h.2 ho.2⟩
end

def CleanH (K : Cell → Prop) (H : HH) : Prop := ∀ en ∈ H, Clean K en.2
def OcleanT (K : Cell → Prop) (t : List (Nat × T)) : Prop := ∀ en ∈ t, en.2.oclean K

/-- cells written one by one -/
def StoreSeq (d : Nat) (r : Nm) (q : Path) (i : Nat) : Nat → List Cell → St → (St → Prop) → Prop
  | _, [], s, K => K s
  | f, c :: cs, s, K =>
    match look s.H r with
    | none => False
    | some co =>
      match co.get (q ++ [(i, f)]) with
      | none => False
      | some cold =>
        if isOwn cold then
          CleanH (hit [(r, q ++ [(i, f)])]) s.H ∧ cells1 (hit [(r, q ++ [(i, f)])]) (c :: cs) ∧ OcleanT (hit [(r, q ++ [(i, f)])]) s.t ∧
          StoreSeq d r q i (f + 1) cs { t := s.t.filter (fun en => en.2.keep r (q ++ [(i, f)])), H := putH s.H r (Cell.set c (q ++ [(i, f)]) co), lg := noteH d r (q ++ [(i, f)]) s.lg } K
        else StoreSeq d r q i (f + 1) cs { s with H := putH s.H r (Cell.set c (q ++ [(i, f)]) co) } K

theorem filter_true (t : List (Nat × T)) : t.filter (fun _ => true) = t := by simp

theorem store_run {P : Program} {e a r q z i f0 b o K} (h0 : r.1 ≠ 0) : ∀ {cs xs j s w β F G Fv}, Pend e s a w β F G cs xs Fv → VP w β s.H (.pt r q z i f0) (.pointer (some ⟨b, o, none⟩)) → StoreSeq e.d r q i (f0 + j) cs s K →
    ∃ w' s' β F G, (storeCells ⟨b, o, none⟩ xs j).run P w = .ok () w' ∧ K s' ∧ RelX e s' a w' β F G
  | [], xs, j, s, w, β, F, G, Fv, hp, hv, hs => by
    cases hp.vals
    exact ⟨w, s, β, F, G, by simp [storeCells, Sem.run, pure], hs, hp.rel⟩
  | c :: cs, xs, j, s, w, β, F, G, Fv, hp, hv, hs => by
    have hvals := hp.vals
    cases hvals with
    | @cons _ x Fc _ xs' Fs hc hcs =>
      simp only [StoreSeq] at hs
      cases hl : look s.H r with
      | none => simp [hl] at hs
      | some co =>
        simp only [hl] at hs
        cases hg : co.get (q ++ [(i, f0 + j)]) with
        | none => simp [hg] at hs
        | some cold =>
          simp only [hg] at hs
          have hside : ∃ s', StoreSeq e.d r q i (f0 + (j + 1)) cs s' K ∧ ∃ a0 x0 F' G', adr w (q ++ [(i, f0 + j)]) co (β r) = some a0 ∧ a0.spot = none ∧ w.cell? a0 = some x0 ∧ w.frozen? a0 = false ∧ Pend e s' a (w.setCell a0 x) β F' G' cs xs' Fs ∧
              ∀ y x', isRef y = true → ¬ Kw cold r (q ++ [(i, f0 + j)]) y → VP w β s.H y x' → VP (w.setCell a0 x) β s'.H y x' := by
            by_cases ho : isOwn cold = true
            · rw [if_pos ho] at hs
              obtain ⟨s1, s2, s3, s4⟩ := hs
              have hKw : Kw cold r (q ++ [(i, f0 + j)]) = hit [(r, q ++ [(i, f0 + j)])] := by unfold Kw; rw [if_pos ho]
              obtain ⟨a0, x0, F', G', k1, k2, k3, k4, k5, k6⟩ := hp.write (fun en => en.2.keep r (q ++ [(i, f0 + j)])) hc hcs h0 (by simp) hl hg (by rw [hKw]; exact s1) (by rw [hKw]; exact s2) (by rw [hKw]; exact fun en he hk => keep_clean hk (s3 en he))
              refine ⟨_, by simpa [Nat.add_assoc] using s4, a0, x0, F', G', k1, k2, k3, k4, ?_, k6⟩
              simpa [logw, ho] using k5
            · rw [if_neg ho] at hs
              have hKw : Kw cold r (q ++ [(i, f0 + j)]) = fun _ => False := by unfold Kw; rw [if_neg ho]
              obtain ⟨a0, x0, F', G', k1, k2, k3, k4, k5, k6⟩ := hp.write (fun _ => true) hc hcs h0 (by simp) hl hg (by rw [hKw]; exact fun en _ => clean_false en.2) (by rw [hKw]; exact fun c _ => clean_false c) (by rw [hKw]; exact fun en _ _ => tclean_false en.2)
              refine ⟨_, by simpa [Nat.add_assoc] using hs, a0, x0, F', G', k1, k2, k3, k4, ?_, k6⟩
              simpa [logw, ho, filter_true] using k5
          obtain ⟨s', hs', a0, x0, F', G', k1, k2, k3, k4, k5, k6⟩ := hside
          obtain ⟨c', els, hd, e1, e2, e3, e4, e5, b', off, n0, cap0, rfl, e6⟩ := hv
          have e1' := e1
          rw [hl] at e1; cases e1
          have hadr := adr_append (i := i) (f := f0 + j) e2 e3
          rw [k1] at hadr
          have ha0 : a0 = ⟨b, o + j, none⟩ := by
            cases e6
            cases hadr
            simp [Nat.add_assoc]
          have hpt : VP (w.setCell a0 x) β s'.H (.pt r q z i f0) (.pointer (some ⟨b, o, none⟩)) := by
            refine k6 _ _ rfl (fun hk => ?_) ⟨_, els, _, e1', e2, e3, e4, e5, b', off, n0, cap0, rfl, e6⟩
            unfold Kw at hk
            split at hk
            · obtain ⟨en, he, -, hpre⟩ := hk
              simp at he; subst he
              have := hpre.length_le; simp only [List.length_append, List.length_singleton] at this; omega
            · exact hk
          obtain ⟨w', s'', β', F'', G'', r1, r2, r3⟩ := store_run h0 k5 hpt hs'
          refine ⟨w', s'', β', F'', G'', ?_, r2, r3⟩
          have hfl : flat x = true := hc.flat
          have hst : (store ((⟨b, o, none⟩ : Addr).add j) x).run P w = .ok () (w.setCell a0 x) := by
            rw [add_none, ← ha0, run_store P w a0 x _ (oneCell_of_flat hfl), k3]
            simp [k4]
          simp only [storeCells, Sem.run_bind, hst, Result.andThen_ok]
          exact r1

theorem SOp.store {cx o s K t ad x r q z i f y t' cs} (ho : o.op = .store t ad x) (hdst : o.dst = none) (had : rdO s.t ad = some (.c (.pt r q z i f))) (hx : tkO s.t x = some (y, t')) (hy : y.cells = some cs) (hto : tok cx.P t = true) (hsz : tsz cx.P t = cs.length)
    (h0 : r.1 ≠ 0) (hK : StoreSeq cx.d r q i f (relC cx.P t x cs) { s with t := t' } K) : SOp cx o s K := by
  intro e a w next Q hd hNe hr hk
  obtain ⟨hdf, β, F, G, hx'⟩ := hr
  have hv := rd_ref hx'.tmps had rfl
  obtain ⟨els', b, off, n0, cap0, p1, p2, p3, p4, p5⟩ := pt_inv hv
  obtain ⟨tm, ds⟩ := a
  obtain ⟨Fx, G', h1, h2, h3, h4⟩ := tkO_rep (ds := ds) hx'.tmps (List.nodup_append.1 hx'.nd).2.1 hx
  obtain ⟨n1, n2, n3⟩ := List.nodup_append.1 h3
  have hvr := cells_rep h1 hy
  replace hvr := relC_rep (P := cx.P) (t := t) (o := x) hvr
  rw [← relC_length (P := cx.P) (t := t) (o := x)] at hsz
  revert hvr hsz hK
  generalize relC cx.P t x cs = cs
  intro hsz hK hvr
  have hlen := hvr.length
  have hp : Pend e { s with t := t' } tm w β F G' cs ((⟨tm, ds⟩ : Act).eval x).cells.toList Fx := by
    have hsub : ∀ b ∈ F ++ G', b ∈ F ++ G := fun b hb => by
      rcases List.mem_append.1 hb with hb | hb
      · simp [hb]
      · simp [h4 b (by simp [hb])]
    refine { rel := { hx' with tmps := h2, nd := ?_, low := fun b hb => hx'.low b (hsub b hb), ext := hx'.ext.sub hsub }, vals := hvr, ndv := n1, disj := ?_, lowv := fun b hb => hx'.low b (by simp [h4 b (by simp [hb])]), extv := fun b hb => hx'.ext.new b (by simp [h4 b (by simp [hb])]) }
    · exact nodup_sub hx'.nd (List.nodup_append.1 hx'.nd).1 n2 (fun b hb => hb) (fun b hb => h4 b (by simp [hb]))
    · intro x hx y hy e
      subst e
      rcases List.mem_append.1 hx with hx | hx
      · exact (List.nodup_append.1 hx'.nd).2.2 x hx x (h4 x (by simp [hy])) rfl
      · exact n3 x hy x hx rfl
  rw [← hd] at hK
  obtain ⟨w', s', β', F', G'', r1, r2, r3⟩ := store_run (P := cx.P) (o := off + i * z + f) (b := b) h0 hp (by rw [← p5]; exact hv) (j := 0) hK
  have hszr := run_sizeOf (w := w) hto
  have hrun : (execOp (⟨tm, ds⟩ : Act).eval o).run cx.P w = .ok .skip w' := by
    have hc : ((⟨tm, ds⟩ : Act).eval x).cells.size = tsz cx.P t := by rw [hsz, ← hlen]; simp
    simp [execOp, ho, Instr.storeAt, p5, Instr.sureAddr, storeVar, Sem.run_bind, hszr, Result.andThen, hc, r1]
  unfold Oper.wp
  rw [hrun]
  show next ((⟨tm, ds⟩ : Act).put o.dst undef) w'
  rw [hdst]
  exact hk _ _ _ r2 ⟨hdf, β', F', G'', r3⟩

end Go.Px


namespace Go.Px
open Go.RowKit
set_option linter.unusedVariables false
set_option linter.unusedSimpArgs false
set_option linter.constructorNameAsVariable false
theorem adr_set {w : World} {c1 : Cell} : ∀ {P : Path} {c : Cell} {v : Value} {c0 : Cell}, c.get P = some c0 → adr w P (Cell.set c1 P c) v = adr w P c v
  | [], c, v, c0, h => by simp [adr]
  | [(i, f)], c, v, c0, h => by
    obtain ⟨z, els, row, c', rfl, hi, hf, hg⟩ := get_own h
    simp only [Cell.set, hi, hf]
    unfold adr
    cases v <;> try rfl
    rename_i a n cap
    cases a <;> rfl
  | (i, f) :: (i', f') :: p, c, v, c0, h => by
    obtain ⟨z, els, row, c', rfl, hi, hf, hg⟩ := get_own h
    have h1 := (List.getElem?_eq_some_iff.1 hi).1
    have h2 := (List.getElem?_eq_some_iff.1 hf).1
    have hset : Cell.set c1 ((i, f) :: (i', f') :: p) (.own z els) = .own z (els.set i (row.set f (Cell.set c1 ((i', f') :: p) c'))) := by simp only [Cell.set, hi, hf]
    rw [hset]
    cases v with
    | slice a n cap =>
      cases a with
      | none => rfl
      | some a =>
        simp only [adr, List.getElem?_set_self h1, Option.bind_some, List.getElem?_set_self h2, hi, hf]
        cases w.cell? ⟨a.block, a.off + i * z + f, none⟩ with
        | none => rfl
        | some x => exact adr_set hg
    | _ => rfl
theorem get_set_self : ∀ {q : Path} {c co c0 : Cell}, co.get q = some c0 → (Cell.set c q co).get q = some c
  | [], c, co, c0, h => by simp [Cell.set, Cell.get]
  | (i, f) :: q, c, co, c0, h => by
    obtain ⟨z, els, row, c1, rfl, hi, hf, hg⟩ := get_own h
    have h1 := (List.getElem?_eq_some_iff.1 hi).1
    have h2 := (List.getElem?_eq_some_iff.1 hf).1
    have e1 : ∀ c, Cell.set c ((i, f) :: q) (.own z els) = .own z (els.set i (row.set f (Cell.set c q c1))) := fun c => by simp only [Cell.set, hi, hf]
    rw [e1]
    simp only [Cell.get, List.getElem?_set_self h1, Option.bind_some, List.getElem?_set_self h2, get_set_self hg]
/-- An array that a cell refers to goes whole into that cell. -/
theorem Rel.absorb {e s a w r0 P C0 r q z n els C1} (p : Nat × T → Bool) (h : Rel e s a w) (h0 : r0.1 ≠ 0) (h1 : r.1 ≠ 0) (hne : r0 ≠ r) (hP : P ≠ []) (hq : q ≠ []) (hl0 : look s.H r0 = some C0) (hg0 : C0.get P = some (.sl r q z 0 n)) (hl1 : look s.H r = some C1) (hg1 : C1.get q = some (.own z els)) (hn : n = els.length)
    (hcl : ∀ en ∈ putH s.H r0 (Cell.set .x P C0), Clean (hit [(r, q)]) en.2) (hp : ∀ en ∈ s.t, p en = true → en.2.clean (hit [(r, q)])) :
    Rel e { t := s.t.filter p, H := putH (putH (putH s.H r0 (Cell.set .x P C0)) r (Cell.set .x q C1)) r0 (Cell.set (.own z els) P (Cell.set .x P C0)), lg := noteH e.d r q s.lg } a w := by
  obtain ⟨hdf, β, F, G, h⟩ := h
  have hnF := (List.nodup_append.1 h.nd).1
  -- the reference is forgotten
  obtain ⟨a0, x0, F0, G0, m1, m2, m3, m4, m5, m6, m7, m8, m9⟩ := h.holds.write hnF (fun b hb => h.low b (by simp [hb])) h0 hl0 hP hg0
  have hst1 := m8 w .x (fun b _ => But.of_eq rfl) (fun _ _ => rfl)
  have hno1 := nohit_own (w := w) (β := β) hl0 hg0 rfl
  have hV1 : ∀ y x, VP1 w β s.H y x → VP1 w β (putH s.H r0 (Cell.set .x P C0)) y x := fun y x hv => hst1 y x (hno1 y x hv) hv
  obtain ⟨F1, p1, p2⟩ := m9 (fun _ => False) w .x x0 [] (fun b _ => But.of_eq rfl) (fun _ _ => rfl) m3 (fun en _ => clean_false en.2) (VP.of1 hV1) (.x x0 m6.flat)
  have hF0 : F0 = [] := m6.bare rfl
  subst hF0
  have hv0 : VP w β s.H (.sl r q z 0 n) x0 := by
    cases m6 with
    | ref _ _ hv => exact hv
  have hv1 : VP1 w β (putH s.H r0 (Cell.set .x P C0)) (.sl r q z 0 n) x0 := hV1 _ _ hv0
  generalize hH1 : putH s.H r0 (Cell.set .x P C0) = H1 at p2 hv1 hV1 hcl ⊢
  have hl1' : look H1 r = some C1 := by rw [← hH1, look_putH_ne (Ne.symm hne)]; exact hl1
  have hl0' : look H1 r0 = some (Cell.set .x P C0) := by rw [← hH1]; exact look_putH_self hl0
  have hG0 : F1.Perm F := by simpa using p1.trans (by simpa using m7.symm)
  have hn1 : F1.Nodup := hG0.nodup_iff.2 hnF
  -- the array is taken out
  obtain ⟨a1, x1, F1', G1, k1, k2, k3, k4, k5, k6, k7, k8, k9⟩ := p2.write hn1 (fun b hb => h.low b (by simp [hG0.subset hb])) h1 hl1' hq hg1
  obtain ⟨c', els', hd, e1, e2, e3, e4, e5⟩ := hv1
  rw [hl1'] at e1; cases e1
  rw [hg1] at e2; cases e2
  rw [k2] at e3; cases e3
  obtain ⟨F0', r1, r2⟩ := rep_drop k6 e5 (by omega)
  rw [List.drop_zero] at r1
  have hst2 := k8 w .x (fun b _ => But.of_eq rfl) (fun _ _ => rfl)
  have hK2 : ∀ y x, isRef y = true → ¬ hit [(r, q)] y → VP w β H1 y x → VP w β (putH H1 r (Cell.set .x q C1)) y x := VP.map hst2
  obtain ⟨F2, q1, q2⟩ := k9 (hit [(r, q)]) w .x x1 [] (fun b _ => But.of_eq rfl) (fun _ _ => rfl) k3 (fun en he => by
    rcases mem_putH he with h' | rfl
    · exact hcl en h'
    · exact Clean.setc Clean.hole (hcl _ (look_mem hl1'))) hK2 (.x x1 k6.flat)
  have hcd : Clean (hit [(r, q)]) (.own z els) := (hcl _ (look_mem hl1')).at hg1
  have r3 := r1.mono hcd hK2 (fun _ _ => rfl)
  generalize hH2 : putH H1 r (Cell.set .x q C1) = H2 at q2 hst2 hK2 r3 ⊢
  have hl0'' : look H2 r0 = some (Cell.set .x P C0) := by rw [← hH2, look_putH_ne hne]; exact hl0'
  have hgx : (Cell.set .x P C0).get P = some .x := get_set_self hg0
  obtain ⟨hk7a, hk7b, hk7c⟩ := List.nodup_append.1 (k7.nodup_iff.1 hn1)
  have hF2 : F2.Perm G1 := by simpa using q1
  have hn2 : F2.Nodup := hF2.nodup_iff.2 hk7b
  have hlow2 : ∀ b ∈ F2, e.g ≤ b := fun b hb => h.low b (by
    have : b ∈ F1 := k7.symm.subset (by simp [hF2.subset hb])
    simp [hG0.subset this])
  obtain ⟨a2, x2, F2', G2, l1, l2, l3, l4, l5, l6, l7, l8, l9⟩ := q2.write hn2 hlow2 h0 hl0'' hP hgx
  have hF2' : F2' = [] := l6.bare rfl
  subst hF2'
  have hadr : a2 = a0 := by
    rw [adr_set hg0, m1] at l1
    exact (Option.some.inj l1).symm
  subst hadr
  have hno3 := nohit_own (w := w) (β := β) hl0'' hgx rfl
  have hst3 := l8 w (.own z els) (fun b _ => But.of_eq rfl) (fun _ _ => rfl)
  have hV3 : ∀ y x, VP1 w β H2 y x → VP1 w β (putH H2 r0 (Cell.set (.own z els) P (Cell.set .x P C0))) y x := fun y x hv => hst3 y x (hno3 y x hv) hv
  have r4 := r3.mono (K := fun _ => False) (clean_false _) (VP.of1 hV3) (fun _ _ => rfl)
  obtain ⟨F3, s1, s2⟩ := l9 (fun _ => False) w (.own z els) x0 F0' (fun b _ => But.of_eq rfl) (fun _ _ => rfl) m3 (fun en _ => clean_false en.2) (VP.of1 hV3) r4
  have hK3 : ∀ y x, isRef y = true → ¬ hit [(r, q)] y → VP w β s.H y x → VP w β (putH H2 r0 (Cell.set (.own z els) P (Cell.set .x P C0))) y x := fun y x hr hk hv =>
    VP.of1 hV3 y x hr (fun h => h) (hK2 y x hr hk (VP.of1 hV1 y x hr (fun h => h) hv))
  obtain ⟨G', t1, t2⟩ := h.tmps.filter p
  have t3 := t1.mono (K := hit [(r, q)]) (R' := VP w β (putH H2 r0 (Cell.set (.own z els) P (Cell.set .x P C0)))) (w' := w) (a' := a.tmps) (fun en he => by
    have h1 := List.mem_filter.1 he
    exact hp en h1.1 h1.2) (fun _ _ => rfl) hK3 (fun _ _ => rfl)
  have hG2 : ∀ b ∈ G2, b ∈ G1 := fun b hb => hF2.subset (l7.symm.subset (by simpa using hb))
  have hF3 : ∀ b ∈ F3, b ∈ F := fun b hb => by
    have hb := s1.subset hb
    refine hG0.subset (k7.symm.subset ?_)
    rcases List.mem_append.1 hb with hb | hb
    · exact List.mem_append.2 (.inl (r2.subset hb))
    · exact List.mem_append.2 (.inr (hG2 b hb))
  have hn3 : F3.Nodup := by
    refine s1.nodup_iff.2 (List.nodup_append.2 ⟨List.Nodup.sublist r2 hk7a, ?_, fun x hx y hy e => ?_⟩)
    · exact (by simpa using l7.nodup_iff.1 hn2)
    · exact hk7c x (r2.subset hx) y (hG2 y hy) e
  have hsub : ∀ b ∈ F3 ++ G', b ∈ F ++ G := fun b hb => by
    rcases List.mem_append.1 hb with hb | hb
    · exact List.mem_append.2 (.inl (hF3 b hb))
    · exact List.mem_append.2 (.inr (t2.subset hb))
  refine ⟨hdf, β, F3, G', { holds := s2, tmps := t3, nd := ?_, low := fun b hb => h.low b (hsub b hb), ext := h.ext.sub hsub, gle := h.gle, out := h.out, fresh := h.fresh, stab := ?_, size := h.size, hd := h.hd }⟩
  · exact List.nodup_append.2 ⟨hn3, List.Nodup.sublist t2 (List.nodup_append.1 h.nd).2.1, fun x hx y hy e => (List.nodup_append.1 h.nd).2.2 x (hF3 x hx) y (t2.subset hy) e⟩
  · intro y x hy hvv
    have go : ∀ (hy1 : ¬ hit1 [(r, q)] y) (hy2 : ¬ hit1 s.lg y), VP1 w β (putH H2 r0 (Cell.set (.own z els) P (Cell.set .x P C0))) y x := fun hy1 hy2 => hV3 y x (hst2 y x hy1 (hV1 y x (h.stab y x hy2 hvv)))
    by_cases hrd : r.1 = e.d
    · simp only [noteH, hrd, if_true] at hy
      exact go (outer_nohit hvv h.fresh hrd) hy
    · simp only [noteH, hrd, if_false] at hy
      obtain ⟨y1, y2⟩ := hit1_cons hy
      exact go y1 y2
end Go.Px


namespace Go.Px
open Go.RowKit
set_option linter.unusedVariables false
set_option linter.unusedSimpArgs false
set_option linter.constructorNameAsVariable false
theorem VRep.upd {R R' : Cell → Value → Prop} {w : World} {K : Cell → Prop} (hR : ∀ c x, isRef c = true → ¬ K c → R c x → R' c x) : ∀ {l vs F k c}, VRep R w l vs F → l[k]? = some c → isRef c = true → ∃ v, R c v ∧
    ∀ c' F', Rep R' w c' v F' → cells1 K (l.set k .x) → ∃ Fn, VRep R' w (l.set k c') vs Fn ∧ Fn.Perm (F' ++ F)
  | _, _, _, k, c, .nil, h, _ => by simp at h
  | _, _, _, 0, c, @VRep.cons _ _ c0 x F cs xs G hc hs, h, hr => by
    simp at h; subst h
    cases hc with
    | ref _ hf hv =>
      refine ⟨x, hv, fun c' F' h' hcl => ⟨F' ++ G, ?_, by simp⟩⟩
      simp only [List.set_cons_zero]
      refine .cons h' (hs.mono (K := K) (fun c hc => hcl c (by simp [hc])) hR (fun _ _ => rfl))
    | _ => simp [isRef] at hr
  | _, _, _, k + 1, c, @VRep.cons _ _ c0 x F cs xs G hc hs, h, hr => by
    obtain ⟨v, h1, h2⟩ := VRep.upd hR hs (k := k) (by simpa using h) hr
    refine ⟨v, h1, fun c' F' h' hcl => ?_⟩
    obtain ⟨Fn, m1, m2⟩ := h2 c' F' h' (fun c hc => hcl c (by simp [hc]))
    refine ⟨F ++ Fn, ?_, ?_⟩
    · simp only [List.set_cons_succ]
      exact .cons (hc.mono (hcl c0 (by simp)) hR (fun _ _ => rfl)) m1
    · refine (List.Perm.append_left F m2).trans ?_
      rw [← List.append_assoc, ← List.append_assoc]
      exact (List.perm_append_comm).append_right G
theorem trep_a {R w l v F} (h : TRep R w (.a l) v F) : ∃ vs, v = .agg vs.toArray ∧ VRep R w l vs F := by
  cases h with
  | a h => exact ⟨_, rfl, h⟩
/-- An array that a cell of a struct in hand refers to goes whole into that cell. -/
theorem Rel.takeA {e s a w i l k r q z i0 n els c} (p : Nat × T → Bool) (h : Rel e s a w) (hi : getT s.t i = some (.a l)) (hk : l[k]? = some (.sl r q z i0 n)) (h0 : r.1 ≠ 0) (hq : q ≠ []) (hl : look s.H r = some c) (hg : c.get q = some (.own z els)) (hn : i0 + n = els.length)
    (hcl : ∀ en ∈ s.H, Clean (hit [(r, q)]) en.2) (hp : ∀ en ∈ s.t, en.1 ≠ i → p en = true → en.2.clean (hit [(r, q)])) (hca : cells1 (hit [(r, q)]) (l.set k .x)) :
    Rel e { t := (i, .a (l.set k (.own z (els.drop i0)))) :: (delT s.t i).filter p, H := putH s.H r (Cell.set .x q c), lg := noteH e.d r q s.lg } a w := by
  obtain ⟨hdf, β, F, G, h⟩ := h
  have hnG := (List.nodup_append.1 h.nd).2.1
  obtain ⟨v, F1, F2, k1, k2, k3, k4, k5⟩ := h.tmps.take hi hnG
  obtain ⟨vs, hvs, k2v⟩ := trep_a k2
  subst hvs
  obtain ⟨a0, x0, F0, G0, m1, m2, m3, m4, m5, m6, m7, m8, m9⟩ := h.holds.write (List.nodup_append.1 h.nd).1 (fun b hb => h.low b (by simp [hb])) h0 hl hq hg
  have hst := m8 w .x (fun b _ => But.of_eq rfl) (fun _ _ => rfl)
  have hK : ∀ y x, isRef y = true → ¬ hit [(r, q)] y → VP w β s.H y x → VP w β (putH s.H r (Cell.set .x q c)) y x := VP.map hst
  obtain ⟨v, hv, hupd⟩ := VRep.upd hK k2v hk rfl
  obtain ⟨c', els', hd, e1, e2, e3, e4, e5⟩ := hv
  rw [hl] at e1; cases e1
  rw [hg] at e2; cases e2
  rw [m2] at e3; cases e3
  obtain ⟨F0', r1, r2⟩ := rep_drop m6 e5 hn
  obtain ⟨F', p1, p2⟩ := m9 (hit [(r, q)]) w .x x0 [] (fun b _ => But.of_eq rfl) (fun _ _ => rfl) m3 (fun en he => by
    rcases mem_putH he with h' | rfl
    · exact hcl en h'
    · exact Clean.setc Clean.hole (hcl _ (look_mem hl))) hK (.x x0 m6.flat)
  obtain ⟨G', t1, t2⟩ := k3.filter p
  have t3 := t1.mono (K := hit [(r, q)]) (R' := VP w β (putH s.H r (Cell.set .x q c))) (w' := w) (a' := a.tmps) (fun en he => by
    have h1 := List.mem_filter.1 he
    have h2 := List.mem_filter.1 h1.1
    exact hp en h2.1 (by simpa using h2.2) h1.2) (fun _ _ => rfl) hK (fun _ _ => rfl)
  have hcd : Clean (hit [(r, q)]) (.own z (els.drop i0)) := by
    have := (hcl _ (look_mem hl)).at hg
    exact Clean.own (fun row hr x hx => this.sub x (List.mem_flatten.2 ⟨row, List.mem_of_mem_drop hr, hx⟩))
  have r3 := r1.mono hcd hK (fun _ _ => rfl)
  obtain ⟨Fn, u1, u2⟩ := hupd _ _ r3 hca
  have hFp : F.Perm (F0 ++ G0) := m7
  have hF' : ∀ b ∈ F', b ∈ G0 := fun b hb => by simpa using p1.subset hb
  have hFn : ∀ b ∈ Fn, b ∈ F0 ∨ b ∈ F1 := fun b hb => by
    rcases List.mem_append.1 (u2.subset hb) with h' | h'
    · exact .inl (r2.subset h')
    · exact .inr h'
  have hsub : ∀ b ∈ F' ++ (Fn ++ G'), b ∈ F ++ G := by
    intro b hb
    rcases List.mem_append.1 hb with hb | hb
    · exact List.mem_append.2 (.inl (hFp.symm.subset (by simp [hF' b hb])))
    · rcases List.mem_append.1 hb with hb | hb
      · rcases hFn b hb with h' | h'
        · exact List.mem_append.2 (.inl (hFp.symm.subset (by simp [h'])))
        · exact List.mem_append.2 (.inr (k5 b (by simp [h'])))
      · exact List.mem_append.2 (.inr (k5 b (by simp [t2.subset hb])))
  have hndF := hFp.nodup_iff.1 (List.nodup_append.1 h.nd).1
  obtain ⟨n1, n2, n3⟩ := List.nodup_append.1 hndF
  obtain ⟨j1, j2, j3⟩ := List.nodup_append.1 k4
  have hFG : ∀ x ∈ F0 ++ G0, ∀ y ∈ F1 ++ F2, x ≠ y := fun x hx y hy => (List.nodup_append.1 h.nd).2.2 x (hFp.symm.subset hx) y (k5 y hy)
  refine ⟨hdf, β, F', Fn ++ G', { holds := p2, tmps := .cons k1 (.a u1) t3, nd := ?_, low := fun b hb => h.low b (hsub b hb), ext := h.ext.sub hsub, gle := h.gle, out := h.out, fresh := h.fresh, stab := ?_, size := h.size, hd := h.hd }⟩
  · refine List.nodup_append.2 ⟨p1.nodup_iff.2 (by simpa using n2), List.nodup_append.2 ⟨?_, List.Nodup.sublist t2 j2, fun x hx y hy e => ?_⟩, fun x hx y hy e => ?_⟩
    · refine u2.nodup_iff.2 (List.nodup_append.2 ⟨List.Nodup.sublist r2 n1, j1, fun x hx y hy e => hFG x (by simp [r2.subset hx]) y (by simp [hy]) e⟩)
    · subst e
      rcases hFn x hx with h' | h'
      · exact hFG x (by simp [h']) x (by simp [t2.subset hy]) rfl
      · exact j3 x h' x (t2.subset hy) rfl
    · subst e
      rcases List.mem_append.1 hy with hy | hy
      · rcases hFn x hy with h' | h'
        · exact n3 x h' x (hF' x hx) rfl
        · exact hFG x (by simp [hF' x hx]) x (by simp [h']) rfl
      · exact hFG x (by simp [hF' x hx]) x (by simp [t2.subset hy]) rfl
  · intro y x hy hv0
    by_cases hrd : r.1 = e.d
    · simp only [noteH, hrd, if_true] at hy
      exact hst y x (outer_nohit hv0 h.fresh hrd) (h.stab y x hy hv0)
    · simp only [noteH, hrd, if_false] at hy
      obtain ⟨y1, y2⟩ := hit1_cons hy
      exact hst y x y1 (h.stab y x y2 hv0)
/-- The same for an array that is an object of its own. -/
theorem Rel.takeRootA {e s a w i l k r z i0 n els} (p : Nat × T → Bool) (h : Rel e s a w) (hi : getT s.t i = some (.a l)) (hk : l[k]? = some (.sl r [] z i0 n)) (hd : r.1 = e.d) (hl : look s.H r = some (.own z els)) (hn : i0 + n = els.length)
    (hcl : ∀ en ∈ s.H, Clean (hit [(r, [])]) en.2) (hp : ∀ en ∈ s.t, en.1 ≠ i → p en = true → en.2.clean (hit [(r, [])])) (hca : cells1 (hit [(r, [])]) (l.set k .x)) :
    Rel e { s with t := (i, .a (l.set k (.own z (els.drop i0)))) :: (delT s.t i).filter p, H := delH s.H r } a w := by
  obtain ⟨hdf, β, F, G, h⟩ := h
  have h0 : r.1 ≠ 0 := by rw [hd]; exact h.hd
  have hnG := (List.nodup_append.1 h.nd).2.1
  obtain ⟨v, F1, F2, k1, k2, k3, k4, k5⟩ := h.tmps.take hi hnG
  obtain ⟨vs, hvs, k2v⟩ := trep_a k2
  subst hvs
  obtain ⟨Fr, G0, h1, h2, h3⟩ := h.holds.del h0 hl
  have hK : ∀ y x, isRef y = true → ¬ hit [(r, [])] y → VP w β s.H y x → VP w β (delH s.H r) y x := VP.map VP1.del
  obtain ⟨v, hv, hupd⟩ := VRep.upd hK k2v hk rfl
  obtain ⟨c', els', hd', e1, e2, e3, e4, e5⟩ := hv
  rw [hl] at e1; cases e1
  simp [Cell.get] at e2; subst e2
  simp [hdr] at e3; subst e3
  obtain ⟨F0', r1, r2⟩ := rep_drop h2 e5 hn
  obtain ⟨G', t1, t2⟩ := k3.filter p
  have t3 := t1.mono (K := hit [(r, [])]) (R' := VP w β (delH s.H r)) (w' := w) (a' := a.tmps) (fun en he => by
    have h1 := List.mem_filter.1 he
    have h2 := List.mem_filter.1 h1.1
    exact hp en h2.1 (by simpa using h2.2) h1.2) (fun _ _ => rfl) hK (fun _ _ => rfl)
  have hcd : Clean (hit [(r, [])]) (.own z (els.drop i0)) := by
    have := hcl _ (look_mem hl)
    exact Clean.own (fun row hr x hx => this.sub x (List.mem_flatten.2 ⟨row, List.mem_of_mem_drop hr, hx⟩))
  have r3 := r1.mono hcd hK (fun _ _ => rfl)
  obtain ⟨Fn, u1, u2⟩ := hupd _ _ r3 hca
  have h4 := h3.mono (fun _ _ => rfl) (fun en he => hcl en (mem_delH he)) hK (fun _ _ => rfl) (fun _ _ => rfl)
  have hFn : ∀ b ∈ Fn, b ∈ Fr ∨ b ∈ F1 := fun b hb => by
    rcases List.mem_append.1 (u2.subset hb) with h' | h'
    · exact .inl (r2.subset h')
    · exact .inr h'
  have hsub : ∀ b ∈ G0 ++ (Fn ++ G'), b ∈ F ++ G := by
    intro b hb
    rcases List.mem_append.1 hb with hb | hb
    · exact List.mem_append.2 (.inl (h1.symm.subset (by simp [hb])))
    · rcases List.mem_append.1 hb with hb | hb
      · rcases hFn b hb with h' | h'
        · exact List.mem_append.2 (.inl (h1.symm.subset (by simp [h'])))
        · exact List.mem_append.2 (.inr (k5 b (by simp [h'])))
      · exact List.mem_append.2 (.inr (k5 b (by simp [t2.subset hb])))
  have hndF := h1.nodup_iff.1 (List.nodup_append.1 h.nd).1
  obtain ⟨n1, n2, n3⟩ := List.nodup_append.1 hndF
  obtain ⟨j1, j2, j3⟩ := List.nodup_append.1 k4
  have hFG : ∀ x ∈ Fr ++ G0, ∀ y ∈ F1 ++ F2, x ≠ y := fun x hx y hy => (List.nodup_append.1 h.nd).2.2 x (h1.symm.subset hx) y (k5 y hy)
  refine ⟨hdf, β, G0, Fn ++ G', { holds := h4, tmps := .cons k1 (.a u1) t3, nd := ?_, low := fun b hb => h.low b (hsub b hb), ext := h.ext.sub hsub, gle := h.gle, out := h.out, fresh := h.fresh, stab := fun y x hy hv0 => VP1.del y x (outer_nohit hv0 h.fresh hd) (h.stab y x hy hv0), size := h.size, hd := h.hd }⟩
  refine List.nodup_append.2 ⟨n2, List.nodup_append.2 ⟨?_, List.Nodup.sublist t2 j2, fun x hx y hy e => ?_⟩, fun x hx y hy e => ?_⟩
  · exact u2.nodup_iff.2 (List.nodup_append.2 ⟨List.Nodup.sublist r2 n1, j1, fun x hx y hy e => hFG x (by simp [r2.subset hx]) y (by simp [hy]) e⟩)
  · subst e
    rcases hFn x hx with h' | h'
    · exact hFG x (by simp [h']) x (by simp [t2.subset hy]) rfl
    · exact j3 x h' x (t2.subset hy) rfl
  · subst e
    rcases List.mem_append.1 hy with hy | hy
    · rcases hFn x hy with h' | h'
      · exact n3 x h' x hx rfl
      · exact hFG x (by simp [hx]) x (by simp [h']) rfl
    · exact hFG x (by simp [hx]) x (by simp [t2.subset hy]) rfl
end Go.Px


namespace Go.Px
open Go.RowKit
set_option linter.unusedVariables false
set_option linter.unusedSimpArgs false
set_option linter.constructorNameAsVariable false

/-- What a call does, told in trees. -/
def PCalls (P : Program) (f : FuncId) (args : List T) (H : HH) (Q : T → HH → List (Nm × Path) → Prop) : Prop :=
  ∀ (g : Nat) (w : World) (β : Nm → Value) (F FA : List Nat) (vs : List Value), g ≤ w.heap.size ∧ Pl g w → Holds g (VP w β H) w β H F → TReps (VP w β H) w args vs FA → (F ++ FA).Nodup → (∀ b ∈ F ++ FA, g ≤ b) →
    Calls P f vs.toArray w fun en w' => ∃ x T H' lg F' FT, en = .returned x ∧ Q T H' lg ∧ Holds g (VP w' β H') w' β H' F' ∧ TRep (VP w' β H') w' T x FT ∧ (F' ++ FT).Nodup ∧ Ext w w' (F ++ FA) (F' ++ FT) ∧
      ∀ y x, ¬ hit1 lg y → VP1 w β H y x → VP1 w' β H' y x

theorem PCalls.mono {P f args H Q Q'} (h : PCalls P f args H Q) (hq : ∀ T H' lg, Q T H' lg → Q' T H' lg) : PCalls P f args H Q' :=
  fun g w β F FA vs h1 h2 h3 h4 h5 => (h g w β F FA vs h1 h2 h3 h4 h5).mono fun en w' ⟨x, T, H', lg, F', FT, k1, k2, k3⟩ => ⟨x, T, H', lg, F', FT, k1, hq _ _ _ k2, k3⟩

def tfunc (P : Program) (f : FuncId) : Bool := match P.funcs[f]? with | some fn => (fn.name != "runtime.NumGoroutine") && fn.body.isSome | none => false

def tkArgs : List (Nat × T) → List Operand → Option (List T × List (Nat × T))
  | t, [] => some ([], t)
  | t, o :: rest =>
    match tkO t o with
    | some (x, t1) => (match tkArgs t1 rest with
      | some (xs, t2) => some (x :: xs, t2)
      | none => none)
    | none => none

theorem tkArgs_rep {w a β H} {ds : List Deferred} : ∀ {os t G xs t'}, Tmps (VP w β H) w a t G → G.Nodup → tkArgs t os = some (xs, t') →
    ∃ Fp G', TReps (VP w β H) w xs (os.map (⟨a, ds⟩ : Act).eval) Fp ∧ Tmps (VP w β H) w a t' G' ∧ (Fp ++ G').Nodup ∧ ∀ b ∈ Fp ++ G', b ∈ G
  | [], t, G, xs, t', h, hn, hx => by
    simp [tkArgs] at hx
    obtain ⟨rfl, rfl⟩ := hx
    exact ⟨[], G, .nil, h, by simpa using hn, by simp⟩
  | o :: rest, t, G, xs, t', h, hn, hx => by
    simp only [tkArgs] at hx
    split at hx
    · rename_i x t1 h1
      split at hx
      · rename_i xs' t2 h3
        cases hx
        obtain ⟨Fx, G1, k1, k2, k3, k4⟩ := tkO_rep (ds := ds) h hn h1
        obtain ⟨n1, n2, n3⟩ := List.nodup_append.1 k3
        obtain ⟨Fp, G', m1, m2, m3, m4⟩ := tkArgs_rep (ds := ds) k2 n2 h3
        refine ⟨Fx ++ Fp, G', .cons k1 m1, m2, ?_, ?_⟩
        · rw [List.append_assoc]
          exact List.nodup_append.2 ⟨n1, m3, fun x hx y hy => n3 x hx y (m4 y hy)⟩
        · intro b hb
          rw [List.append_assoc] at hb
          rcases List.mem_append.1 hb with hb | hb
          · exact k4 b (by simp [hb])
          · exact k4 b (by simp [m4 b hb])
      · cases hx
    · cases hx

theorem TReps.append {R w} : ∀ {l vs F l' vs' F'}, TReps R w l vs F → TReps R w l' vs' F' → TReps R w (l ++ l') (vs ++ vs') (F ++ F')
  | _, _, _, _, _, _, .nil, h => h
  | _, _, _, _, _, _, .cons hr ht, h => by rw [List.append_assoc]; exact .cons hr (ht.append h)

/-- captured cells as arguments -/
theorem caps_rep {w β H} : ∀ {cs : List Cell} {xs : List Value}, cs.length = xs.length → (∀ (i : Nat) (c : Cell) (y : Value), cs[i]? = some c → xs[i]? = some y → VP1 w β H c y) → (∀ c ∈ cs, isRef c = true ∨ ∃ y, c = .v y ∧ flat y = true) → TReps (VP w β H) w (cs.map T.c) xs []
  | [], [], _, _, _ => .nil
  | [], _ :: _, h, _, _ => by simp at h
  | _ :: _, [], h, _, _ => by simp at h
  | c :: cs, x :: xs, hl, h, hc => by
    have h0 := h 0 c x (by simp) (by simp)
    have : TRep (VP w β H) w (.c c) x [] := by
      rcases hc c (by simp) with hr | ⟨y, rfl, hf⟩
      · cases c with
        | sl r q z i n =>
          refine .c (.ref rfl ?_ h0)
          obtain ⟨c', els, hd, e1, e2, e3, e4, e5⟩ := h0
          rcases e5 with ⟨b, off, n0, cap0, cap, -, rfl, -⟩ | ⟨-, A, rfl, -⟩ <;> rfl
        | pt r q z i f =>
          refine .c (.ref rfl ?_ h0)
          obtain ⟨c', els, hd, e1, e2, e3, e4, e5, b, off, n0, cap0, -, rfl⟩ := h0
          rfl
        | fn f cs' => exact h0.elim
        | v y => simp [isRef] at hr
        | own z els => simp [isRef] at hr
        | x => simp [isRef] at hr
      · have : x = y := h0
        subst this
        exact .c (.v _ hf)
    have := TReps.cons this (caps_rep (by simpa using hl) (fun i c y hc hy => h (i + 1) c y (by simpa using hc) (by simpa using hy)) (fun c hc' => hc c (by simp [hc'])))
    simpa using this

def keepL (lg : List (Nm × Path)) (x : T) : Bool := lg.all fun e => x.keep e.1 e.2

theorem hit_split {lg : List (Nm × Path)} {c} (h : hit lg c) : ∃ e ∈ lg, hit [e] c := by
  have key : ∀ c, hit1 lg c → ∃ e ∈ lg, hit1 [e] c := by
    intro c h
    cases c with
    | sl r q z i n => obtain ⟨e, h1, h2⟩ := h; exact ⟨e, h1, e, by simp, h2⟩
    | pt r q z i f => obtain ⟨e, h1, h2⟩ := h; exact ⟨e, h1, e, by simp, h2⟩
    | _ => exact h.elim
  cases c with
  | fn f cs =>
    obtain ⟨c, hc, hh⟩ := h
    obtain ⟨e, h1, h2⟩ := key c hh
    exact ⟨e, h1, c, hc, h2⟩
  | sl r q z i n => exact key (.sl r q z i n) h
  | pt r q z i f => exact key (.pt r q z i f) h
  | _ => exact h.elim

theorem Clean.lg {lg : List (Nm × Path)} {c} (h : ∀ e ∈ lg, Clean (hit [e]) c) : Clean (hit lg) c := by
  intro p c' hg hr hh
  obtain ⟨e, he, hh⟩ := hit_split hh
  exact h e he p c' hg hr hh
mutual
theorem tclean_lg {lg : List (Nm × Path)} : ∀ {x : T}, (∀ e ∈ lg, x.clean (hit [e])) → x.clean (hit lg)
  | .c x, h => Clean.lg h
  | .a l, h => fun c hc => Clean.lg (fun e he => h e he c hc)
  | .t l, h => tcleans_lg h
  | .u, _ => trivial
theorem tcleans_lg {lg : List (Nm × Path)} : ∀ {l : List T}, (∀ e ∈ lg, T.cleans (hit [e]) l) → T.cleans (hit lg) l
  | [], _ => trivial
  | x :: l, h => ⟨tclean_lg (fun e he => (h e he).1), tcleans_lg (fun e he => (h e he).2)⟩
end

theorem hit1_append {l1 l2 : List (Nm × Path)} {y} (h : ¬ hit1 (l1 ++ l2) y) : ¬ hit1 l1 y ∧ ¬ hit1 l2 y := by
  constructor
  · intro hh; apply h
    cases y <;> first | (obtain ⟨e', h1, h2⟩ := hh; exact ⟨e', by simp [h1], h2⟩) | exact hh
  · intro hh; apply h
    cases y <;> first | (obtain ⟨e', h1, h2⟩ := hh; exact ⟨e', by simp [h1], h2⟩) | exact hh

def putD (t : List (Nat × T)) : Option Nat → T → List (Nat × T)
  | some d, x => setT t d x
  | none, _ => t

/-- constants among arguments: an array of nothing keeps the width 0 (PFun.own0 where a contract asks for another) -/
def relA (P : Program) (os : List Operand) (tys : List TypeId) (l : List T) : List T := l
theorem relA_rep {P : Program} {R w os tys l vs F} (h : TReps R w l vs F) : TReps R w (relA P os tys l) vs F := h
theorem hit1_outer {w β} {H0 : HH} {d : Nat} {d' : Nat} {y x} {lg : List (Nm × Path)} (hv : VP1 w β H0 y x) (hf : ∀ x ∈ H0, x.1.1 ≠ d) (hdd : d = d') (hn : ¬ hit1 (lg.filter (fun e => decide (e.1.1 ≠ d'))) y) : ¬ hit1 lg y := by
  subst hdd
  have key : ∀ {r q c}, look H0 r = some c → (∃ e ∈ lg, e.1 = r ∧ e.2 <+: q) → ∃ e ∈ lg.filter (fun e => decide (e.1.1 ≠ d)), e.1 = r ∧ e.2 <+: q := by
    rintro r q c hl ⟨e, he, h1, h2⟩
    exact ⟨e, List.mem_filter.2 ⟨he, by simpa [h1] using hf _ (look_mem hl)⟩, h1, h2⟩
  cases y with
  | sl r q z i n =>
    obtain ⟨c, els, h, e1, e2⟩ := hv
    exact fun hh => hn (key e1 hh)
  | pt r q z i f =>
    obtain ⟨c, els, h, e1, e2⟩ := hv
    exact fun hh => hn (key e1 hh)
  | _ => exact fun hh => hh.elim
theorem SOp.callR {cx o s K c fo f caps args args' t'} (hre : ∀ {R w vs F}, TReps R w args vs F → TReps R w args' vs F) (ho : o.op = .call c) (hc : c.callee = .value fo) (hfo : rdO s.t fo = some (.c (.fn f caps))) (hcaps : ∀ c ∈ caps, isRef c = true ∨ ∃ y, c = .v y ∧ flat y = true) (hf : tfunc cx.P f = true)
    (ha : tkArgs s.t c.args.toList = some (args, t')) (hd : ∀ d, o.dst = some d → d < cx.N)
    (h : PCalls cx.P f (args' ++ caps.map T.c) s.H (fun T H' lg => (∀ e ∈ lg, OcleanT (hit [e]) t') ∧ K { t := putD (t'.filter fun en => keepL lg en.2) o.dst T, H := H', lg := lg.filter (fun e => decide (e.1.1 ≠ cx.d)) ++ s.lg })) : SOp cx o s K := by
  intro e a w next Q hde hNe hr hk
  obtain ⟨hdf, β, F, G, hx⟩ := hr
  have hgl : e.g ≤ w.heap.size := hx.gw.1
  obtain ⟨tm, ds⟩ := a
  obtain ⟨Fp, G', h1, h2, h3, h4⟩ := tkArgs_rep (ds := ds) hx.tmps (List.nodup_append.1 hx.nd).2.1 ha
  obtain ⟨n1, n2, n3⟩ := List.nodup_append.1 h3
  have hv := rd_ref (a := ⟨tm, ds⟩) hx.tmps hfo rfl
  obtain ⟨xs, e1, e2, e3⟩ := hv
  have hargs := TReps.append (hre h1) (caps_rep e2 e3 hcaps)
  rw [List.append_nil] at hargs
  have hFp : ∀ b ∈ Fp, b ∈ G := fun b hb => h4 b (by simp [hb])
  have hG'2 : ∀ b ∈ G', b ∈ G := fun b hb => h4 b (by simp [hb])
  have hrun : (execOp (⟨tm, ds⟩ : Act).eval o).run cx.P w = .ok (.enter f (c.args.toList.map (⟨tm, ds⟩ : Act).eval ++ xs).toArray) w := by
    unfold tfunc at hf
    cases hfn : cx.P.funcs[f]? with
    | none => simp [hfn] at hf
    | some fn =>
      simp [hfn] at hf
      have hb : ¬ fn.body = none := by intro h; simp [h] at hf
      simp [execOp, ho, resolve, hc, e1, Deferred.ofValue, invoke, callFunc, program, Sem.run_bind, Sem.run, Result.andThen, hfn, hf, hb]
  unfold Oper.wp
  rw [hrun]
  show Calls cx.P f _ w _
  refine (h e.g w β F Fp _ hx.gw hx.holds hargs ?_ ?_).mono ?_
  · exact nodup_sub hx.nd (List.nodup_append.1 hx.nd).1 n1 (fun b hb => hb) hFp
  · intro b hb
    rcases List.mem_append.1 hb with hb | hb
    · exact hx.low b (by simp [hb])
    · exact hx.low b (by simp [hFp b hb])
  · rintro en w' ⟨x, T, H', lg, F', FT, rfl, ⟨hoc, hKs⟩, k1, k2, k3, k4, k5⟩
    show next ((⟨tm, ds⟩ : Act).put o.dst x) w'
    have hG : ∀ b ∈ G, b < w.heap.size := fun b hb => by obtain ⟨arr, el, fr, hb'⟩ := hx.tmps.block b hb; exact lt_of_block hb'
    have hnot : ∀ b ∈ G', b ∉ F ++ Fp := fun b hb hm => by
      rcases List.mem_append.1 hm with hm | hm
      · exact (List.nodup_append.1 hx.nd).2.2 b hm b (hG'2 b hb) rfl
      · exact n3 b hm b hb rfl
    have hGs : ∀ b ∈ G', w'.heap[b]? = w.heap[b]? := fun b hb => k4.same b (hG b (hG'2 b hb)) (hnot b hb)
    have hK2 : ∀ y x, isRef y = true → ¬ hit lg y → VP w β s.H y x → VP w' β H' y x := VP.map k5
    obtain ⟨G2, t1, t2⟩ := h2.filter (fun en => keepL lg en.2)
    have t3 := t1.mono (K := hit lg) (R' := VP w' β H') (w' := w') (a' := tm) (fun en he => by
      have hm := List.mem_filter.1 he
      exact tclean_lg (fun e' he' => keep_clean (List.all_eq_true.1 hm.2 e' he') (hoc e' he' en hm.1))) (fun _ _ => rfl) hK2 (fun b hb => hGs b (t2.subset hb))
    have hFT : ∀ b ∈ F' ++ FT, b ∈ F ∨ b ∈ Fp ∨ w.heap.size ≤ b := fun b hb => by
      rcases k4.new b hb with h' | h'
      · rcases List.mem_append.1 h' with h' | h'
        · exact .inl h'
        · exact .inr (.inl h')
      · exact .inr (.inr h')
    have hdis : ∀ x ∈ F' ++ FT, ∀ y ∈ G2, x ≠ y := by
      intro x hx' y hy e
      subst e
      have hy' := t2.subset hy
      rcases hFT x hx' with h' | h' | h'
      · exact hnot x hy' (by simp [h'])
      · exact hnot x hy' (by simp [h'])
      · have := hG x (hG'2 x hy'); omega
    have hall : (F' ++ (FT ++ G2)).Nodup := by
      rw [← List.append_assoc]
      exact List.nodup_append.2 ⟨k3, List.Nodup.sublist t2 n2, hdis⟩
    have hnew : ∀ b ∈ F' ++ (FT ++ G2), b ∈ F ++ G ∨ w.heap.size ≤ b := by
      intro b hb
      rw [← List.append_assoc] at hb
      rcases List.mem_append.1 hb with hb | hb
      · rcases hFT b hb with h' | h' | h'
        · exact .inl (by simp [h'])
        · exact .inl (by simp [hFp b h'])
        · exact .inr h'
      · exact .inl (by simp [hG'2 b (t2.subset hb)])
    have hext : Ext w w' (F ++ G) (F' ++ (FT ++ G2)) := ⟨k4.os, k4.tape, k4.output, k4.size, fun b hb hm => k4.same b hb (fun h' => hm (by
      rcases List.mem_append.1 h' with h' | h'
      · simp [h']
      · simp [hFp b h'])), hnew⟩
    have hlow2 : ∀ b ∈ F' ++ (FT ++ G2), e.g ≤ b := fun b hb => by
      rcases hnew b hb with h' | h'
      · exact hx.low b h'
      · omega
    have hstab : ∀ y x, ¬ hit1 (lg.filter (fun e => decide (e.1.1 ≠ cx.d)) ++ s.lg) y → VP1 e.w0 e.β0 e.H0 y x → VP1 w' β H' y x := fun y x hy hv0 => by
      obtain ⟨y1, y2⟩ := hit1_append hy
      exact k5 y x (hit1_outer hv0 hx.fresh hde y1) (hx.stab y x y2 hv0)
    cases hdst : o.dst with
    | none =>
      rw [hdst] at hKs
      refine hk _ _ _ hKs ⟨hdf, β, F', G2, { holds := k1, tmps := t3, nd := ?_, low := fun b hb => hlow2 b ?_, ext := hx.ext.trans (hext.sub (fun b hb => ?_)), gle := hx.gle, out := hx.out, fresh := hx.fresh, stab := hstab, size := hx.size, hd := hx.hd }⟩
      · exact List.Nodup.sublist (List.Sublist.append (.refl _) (List.sublist_append_right _ _)) hall
      · exact (List.Sublist.append (.refl F') (List.sublist_append_right FT G2)).subset hb
      · exact (List.Sublist.append (.refl F') (List.sublist_append_right FT G2)).subset hb
    | some dst =>
      rw [hdst] at hKs
      obtain ⟨G3, u1, u2⟩ := t3.set k2 (dst := dst) (by rw [hx.size, hNe]; exact hd dst hdst)
      have hsl : (F' ++ (FT ++ G3)).Sublist (F' ++ (FT ++ G2)) := List.Sublist.append (.refl _) (List.Sublist.append (.refl _) u2)
      refine hk _ _ _ hKs ⟨by rw [Act.put_defers]; exact hdf, β, F', FT ++ G3, { holds := k1, tmps := by simpa [Act.put, putD] using u1, nd := List.Nodup.sublist hsl hall, low := fun b hb => hlow2 b (hsl.subset hb), ext := hx.ext.trans (hext.sub (fun b hb => hsl.subset hb)), gle := hx.gle, out := hx.out, fresh := hx.fresh, stab := hstab, size := ?_, hd := hx.hd }⟩
      simp only [Act.put, Array.size_setIfInBounds]; exact hx.size

theorem SOp.call {cx o s K c fo f caps args t'} (ho : o.op = .call c) (hc : c.callee = .value fo) (hfo : rdO s.t fo = some (.c (.fn f caps))) (hcaps : ∀ c ∈ caps, isRef c = true ∨ ∃ y, c = .v y ∧ flat y = true) (hf : tfunc cx.P f = true)
    (ha : tkArgs s.t c.args.toList = some (args, t')) (hd : ∀ d, o.dst = some d → d < cx.N)
    (h : PCalls cx.P f (args ++ caps.map T.c) s.H (fun T H' lg => (∀ e ∈ lg, OcleanT (hit [e]) t') ∧ K { t := putD (t'.filter fun en => keepL lg en.2) o.dst T, H := H', lg := lg.filter (fun e => decide (e.1.1 ≠ cx.d)) ++ s.lg })) : SOp cx o s K :=
  SOp.callR (fun h => h) ho hc hfo hcaps hf ha hd h
/-- Code, told of what is known. -/
def SCode (cx : Cx) (c : Code) (s : St) (K : Exit → St → Prop) : Prop :=
  ∀ (e : Env) (a : Act) (w : World), e.d = cx.d → e.N = cx.N → Rel e s a w → c.wp cx.P (fun ex a' w' => ∃ s', K ex s' ∧ Rel e s' a' w') a w

def thenK (K2 : St → Prop) (K : Exit → St → Prop) : Exit → St → Prop
  | .normal, s => K2 s
  | ex, s => K ex s
def blockK (id : Nat) (K : Exit → St → Prop) : Exit → St → Prop
  | .exit id', s => if id' = id then K .normal s else K (.exit id') s
  | ex, s => K ex s

theorem SCode.mono {cx c s K K'} (h : SCode cx c s K) (hk : ∀ ex s, K ex s → K' ex s) : SCode cx c s K' :=
  fun e a w hd hN hr => Code.wp_mono (fun ex a' w' ⟨s', h1, h2⟩ => ⟨s', hk _ _ h1, h2⟩) (h e a w hd hN hr)
theorem SCode.skip {cx s K} (h : K .normal s) : SCode cx .skip s K := fun e a w _ _ hr => wp_skip ⟨s, h, hr⟩
theorem SCode.exit {cx s K id} (h : K (.exit id) s) : SCode cx (.exit id) s K := fun e a w _ _ hr => wp_exit ⟨s, h, hr⟩
theorem SCode.ret {cx s K} (h : K .ret s) : SCode cx .ret s K := fun e a w _ _ hr => wp_ret ⟨s, h, hr⟩
theorem SCode.label {cx s K l} (h : K .normal s) : SCode cx (.label l) s K := fun e a w _ _ hr => wp_label ⟨s, h, hr⟩
theorem SCode.seq {cx x y s K} (h : SCode cx x s (thenK (fun s' => SCode cx y s' K) K)) : SCode cx (.seq x y) s K := by
  intro e a w hd hN hr
  refine wp_seq (Code.wp_mono (fun ex a' w' => ?_) (h e a w hd hN hr))
  rintro ⟨s', h1, h2⟩
  cases ex <;> first | exact h1 e a' w' hd hN h2 | exact ⟨s', h1, h2⟩
theorem SCode.cond {cx c x y s K b} (hc : rdO s.t c = some (.c (.v (.bool b)))) (ht : b = true → SCode cx x s K) (hf : b = false → SCode cx y s K) : SCode cx (.cond c x y) s K := by
  intro e a w hd hN hr
  have hev : a.eval c = .bool b := by
    obtain ⟨_, β, F, G, hx⟩ := hr
    exact ev_v hx.tmps hc
  exact wp_cond_split hev (fun hb => ht hb e a w hd hN hr) (fun hb => hf hb e a w hd hN hr)
theorem SCode.block {cx id c s K} (h : SCode cx c s (blockK id K)) : SCode cx (.block id c) s K := by
  intro e a w hd hN hr
  refine wp_block (Code.wp_mono (fun ex a' w' => ?_) (h e a w hd hN hr))
  rintro ⟨s', h1, h2⟩
  cases ex <;> try exact ⟨s', h1, h2⟩
  rename_i id'
  simp only [blockK] at h1
  simp only [Exit.inBlock]
  by_cases hi : id' = id
  · rw [if_pos hi] at h1 ⊢; exact ⟨s', h1, h2⟩
  · rw [if_neg hi] at h1 ⊢; exact ⟨s', h1, h2⟩
theorem SCode.region {cx id ops s K} (h : SOps cx ops (List.range ops.size) s (K .normal)) : SCode cx (.region id ops false) s K := by
  intro e a w hd hN hr
  exact wp_region (h e a w _ hd hN hr (fun s' a' w' hs hr' => ⟨s', hs, hr'⟩))

/-- A loop: I n is what is known n or fewer rounds before its end. -/
theorem SCode.loop {cx c K} (I : Nat → St → Prop) (hround : ∀ n s, I n s → SCode cx c s (thenK (fun s' => ∃ m, m < n ∧ I m s') K)) : ∀ {n s}, I n s → SCode cx (.loop c) s K := by
  intro n s h0 e a w hd hN hr b k cs
  have key : ∀ n s a w, I n s → Rel e s a w → ∃ ex a' w', (∃ s', K ex s' ∧ Rel e s' a' w') ∧ Arrives cx.P (lone (b.at a (.code c :: .inLoop c :: k)) cs w) b k cs ex a' w' := by
    intro n
    induction n using Nat.strongRecOn with
    | _ n ih =>
      intro s a w hI hr
      obtain ⟨ex, a₁, w₁, ⟨s1, hq, hr1⟩, harr⟩ := hround n s hI e a w hd hN hr b (.inLoop c :: k) cs
      cases ex with
      | normal =>
        obtain ⟨m, hlt, hI1⟩ := hq
        obtain ⟨e₂, a₂, w₂, hq₂, harr₂⟩ := ih m hlt s1 a₁ w₁ hI1 hr1
        exact ⟨e₂, a₂, w₂, hq₂, .of_steps (Steps.trans harr (.one step_inLoop)) harr₂⟩
      | exit id => exact ⟨_, a₁, w₁, ⟨s1, hq, hr1⟩, .pass (x := .inLoop c) rfl (fun _ _ => .inl (by simp)) harr⟩
      | goto l => exact ⟨_, a₁, w₁, ⟨s1, hq, hr1⟩, .pass (x := .inLoop c) rfl (fun _ _ => .inl (by simp)) harr⟩
      | ret => exact ⟨_, a₁, w₁, ⟨s1, hq, hr1⟩, .pass (x := .inLoop c) rfl (fun _ _ => .inl (by simp)) harr⟩
      | panic ch => exact ⟨_, a₁, w₁, ⟨s1, hq, hr1⟩, .pass (x := .inLoop c) rfl (fun _ _ => .inl (by simp)) harr⟩
      | outgrown => exact ⟨_, a₁, w₁, ⟨s1, hq, hr1⟩, .pass (x := .inLoop c) rfl (fun _ _ => .inl (by simp)) harr⟩
  obtain ⟨ex, a', w', hq, harr⟩ := key n s a w h0 hr
  exact ⟨ex, a', w', hq, .of_steps (.one step_loop) harr⟩

/-- steps that run no code: what is known is put another way -/
def Ghost (d : Nat) (s s' : St) : Prop := ∀ (e : Env) (a : Act) (w : World), e.d = d → Rel e s a w → Rel e s' a w
theorem SCode.ghost {cx c s s' K} (h : Ghost cx.d s s') (k : SCode cx c s' K) : SCode cx c s K := fun e a w hd hN hr => k e a w hd hN (h e a w hd hr)
theorem SOps.ghost {cx ops l s s' K} (h : Ghost cx.d s s') (k : SOps cx ops l s' K) : SOps cx ops l s K := fun e a w Q hd hN hr => k e a w Q hd hN (h e a w hd hr)
theorem SOp.ghost {cx o s s' K} (h : Ghost cx.d s s') (k : SOp cx o s' K) : SOp cx o s K := fun e a w n Q hd hN hr => k e a w n Q hd hN (h e a w hd hr)
theorem Ghost.keep {d s} (p : Nat × T → Bool) : Ghost d s { s with t := s.t.filter p } := fun e a w _ hr => hr.keep p

end Go.Px

