/- What came in, read as lists and numbers: for each kind of value, out of its data, the list or number that the memory holds, and its bounds. -/
import Derived.Test.YtbppgngfiijclaaVXWords
import Derived.Deep.Slices
import Derived.ChangeShapes
import Derived.WideShapes
set_option linter.unusedVariables false
set_option linter.unusedSimpArgs false
namespace Go.Proofs.YtbppgngfiijclaaW.PrintWords
open Go.RowKit Go.ChangeShapes Go.WideShapes Go.Deep
/-- Data of type t read as a value of kind d of which q holds. -/
def Opens {α : Type} (P : Program) (t : TypeId) (d : Kd α) (q : α → Prop) : Prop :=
  ∀ (H : Type) (enc : TypeId × Value → H) (w : World) (base : Nat) (spare : Nat → Bool) (held : Bool) (fuel : Nat) (cs : List Value) (x : DataW H × List MemPlace), DataW.trod enc P w base spare held fuel t cs = some x → ∃ v : α, d.K w v cs ∧ q v
theorem Opens.int {P : Program} {t : TypeId} {k : IntKind} (hu : P.underlying t = some (.int k)) : Opens P t (Kd.int k) (fun n => (Lit.int k n).wf = true) := by
  intro H enc w base spare held fuel cs x h
  obtain ⟨n, rfl, _, hw⟩ := DataW.trod_int hu h
  exact ⟨n, rfl, hw⟩
theorem Opens.bool {P : Program} {t : TypeId} (hu : P.underlying t = some .bool) : Opens P t Kd.bool (fun _ => True) := by
  intro H enc w base spare held fuel cs x h
  obtain ⟨n, rfl, _⟩ := DataW.trod_bool hu h
  exact ⟨n, rfl, trivial⟩
theorem Opens.string {P : Program} {t : TypeId} (hu : P.underlying t = some .string) : Opens P t Kd.string (fun s => s.size ≤ maxLen) := by
  intro H enc w base spare held fuel cs x h
  obtain ⟨n, rfl, _, hw⟩ := DataW.trod_string hu h
  exact ⟨n, rfl, hw⟩
theorem choose_list {α : Type} {p : Nat → α → Prop} : ∀ (n : Nat), (∀ i, i < n → ∃ v, p i v) → ∃ l : List α, l.length = n ∧ ∀ i v, l[i]? = some v → p i v
  | 0, _ => ⟨[], rfl, fun i v h => by simp at h⟩
  | n + 1, h => by
    obtain ⟨l, hl, hp⟩ := choose_list n (fun i hi => h i (by omega))
    obtain ⟨v, hv⟩ := h n (by omega)
    refine ⟨l ++ [v], by simp [hl], fun i u hu => ?_⟩
    rcases Nat.lt_or_ge i n with hi | hi
    · rw [List.getElem?_append_left (by omega)] at hu
      exact hp i u hu
    · have hlt := (List.getElem?_eq_some_iff.1 hu).1
      have : i = n := by simp [hl] at hlt; omega
      subst this
      rw [List.getElem?_append_right (by omega), hl] at hu
      simp at hu
      subst hu
      exact hv
theorem Opens.slice {α : Type} {P : Program} {t e : TypeId} {d : Kd α} {q : α → Prop} (hu : P.underlying t = some (.slice e)) (hsz : P.cellsOf e = d.sz) (h : Opens P e d q) :
    Opens P t (Kd.slice e d) (fun l => l.length ≤ maxLen ∧ ∀ x ∈ l, q x) := by
  intro H enc w base spare held fuel cs x hx
  rcases open_slice hu hx with ⟨rfl, _⟩ | ⟨a, len, cap, m, n, D, Pl, rfl, _, hl, hm, hmm, _, hel⟩
  · exact ⟨[], ⟨none, 0, rfl, Nat.le_refl _, Kd.C_nil d w⟩, by simp, fun x hx => by simp at hx⟩
  · have hlm : len ≤ m := by rw [hmm]; split <;> omega
    obtain ⟨l, hll, hp⟩ := choose_list (p := fun i v => q v ∧ ∃ c : List Value, c.length = d.sz ∧ d.K w v c ∧ ∀ j u, c[j]? = some u → w.cell? ((a.add (i * d.sz)).add j) = some u) len (fun i hi => by
      obtain ⟨cs', h1, h2⟩ := hel i (by omega)
      obtain ⟨_, hlen, hcell⟩ := World.cells?_some h1
      obtain ⟨v, hv, hq⟩ := h H enc w base spare held n cs' _ h2
      rw [hsz] at hlen hcell
      refine ⟨v, hq, cs', hlen, hv, fun j u hj => ?_⟩
      have hjl := (List.getElem?_eq_some_iff.1 hj).1
      rw [hcell j (by omega), hj])
    subst hll
    have hmax : l.length ≤ maxLen := Nat.le_trans hl hm
    refine ⟨l, ⟨some a, cap, rfl, hl, rfl, by have := hmax; unfold maxLen at this; exact this, fun _ => ⟨a, rfl, fun j p hj => ?_⟩⟩, hmax, fun x hxl => ?_⟩
    · obtain ⟨_, c, h1, h2, h3⟩ := hp j p hj
      refine ⟨c, h1, h2, fun i u hi => ?_⟩
      have := h3 i u hi
      rwa [Go.Deep.add_add] at this
    · obtain ⟨j, hj⟩ := List.getElem?_of_mem hxl
      exact (hp j x hj).1
/-- Fields from a place on, read as one value in line. -/
def OpensF {α : Type} (P : Program) (fs : List Field) (off : Nat) (d : Kd α) (q : α → Prop) : Prop :=
  ∀ (H : Type) (enc : TypeId × Value → H) (w : World) (base : Nat) (spare : Nat → Bool) (held : Bool) (fuel : Nat) (cs : List Value), cs.length = off + d.sz →
    (∀ f ∈ fs, ∃ y, DataW.trod enc P w base spare held fuel f.type ((cs.drop f.offset).take (P.cellsOf f.type)) = some y) → ∃ v : α, d.K w v (cs.drop off) ∧ q v
theorem OpensF.one {α : Type} {P : Program} {f : Field} {off : Nat} {d : Kd α} {q : α → Prop} (ho : f.offset = off) (hsz : P.cellsOf f.type = d.sz) (h : Opens P f.type d q) : OpensF P [f] off d q := by
  intro H enc w base spare held fuel cs hl hf
  obtain ⟨y, hy⟩ := hf f (by simp)
  rw [ho, hsz, List.take_of_length_le (by rw [List.length_drop]; omega)] at hy
  exact h H enc w base spare held fuel _ y hy
theorem OpensF.cons {α β : Type} {P : Program} {f : Field} {fs : List Field} {off off' : Nat} {d : Kd α} {d' : Kd β} {q : α → Prop} {q' : β → Prop} (ho : f.offset = off) (hsz : P.cellsOf f.type = d.sz) (h : Opens P f.type d q) (he : off' = off + d.sz) (h' : OpensF P fs off' d' q') :
    OpensF P (f :: fs) off (Kd.pair d d') (fun p => q p.1 ∧ q' p.2) := by
  intro H enc w base spare held fuel cs hl hf
  subst he
  have hp : (Kd.pair d d').sz = d.sz + d'.sz := rfl
  rw [hp] at hl
  obtain ⟨y, hy⟩ := hf f (by simp)
  rw [ho, hsz] at hy
  obtain ⟨v, hv, hq⟩ := h H enc w base spare held fuel _ y hy
  obtain ⟨v', hv', hq'⟩ := h' H enc w base spare held fuel cs (by omega) (fun g hg => hf g (by simp [hg]))
  refine ⟨(v, v'), ⟨(cs.drop off).take d.sz, cs.drop (off + d.sz), ?_, hv, hv'⟩, hq, hq'⟩
  rw [← List.drop_drop, List.take_append_drop]
theorem Opens.struct {α β : Type} {P : Program} {t : TypeId} {fs : Array Field} {d : Kd α} {q : α → Prop} {f : β → α} (g : α → β) (hfg : ∀ a, f (g a) = a) (hu : P.underlying t = some (.struct fs)) (hsz : P.cellsOf t = d.sz) (h : OpensF P fs.toList 0 d q) :
    Opens P t (Kd.iso d f) (fun x => q (f x)) := by
  intro H enc w base spare held fuel cs x hx
  obtain ⟨xs, n, _, _, hlen, hxl, hf⟩ := DataW.trod_struct hu hx
  obtain ⟨v, hv, hq⟩ := h H enc w base spare held n cs (by omega) (fun f hm => by
    obtain ⟨i, hi⟩ := List.getElem?_of_mem hm
    have hi' : fs[i]? = some f := by simpa using hi
    have hil : i < fs.size := (Array.getElem?_eq_some_iff.1 hi').1
    exact ⟨_, (hf i f hi').trans (List.getElem?_eq_getElem (by omega))⟩)
  refine ⟨g v, ?_, (show q (f (g v)) from by rw [hfg]; exact hq)⟩
  show d.K w (f (g v)) cs
  rw [hfg]
  simpa using hv
end Go.Proofs.YtbppgngfiijclaaW.PrintWords
