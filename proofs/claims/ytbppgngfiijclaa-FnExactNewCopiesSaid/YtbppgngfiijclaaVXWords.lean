/- Words of this session's own: predicates handed to the generic functions of package slices, and what these answer, as plain functions on lists. -/
import Derived.Test.YtbppgngfiijclaaVWMore
import Derived.Test.YtbppgngfiijclaaVWNEv
set_option linter.unusedVariables false
set_option linter.unusedSimpArgs false
namespace Go.Proofs.YtbppgngfiijclaaW.PrintWords
open Go.RowKit

/-- The place of the first element of which p holds; -1: there is none. -/
def idxP {α : Type} (p : α → Bool) : List α → Int
  | [] => -1
  | x :: xs => if p x then 0 else if idxP p xs < 0 then -1 else idxP p xs + 1
theorem idxP_ge {α : Type} (p : α → Bool) (l : List α) : -1 ≤ idxP p l ∧ idxP p l < l.length := by
  induction l with
  | nil => simp [idxP]
  | cons x xs ih =>
    simp only [idxP, List.length_cons]
    split
    · omega
    · split <;> omega
theorem idxP_neg {α : Type} (p : α → Bool) (l : List α) : idxP p l < 0 ↔ ∀ x ∈ l, p x = false := by
  induction l with
  | nil => simp [idxP]
  | cons x xs ih =>
    simp only [idxP, List.mem_cons, forall_eq_or_imp]
    split
    · rename_i h; simp [h]
    · rename_i h
      split
      · rename_i h2; simp only [Bool.not_eq_true] at h; exact ⟨fun _ => ⟨h, ih.1 h2⟩, fun _ => by omega⟩
      · rename_i h2
        constructor
        · intro h3; exfalso; omega
        · intro h3; exact absurd (ih.2 h3.2) h2
theorem idxP_any {α : Type} (p : α → Bool) (l : List α) : decide (0 ≤ idxP p l) = l.any p := by
  rw [Bool.eq_iff_iff]
  simp only [decide_eq_true_eq, List.any_eq_true]
  constructor
  · intro h
    by_cases hh : ∃ x, x ∈ l ∧ p x = true
    · exact hh
    · exfalso
      have : idxP p l < 0 := (idxP_neg p l).2 (fun x hx => by
        cases hpx : p x with
        | false => rfl
        | true => exact absurd ⟨x, hx, hpx⟩ hh)
      omega
  · rintro ⟨x, hx, hpx⟩
    rcases Int.lt_or_le (idxP p l) 0 with h | h
    · rw [(idxP_neg p l).1 h x hx] at hpx; cases hpx
    · exact h
theorem idxP_hit {α : Type} (p : α → Bool) (d : α) : ∀ (l : List α) (k : Nat), k < l.length → (∀ j, j < k → p (l.getD j d) = false) → p (l.getD k d) = true → idxP p l = k := by
  intro l
  induction l with
  | nil => intro k hk; simp at hk
  | cons x xs ih =>
    intro k hk h1 h2
    cases k with
    | zero =>
      have : p x = true := by simpa using h2
      simp [idxP, this]
    | succ k =>
      have h0 : p x = false := by simpa using h1 0 (by omega)
      have e := ih k (by simpa using hk) (fun j hj => by simpa using h1 (j + 1) (by omega)) (by simpa using h2)
      simp only [idxP, h0, e]
      rw [if_neg (by simp), if_neg (by omega)]
      omega
theorem idxP_miss {α : Type} (p : α → Bool) (d : α) (l : List α) (h : ∀ j, j < l.length → p (l.getD j d) = false) : idxP p l = -1 := by
  have h1 : idxP p l < 0 := (idxP_neg p l).2 (fun x hx => by
    obtain ⟨j, hj, rfl⟩ := List.mem_iff_getElem.1 hx
    have := h j hj
    rwa [List.getD_eq_getElem?_getD, List.getElem?_eq_getElem hj] at this)
  have := (idxP_ge p l).1
  omega
theorem getD_mem_ {α : Type} (d : α) (l : List α) (k : Nat) (h : k < l.length) : l.getD k d ∈ l := by
  rw [List.getD_eq_getElem?_getD, List.getElem?_eq_getElem h]
  exact List.getElem_mem h
theorem od {p : Prop} [Decidable p] (h : decide p = true := by first | (with_reducible assumption) | assumption) : p := of_decide_eq_true h
theorem bo {w W : World} (h : Below w.heap.size w W := by repeat (first | (with_reducible first | (apply Aside0.out; assumption) | apply below_alloc | apply pw_below_drewN | apply below_drew1) | (apply Aside0.out; assumption))) : Below w.heap.size w W := h
/-- A number of so many as the bounds say. -/
def withinB (a0 a1 a2 : Int) : Bool := decide (a1 ≤ a0) && decide (a0 ≤ a2)
theorem C_block {k : IntKind} {w : World} {b T : Nat} {fr : Nat × Nat} {l : List Int} (h : w.heap[b]? = some (.cells (l.map (Value.int k)).toArray T fr)) (hl : l.length ≤ 9223372036854775807) : Kd.C (Kd.int k) w (some ⟨b, 0, none⟩) l.length l := by
  refine ⟨rfl, hl, fun _ => ⟨_, rfl, fun j p hj => ⟨[.int k p], rfl, rfl, fun i u hu => ?_⟩⟩⟩
  have hi : i = 0 := by
    have := (List.getElem?_eq_some_iff.1 hu).1
    simpa using this
  subst hi
  obtain rfl : Value.int k p = u := by simpa using hu
  have hsz : (Kd.int k).sz = 1 := rfl
  rw [hsz, Nat.mul_one, Nat.add_zero]
  have e : (({ block := b, off := 0 } : Addr).add j) = ⟨b, j, none⟩ := by
    unfold Addr.add; split <;> simp_all
  rw [e]
  unfold World.cell?
  rw [h]
  simp [hj]
theorem cells4 {w : World} {b T : Nat} {v0 v1 v2 v3 : Value} (h : w.heap[b]? = some (.cells #[v0, v1, v2, v3] T (0, 0))) : w.cell? ⟨b, 0, none⟩ = some v0 ∧ w.cell? ⟨b, 1, none⟩ = some v1 ∧ w.cell? ⟨b, 2, none⟩ = some v2 ∧ w.cell? ⟨b, 3, none⟩ = some v3 :=
  ⟨(blk_cell h 0).trans rfl, (blk_cell h 1).trans rfl, (blk_cell h 2).trans rfl, (blk_cell h 3).trans rfl⟩
theorem cells3 {w : World} {b T : Nat} {v0 v1 v2 : Value} (h : w.heap[b]? = some (.cells #[v0, v1, v2] T (0, 0))) : w.cell? ⟨b, 0, none⟩ = some v0 ∧ w.cell? ⟨b, 1, none⟩ = some v1 ∧ w.cell? ⟨b, 2, none⟩ = some v2 :=
  ⟨(blk_cell h 0).trans rfl, (blk_cell h 1).trans rfl, (blk_cell h 2).trans rfl⟩
theorem cells2 {w : World} {b T : Nat} {v0 v1 : Value} (h : w.heap[b]? = some (.cells #[v0, v1] T (0, 0))) : w.cell? ⟨b, 0, none⟩ = some v0 ∧ w.cell? ⟨b, 1, none⟩ = some v1 :=
  ⟨(blk_cell h 0).trans rfl, (blk_cell h 1).trans rfl⟩
theorem cells1 {w : World} {b T : Nat} {v0 : Value} (h : w.heap[b]? = some (.cells #[v0] T (0, 0))) : w.cell? ⟨b, 0, none⟩ = some v0 := (blk_cell h 0).trans rfl
theorem idxP_contains (l : List Int) (v : Int) : decide (0 ≤ idxP (fun y => v == y) l) = l.contains v := by
  rw [idxP_any, List.contains_eq_any_beq]
end Go.Proofs.YtbppgngfiijclaaW.PrintWords
