/- Package slices at rows of int64 of the call's own: Compact, Delete and Sort by the shelf's contracts, said of the words' rows. -/
import Derived.Test.YtkabmhjnhcfkcaaVXPure
import Derived.Shelf.SlicesG.CompactI
import Derived.Shelf.SlicesG.Delete
import Derived.Sort.OwnSortedInts
import Derived.Shelf.SortM.Plain
import Derived.Shelf.SortM.SortNone
set_option linter.unusedVariables false
set_option linter.unusedSimpArgs false
namespace Go.Proofs.YtkabmhjnhcfkcaaW.PrintWords
open Go.RowKit Go.Sort
theorem own_put2 {w : World} {base g cap q : Nat} {e : TypeId} {cur : Array Value} (ts us : List Int) (os : Array Obj) (hbase : base ≤ g) (hb : w.heap[g]? = some (.cells cur e (0, 0))) (h1 : (ts ++ us).length ≤ cap) (h2 : cap ≤ maxLen) (h3 : cur.size = cap * 1) :
    (grow (putRow (Value.int .i64) (Sort.ahead w q) g 0 (ts ++ us).toArray) os).ownsRow base e 1 (.slice (some ⟨g, 0, none⟩) ts.length cap) ts.length (ts.map (Value.int .i64)) := by
  have hl : (ts ++ us).length = ts.length + us.length := List.length_append
  refine ⟨by simp, .inr ⟨g, cap, _, rfl, hbase, heap_sortedI _ hb, by omega, h2, by simp [putCells, h3], ?_⟩⟩
  rw [Nat.mul_one]
  have h := take_putCellsI cur (ts ++ us) (by omega)
  have h4 := congrArg (List.take ts.length) h
  rw [List.take_take, Nat.min_eq_left (by omega), List.map_append, List.take_append_of_le_length (by simp)] at h4
  rw [h4]
  exact List.take_of_length_le (by simp)
theorem own_split {w : World} {base : Nat} {e : TypeId} {v : Value} {xs : List Int} {ok : Nat → Prop} (h : Kd.R (Kd.int .i64) e w base ok v xs) : (v = .slice none 0 0 ∧ xs = []) ∨ ∃ g cap cur, v = .slice (some ⟨g, 0, none⟩) xs.length cap ∧ base ≤ g ∧ w.heap[g]? = some (.cells cur e (0, 0)) ∧ xs.length ≤ cap ∧ cap ≤ maxLen ∧ cur.size = cap * 1 ∧ cur.toList.take xs.length = xs.map (Value.int .i64) := by
  have ho : w.ownsRow base e 1 v xs.length (encs (Value.int .i64) xs) := Kd.own_of_R h
  rcases ho.2 with ⟨hv, hn⟩ | ⟨g, cap, cur, hv, hg, hh, h1, h2, h3, h4⟩
  · exact .inl ⟨hv, List.length_eq_zero_iff.1 hn⟩
  · exact .inr ⟨g, cap, cur, hv, hg, hh, h1, h2, h3, by rw [Nat.mul_one] at h4; exact h4⟩
theorem Kd.compact_int {P : Program} {ρ : Go.Shelf.Ren} (L : Go.Proofs.SlLaysN.n43 P ρ) {w : World} {base : Nat} {e : TypeId} {v : Value} {xs : List Int} {ok : Nat → Prop} (h : Kd.R (Kd.int .i64) e w base ok v xs) :
    Calls P (ρ.f 43) #[v] w fun e' w' => ∃ v', e' = .returned v' ∧ Kd.R (Kd.int .i64) e w' base ok v' (Lib.compact xs) ∧ w.grownBy w' v.ownBlock := by
  rcases own_split h with ⟨rfl, rfl⟩ | ⟨g, cap, cur, rfl, hg, hb, h1, h2, h3, h4⟩
  · refine (Go.Proofs.AnyG.slices_Compact_int_empty L none 0 w).mono ?_
    rintro e' w' ⟨rfl, rfl⟩
    exact ⟨_, rfl, h, World.grownBy.refl _ _⟩
  · have hm : cap ≤ 9223372036854775807 := by unfold maxLen at h2; omega
    refine (Go.Proofs.AnyG.slices_Compact_int L g 0 cap xs w (holds_of_blockI hb h4) (by omega) h1).mono ?_
    rintro e' w' ⟨rfl, q, rfl⟩
    have hk : ok g := h.1 g (by simp [Value.ownBlock])
    have hc : (Lib.compact xs).length ≤ xs.length := by
      unfold Lib.compact Lib.compactUpTo
      rw [List.length_map]
      refine Nat.le_trans (List.length_filter_le _ _) (by simp)
    have hgr := grownBy_sortedI (w := w) (g := g) (n := q) (os := #[]) (Lib.compact xs ++ List.replicate (xs.length - (Lib.compact xs).length) 0).toArray
    have hown := own_put2 (w := w) (base := base) (q := q) (Lib.compact xs) (List.replicate (xs.length - (Lib.compact xs).length) 0) #[] hg hb (by simp; omega) h2 h3
    rw [grow_empty] at hgr hown
    exact ⟨_, rfl, Kd.R_of_own hown (fun k hk' => by have : g = k := by simpa [Value.ownBlock] using hk'
                                                     exact this ▸ hk), hgr⟩
theorem Kd.delete_int {P : Program} {ρ : Go.Shelf.Ren} (L : Go.Proofs.SlLaysN.n45 P ρ) {w : World} {base : Nat} {e : TypeId} {v : Value} {xs : List Int} {ok : Nat → Prop} (h : Kd.R (Kd.int .i64) e w base ok v xs) (i j : Nat) (hij : i ≤ j) (hj : j ≤ xs.length) (hx : 0 < xs.length) :
    Calls P (ρ.f 45) #[v, .int .i64 i, .int .i64 j] w fun e' w' => ∃ v', e' = .returned v' ∧ Kd.R (Kd.int .i64) e w' base ok v' (xs.take i ++ xs.drop j) ∧ w.grownBy w' v.ownBlock := by
  rcases own_split h with ⟨rfl, rfl⟩ | ⟨g, cap, cur, rfl, hg, hb, h1, h2, h3, h4⟩
  · simp at hx
  · have hm : cap ≤ 9223372036854775807 := by unfold maxLen at h2; omega
    refine (Go.Proofs.AnyG.slices_Delete_int L g 0 cap i j xs w (holds_of_blockI hb h4) h1 hm hij hj).mono ?_
    rintro e' w' ⟨rfl, q, rfl⟩
    have hk : ok g := h.1 g (by simp [Value.ownBlock])
    have hl : (xs.take i ++ xs.drop j).length = xs.length - (j - i) := by simp; omega
    have hgr := grownBy_sortedI (w := w) (g := g) (n := q) (os := #[]) (xs.take i ++ xs.drop j ++ List.replicate (j - i) 0).toArray
    have hown := own_put2 (w := w) (base := base) (q := q) (xs.take i ++ xs.drop j) (List.replicate (j - i) 0) #[] hg hb (by rw [List.length_append, hl]; simp; omega) h2 h3
    rw [grow_empty] at hgr hown
    rw [hl] at hown
    exact ⟨_, rfl, Kd.R_of_own (by rw [hl]; exact hown) (fun k hk' => by have : g = k := by simpa [Value.ownBlock] using hk'
                                                                         exact this ▸ hk), hgr⟩
theorem Kd.sort_int {P : Program} {ρ : Go.Shelf.Ren} (L : Go.Proofs.SlLaysM.n5 P ρ) {w : World} {base : Nat} {e : TypeId} {v : Value} {xs : List Int} {ok : Nat → Prop} (h : Kd.R (Kd.int .i64) e w base ok v xs) (hx2 : xs.length ≤ 1099511627776) :
    Calls P (ρ.f 5) #[v] w fun e' w' => e' = .returned (.tuple #[]) ∧ Kd.R (Kd.int .i64) e w' base ok v (xs.mergeSort fun x y => decide (x ≤ y)) ∧ w.grownBy w' v.ownBlock := by
  rcases own_split h with ⟨rfl, rfl⟩ | ⟨g, cap, cur, rfl, hg, hb, h1, h2, h3, h4⟩
  · refine (Go.Proofs.AnyM.slices_Sort_int_none L none 0 w).mono ?_
    rintro e' w' ⟨rfl, rfl⟩
    exact ⟨rfl, by simpa using h, World.grownBy.refl _ _⟩
  · refine (Go.Proofs.AnyM.slices_Sort_int L g 0 cap xs w (holds_of_blockI hb h4) (blk_lt hb) (by omega)).mono ?_
    rintro e' w' ⟨rfl, q, os, rfl⟩
    have hk : ok g := h.1 g (by simp [Value.ownBlock])
    have hl : (xs.mergeSort fun x y => decide (x ≤ y)).length = xs.length := List.length_mergeSort _
    have hown := ownsRow_sortedI (w := w) (base := base) (n := q) (os := os) (ts := xs.mergeSort fun x y => decide (x ≤ y)) hl hg hb h1 h2 h3
    exact ⟨rfl, Kd.R_of_own (by rw [hl]; exact hown) (fun k hk' => by have : g = k := by simpa [Value.ownBlock] using hk'
                                                                      exact this ▸ hk), grownBy_sortedI _⟩
end Go.Proofs.YtkabmhjnhcfkcaaW.PrintWords
