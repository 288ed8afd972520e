/- Words for the plain side: what comes of enough rounds, as rules of one form. -/
import Derived.Test.YtbppgngfiijclaaVXOpen
import Derived.Lib.SliceRun
import Derived.Laws.IdiomCopy
set_option linter.unusedVariables false
set_option linter.unusedSimpArgs false
namespace Go.Proofs.YtbppgngfiijclaaW.PrintWords
open Go.RowKit
theorem Ev.pos {α : Type} {c : Prop} [Decidable c] {g f : Nat → Option α} {r : α} (h : c) (k : Ev g r) : Ev (fun n => if c then g n else f n) r := by
  simp only [if_pos h]; exact k
theorem Ev.neg {α : Type} {c : Prop} [Decidable c] {g f : Nat → Option α} {r : α} (h : ¬ c) (k : Ev f r) : Ev (fun n => if c then g n else f n) r := by
  simp only [if_neg h]; exact k
theorem Ev.eq {α : Type} {o : Option α} {r : α} (h : o = some r) : Ev (fun _ => o) r := ⟨0, fun _ _ => h⟩
theorem Ev.val {α : Type} {g : Nat → Option α} {r r' : α} (h : Ev g r) (e : r = r') : Ev g r' := e ▸ h
theorem Ev.le {α : Type} {g f : Nat → Option α} {r : α} (h : ∀ k, g (k + 1) = f k) (k : Ev f r) : Ev g r := Ev.step h k
theorem wrap_nat (i n : Nat) (h : i < n) (hn : n ≤ 9223372036854775807) : wrap64 ((i : Int) + 1) = ((i + 1 : Nat) : Int) := by
  unfold wrap64; omega
theorem wrap_in (x : Int) (h0 : -9223372036854775808 ≤ x) (h1 : x ≤ 9223372036854775807) : wrap64 x = x := by
  unfold wrap64; omega
theorem wf64 {x : Int} : (Lit.int .i64 x).wf = true ↔ -9223372036854775808 ≤ x ∧ x ≤ 9223372036854775807 := by
  unfold Lit.wf
  simp only [Bool.and_eq_true, decide_eq_true_eq]
  exact Iff.rfl
theorem getD_of {α : Type} {l l' : List α} {i : Nat} (d : α) (h : l[i]? = l'[i]?) : l.getD i d = l'.getD i d := by
  rw [List.getD_eq_getElem?_getD, List.getD_eq_getElem?_getD, h]
theorem getD_set_self {α : Type} (l : List α) (i : Nat) (x d : α) (h : i < l.length) : (l.set i x).getD i d = x := by
  rw [List.getD_eq_getElem?_getD, List.getElem?_set_self h]; rfl
theorem get_map {α β : Type} (l : List α) (f : α → β) (i : Nat) (d : α) (h : i < l.length) : (l.map f)[i]? = some (f (l.getD i d)) := by
  rw [List.getElem?_map, List.getD_eq_getElem?_getD, List.getElem?_eq_getElem h]; rfl
theorem ext_upto {α : Type} {l l' : List α} (h : l.length = l'.length) (hj : ∀ j, j < l.length → l[j]? = l'[j]?) : l = l' := by
  apply List.ext_getElem? 
  intro j
  rcases Nat.lt_or_ge j l.length with hlt | hge
  · exact hj j hlt
  · rw [List.getElem?_eq_none hge, List.getElem?_eq_none (by omega)]
theorem filter_take_succ {α : Type} (q : α → Bool) (l : List α) (j : Nat) (h : j < l.length) (d : α) : (l.take (j + 1)).filter q = (l.take j).filter q ++ (if q (l.getD j d) then [l.getD j d] else []) := by
  rw [List.take_succ_eq_append_getElem h, List.filter_append, List.getD_eq_getElem?_getD, List.getElem?_eq_getElem h]
  congr 1
  simp only [Option.getD_some, List.filter_cons, List.filter_nil]
theorem Kd.R_setCells {α : Type} {enc : α → Value} {h1 : ∀ x, (enc x).oneCell' = true} {e base g n cap : Nat} {ok : Nat → Prop} (z : α) : ∀ (m i : Nat) (W : World) (xs : List α), (Kd.scalar enc h1).R e W base ok (.slice (some ⟨g, 0, none⟩) n cap) xs →
    ∃ ys, (Kd.scalar enc h1).R e (W.setCells g i (List.replicate m (enc z))) base ok (.slice (some ⟨g, 0, none⟩) n cap) ys ∧ ys.take i = xs.take i ∧ ys.length = xs.length ∧ W.grownBy (W.setCells g i (List.replicate m (enc z))) (some g)
  | 0, i, W, xs, h => ⟨xs, h, rfl, rfl, World.grownBy.refl _ _⟩
  | m + 1, i, W, xs, h => by
    have h2 := Kd.R_putg h (i : Int) z
    rw [Int.toNat_natCast] at h2
    obtain ⟨ys, y1, y2, y3, y4⟩ := Kd.R_setCells z m (i + 1) _ _ h2.1
    refine ⟨ys, y1, ?_, by simpa using y3, h2.2.trans y4⟩
    have := congrArg (List.take i) y2
    rw [List.take_take, List.take_take, Nat.min_eq_left (by omega)] at this
    rw [this, List.take_set_of_le (by omega)]
theorem grown_block {W W1 : World} {row : Option Nat} (h : W.grownBy W1 row) {g : Nat} {o : Obj} (hb : W.heap[g]? = some o) (hne : some g ≠ row) : W1.heap[g]? = some o := (h.block g (blk_lt hb) hne).trans hb
theorem Kd.R_litv {α : Type} (d : Kd α) (base e : Nat) (W : World) {xs : List α} {inner : List Value} {ok okp : Nat → Prop} (hrep : Reps (d.M W base okp) d.sz xs inner) (hok : ∀ k, okp k → ok k) (hfresh : ok W.heap.size) (hbase : base ≤ W.heap.size) (hm : xs.length ≤ 9223372036854775807) :
    d.R e (W.alloc (.cells inner.toArray e)) base ok (.slice (some ⟨W.heap.size, 0, none⟩) xs.length xs.length) xs := by
  refine ⟨fun k hk => ?_, inner, ?_, ?_⟩
  · have : W.heap.size = k := by simpa [Value.ownBlock] using hk
    subst this
    exact hfresh
  · have h2 := World.ownsRow_lit (base := base) (e := e) (size := d.sz) W inner.toArray xs.length hbase (by simpa [maxLen] using hm) (by simpa using hrep.1)
    simpa using h2
  · refine hrep.imp_ (fun p c hp => d.M_mono (fun k hk => ⟨hok k hk.1, fun he => ?_⟩) (Kd.M_below (d.M_bound hp) (below_alloc (Below.refl _ _) _)))
    have h3 : k = W.heap.size := by simpa [Value.ownBlock] using he
    have := hk.2.2.1
    omega
theorem Kd.R_lit0 {α : Type} (d : Kd α) (base e : Nat) (W : World) (ok : Nat → Prop) (hbase : base ≤ W.heap.size) (hfresh : ok W.heap.size) : d.R e (W.alloc (.cells #[] e)) base ok (.slice (some ⟨W.heap.size, 0, none⟩) 0 0) [] :=
  Kd.R_litv d base e W (xs := []) (inner := []) (okp := fun _ => False) (Reps.none _ _) (fun _ h => h.elim) hfresh hbase (by simp)
theorem idxP_shift {α : Type} (p : α → Bool) (x : α) (xs : List α) (i : Int) : (if idxP p (x :: xs) < 0 then -1 else idxP p (x :: xs) + i) = if p x = true then i else (if idxP p xs < 0 then -1 else idxP p xs + (i + 1)) := by
  have hg := (idxP_ge p xs).1
  cases h : p x with
  | false =>
    have e : idxP p (x :: xs) = if idxP p xs < 0 then -1 else idxP p xs + 1 := by simp [idxP, h]
    by_cases h2 : idxP p xs < 0
    · rw [if_pos h2] at e
      rw [if_pos (by omega), if_neg (by simp), if_pos h2]
    · rw [if_neg h2] at e
      rw [if_neg (by omega), if_neg (by simp), if_neg h2, e]; omega
  | true =>
    have e : idxP p (x :: xs) = 0 := by simp [idxP, h]
    rw [if_neg (by omega), if_pos rfl, e]; omega
end Go.Proofs.YtbppgngfiijclaaW.PrintWords
