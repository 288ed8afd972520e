/- Part 3 of the proof that the law FnExactGarbageOf answers true at every input: memory as trees, the program walked over them, and what it computes; no condition. -/
import Derived.Test.YtnlbjfdmjlnlgaaProg
import Derived.KernelRfl
import Derived.Test.YtnlbjfdmjlnlgaaU2
namespace Go.Px
set_option linter.unusedVariables false
set_option linter.unusedSimpArgs false

/- how many elements the arrays of a tree have, in all -/
mutual
def cntC : Cell → Nat
  | .own _ els => els.length + cntRs els
  | _ => 0
def cntR : List Cell → Nat
  | [] => 0
  | c :: cs => cntC c + cntR cs
def cntRs : List (List Cell) → Nat
  | [] => 0
  | r :: rs => cntR r + cntRs rs
end
/- how many scalars there are -/
mutual
def lvC : Cell → Nat
  | .own _ els => lvRs els
  | .v _ => 1
  | _ => 0
def lvR : List Cell → Nat
  | [] => 0
  | c :: cs => lvC c + lvR cs
def lvRs : List (List Cell) → Nat
  | [] => 0
  | r :: rs => lvR r + lvRs rs
end
/-- what a mark is -/
def mkV (k : Int) : Value → Value
  | .int .i64 _ => .int .i64 k
  | .int kd _ => .int kd (kd.wrap k)
  | .bool _ => .bool (decide (k.tmod 3 = 0))
  | v => v
mutual
def mkC (k : Int) : Cell → Cell
  | .own z els => .own z (mkRs k els)
  | .v x => .v (mkV k x)
  | c => c
def mkR (k : Int) : List Cell → List Cell
  | [] => []
  | c :: cs => mkC k c :: mkR (k + lvC c) cs
def mkRs (k : Int) : List (List Cell) → List (List Cell)
  | [] => []
  | r :: rs => mkR k r :: mkRs (k + lvR r) rs
end
/-- a struct's own scalars are not marked -/
def mkS (k : Int) : List Cell → List Cell
  | [] => []
  | .own z els :: cs => .own z (mkRs k els) :: mkS (k + lvRs els) cs
  | c :: cs => c :: mkS k cs
def lvS : List Cell → Nat
  | [] => 0
  | .own z els :: cs => lvRs els + lvS cs
  | _ :: cs => lvS cs

section
variable {k : Int} {z i : Nat} {rows : List (List Cell)} {r row : List Cell} {c : Cell}
theorem cntC_own {els} : cntC (.own z els) = els.length + cntRs els := by simp [cntC]
theorem cntC_v {x} : cntC (.v x) = 0 := by simp [cntC]
theorem cntR_nil : cntR [] = 0 := by simp [cntR]
theorem cntR_cons : cntR (c :: r) = cntC c + cntR r := by simp [cntR]
theorem lvC_own {els} : lvC (.own z els) = lvRs els := by simp [lvC]
theorem lvC_v {x} : lvC (.v x) = 1 := by simp [lvC]
theorem lvR_nil : lvR [] = 0 := by simp [lvR]
theorem lvR_cons : lvR (c :: r) = lvC c + lvR r := by simp [lvR]
theorem mkC_own {els} : mkC k (.own z els) = .own z (mkRs k els) := by simp [mkC]
theorem mkC_v {x} : mkC k (.v x) = .v (mkV k x) := by simp [mkC]
theorem mkR_nil : mkR k [] = [] := by simp [mkR]
theorem mkR_cons : mkR k (c :: r) = mkC k c :: mkR (k + lvC c) r := by simp [mkR]
theorem cntRs_take (hi : i < rows.length) : cntRs (rows.take (i + 1)) = cntRs (rows.take i) + cntR rows[i] := by
  induction rows generalizing i with
  | nil => simp at hi
  | cons r rs ih =>
    cases i with
    | zero => simp [cntRs]
    | succ i => simp [cntRs, ih (i := i) (by simpa using hi)]; omega
theorem lvRs_take (hi : i < rows.length) : lvRs (rows.take (i + 1)) = lvRs (rows.take i) + lvR rows[i] := by
  induction rows generalizing i with
  | nil => simp at hi
  | cons r rs ih =>
    cases i with
    | zero => simp [lvRs]
    | succ i => simp [lvRs, ih (i := i) (by simpa using hi)]; omega
theorem cntRs_split : cntRs rows = cntRs (rows.take i) + cntRs (rows.drop i) := by
  induction rows generalizing i with
  | nil => simp [cntRs]
  | cons r rs ih =>
    cases i with
    | zero => simp [cntRs]
    | succ i => simp [cntRs, ih (i := i)]; omega
theorem lvRs_split : lvRs rows = lvRs (rows.take i) + lvRs (rows.drop i) := by
  induction rows generalizing i with
  | nil => simp [lvRs]
  | cons r rs ih =>
    cases i with
    | zero => simp [lvRs]
    | succ i => simp [lvRs, ih (i := i)]; omega
theorem cntRs_all (h : rows.length ≤ i) : cntRs (rows.take i) = cntRs rows := by rw [List.take_of_length_le h]
theorem lvRs_all (h : rows.length ≤ i) : lvRs (rows.take i) = lvRs rows := by rw [List.take_of_length_le h]
theorem lvRs_le : lvRs (rows.take i) ≤ lvRs rows := by have := lvRs_split (rows := rows) (i := i); omega
theorem cntRs_le : cntRs (rows.take i) ≤ cntRs rows := by have := cntRs_split (rows := rows) (i := i); omega
theorem cntR_mem (h : r ∈ rows) : cntR r ≤ cntRs rows := by
  induction rows with
  | nil => simp at h
  | cons r' rs ih =>
    simp only [cntRs]
    rcases List.mem_cons.1 h with rfl | h
    · omega
    · have := ih h; omega
theorem lvR_mem (h : r ∈ rows) : lvR r ≤ lvRs rows := by
  induction rows with
  | nil => simp at h
  | cons r' rs ih =>
    simp only [lvRs]
    rcases List.mem_cons.1 h with rfl | h
    · omega
    · have := ih h; omega
theorem cntRs_zero (h : ∀ r ∈ rows, cntR r = 0) : cntRs rows = 0 := by
  induction rows with
  | nil => simp [cntRs]
  | cons r rs ih => simp [cntRs, h r (by simp), ih (fun r hr => h r (by simp [hr]))]
theorem lvRs_const {n : Nat} (h : ∀ r ∈ rows, lvR r = n) : lvRs rows = n * rows.length := by
  induction rows with
  | nil => simp [lvRs]
  | cons r rs ih => simp [lvRs, h r (by simp), ih (fun r hr => h r (by simp [hr])), Nat.mul_succ]; omega
theorem lvRs_bound {n : Nat} (h : ∀ r ∈ rows, lvR r ≤ n) : lvRs rows ≤ n * rows.length := by
  induction rows with
  | nil => simp [lvRs]
  | cons r rs ih =>
    have h1 := h r (by simp)
    have h2 := ih (fun r hr => h r (by simp [hr]))
    simp [lvRs, Nat.mul_succ]; omega
theorem mkRs_length : ∀ {rows : List (List Cell)} {k : Int}, (mkRs k rows).length = rows.length
  | [], k => by simp [mkRs]
  | r :: rs, k => by simp [mkRs, mkRs_length (rows := rs)]
theorem mkR_length : ∀ {r : List Cell} {k : Int}, (mkR k r).length = r.length
  | [], k => by simp [mkR]
  | c :: cs, k => by simp [mkR, mkR_length (r := cs)]
theorem mkRs_get (hi : i < rows.length) : (mkRs k rows)[i]? = some (mkR (k + lvRs (rows.take i)) rows[i]) := by
  induction rows generalizing i k with
  | nil => simp at hi
  | cons r rs ih =>
    cases i with
    | zero => simp [mkRs, lvRs]
    | succ i =>
      have := ih (i := i) (k := k + lvR r) (by simpa using hi)
      simp only [mkRs, List.getElem?_cons_succ, this, lvRs, List.take_succ_cons, List.getElem_cons_succ]
      congr 2
      push_cast
      omega
/-- rows marked up to the i-th -/
def mkTo (k : Int) (rows : List (List Cell)) (i : Nat) : List (List Cell) := mkRs k (rows.take i) ++ rows.drop i
theorem mkTo_zero : mkTo k rows 0 = rows := by simp [mkTo, mkRs]
theorem mkTo_all (h : rows.length ≤ i) : mkTo k rows i = mkRs k rows := by simp [mkTo, List.take_of_length_le h, List.drop_eq_nil_of_le h]
theorem mkTo_length : (mkTo k rows i).length = rows.length := by simp [mkTo, mkRs_length]; omega
theorem mkTo_at (hi : i < rows.length) : (mkTo k rows i)[i]? = some rows[i] := by
  unfold mkTo
  rw [List.getElem?_append_right (by simp [mkRs_length]; omega)]
  simp [mkRs_length, Nat.min_eq_left (Nat.le_of_lt hi), hi]
theorem mkTo_set (hi : i < rows.length) : (mkTo k rows i).set i (mkR (k + lvRs (rows.take i)) rows[i]) = mkTo k rows (i + 1) := by
  apply List.ext_getElem?
  intro j
  rw [List.getElem?_set]
  split
  · rename_i e
    subst e
    simp only [mkTo_length, hi, if_true]
    unfold mkTo
    rw [List.getElem?_append_left (by simp [mkRs_length]; omega), mkRs_get (by simp; omega)]
    simp [List.take_take, Nat.min_eq_left (Nat.le_succ i)]
  · rename_i e
    unfold mkTo
    by_cases hj : j < i
    · rw [List.getElem?_append_left (by simp [mkRs_length]; omega), List.getElem?_append_left (by simp [mkRs_length]; omega), mkRs_get (by simp; omega), mkRs_get (by simp; omega)]
      simp [List.take_take, Nat.min_eq_left (Nat.le_of_lt hj), Nat.min_eq_left (Nat.le_of_lt (Nat.lt_succ_of_lt hj))]
    · rw [List.getElem?_append_right (by simp [mkRs_length]; omega), List.getElem?_append_right (by simp [mkRs_length]; omega)]
      simp only [mkRs_length, List.length_take, List.getElem?_drop]
      rw [Nat.min_eq_left (Nat.le_of_lt hi), Nat.min_eq_left (by omega)]
      congr 1; omega
/-- rows filled in up to the i-th -/
def upTo (z : List Cell) (rows : List (List Cell)) (i : Nat) : List (List Cell) := rows.take i ++ List.replicate (rows.length - i) z
theorem upTo_zero : upTo r rows 0 = List.replicate rows.length r := by simp [upTo]
theorem upTo_all (h : rows.length ≤ i) : upTo r rows i = rows := by simp [upTo, List.take_of_length_le h, Nat.sub_eq_zero_of_le h]
theorem upTo_length : (upTo r rows i).length = rows.length := by simp [upTo]; omega
theorem upTo_at (hi : i < rows.length) : (upTo r rows i)[i]? = some r := by
  unfold upTo
  rw [List.getElem?_append_right (by simp; omega)]
  simp only [List.length_take, Nat.min_eq_left (Nat.le_of_lt hi), Nat.sub_self, List.getElem?_replicate]
  rw [if_pos (by omega)]
theorem upTo_set (hi : i < rows.length) : (upTo r rows i).set i rows[i] = upTo r rows (i + 1) := by
  apply List.ext_getElem?
  intro j
  rw [List.getElem?_set]
  split
  · rename_i e
    subst e
    simp only [upTo_length, hi, if_true]
    unfold upTo
    rw [List.getElem?_append_left (by simp; omega)]
    simp [hi]
  · rename_i e
    unfold upTo
    by_cases hj : j < i
    · rw [List.getElem?_append_left (by simp; omega), List.getElem?_append_left (by simp; omega)]
      simp [List.getElem?_take, hj, Nat.lt_succ_of_lt hj]
    · rw [List.getElem?_append_right (by simp; omega), List.getElem?_append_right (by simp; omega)]
      simp only [List.length_take, List.getElem?_replicate]
      have e1 : min i rows.length = i := Nat.min_eq_left (Nat.le_of_lt hi)
      have e2 : min (i + 1) rows.length = i + 1 := Nat.min_eq_left hi
      rw [e1, e2]
      by_cases hj2 : j - i < rows.length - i
      · rw [if_pos hj2, if_pos (by omega)]
      · rw [if_neg hj2, if_neg (by omega)]
theorem CleanRows_upTo {K : Cell → Prop} (h1 : CleanRows K rows) (h2 : cells1 K r) : CleanRows K (upTo r rows i) ↔ True := by
  simp only [iff_true]
  unfold upTo
  rw [CleanRows_append]
  exact ⟨fun x hx => h1 x (List.mem_of_mem_take hx), (CleanRows_replicate h2).2 trivial⟩
end
/-- rows that hold no reference at all -/
def Pure (rows : List (List Cell)) : Prop := ∀ K, CleanRows K rows
theorem Pure.of {rows : List (List Cell)} (h : ∀ r ∈ rows, ∀ K, cells1 K r) : Pure rows := fun K r hr => h r hr K

/-- a cell c' that stands for c: its array is meant by name -/
def RefC (H : HH) : Cell → Cell → Prop
  | .own z els, c' => ∃ r q, c' = .sl r q z 0 els.length ∧ arrAt H r q = some (z, els)
  | c, c' => c' = c
def Refs (H : HH) : List Cell → List Cell → Prop
  | [], [] => True
  | c :: cs, c' :: cs' => RefC H c c' ∧ Refs H cs cs'
  | _, _ => False
theorem Refs_at {H : HH} {r : Nm} {q : Path} {z i : Nat} {rows : List (List Cell)} {row : List Cell} (ha : arrAt H r q = some (z, rows)) (hi : rows[i]? = some row) :
    ∀ {seg : List Cell} {f : Nat}, (∀ j c, seg[j]? = some c → row[f + j]? = some c) → (∀ c ∈ seg, isRef c = false) → Refs H seg (ldcs r q i f seg)
  | [], f, h, hr => by simp [ldcs, Refs]
  | c :: cs, f, h, hr => by
    have h0 := h 0 c rfl
    simp only [ldcs, Refs]
    refine ⟨?_, Refs_at ha hi (fun j c' hj => by have := h (j + 1) c' (by simpa using hj); rw [show f + 1 + j = f + (j + 1) by omega]; exact this) (fun c' hc => hr c' (by simp [hc]))⟩
    cases c with
    | own z' els => exact ⟨r, q ++ [(i, f)], rfl, arrAt_sub ha hi (by simpa using h0)⟩
    | _ => simp [RefC, ldc]
def szV (n : Nat) (left : Int) : Int := if (n : Int) ≤ left then left - n else -1
theorem szV_pos {n : Nat} {left : Int} (h : (n : Int) ≤ left) : szV n left = left - n := by simp [szV, h]
theorem szV_neg {n : Nat} {left : Int} (h : ¬ (n : Int) ≤ left) : szV n left = -1 := by simp [szV, h]
abbrev I (n : Int) : T := .c (.v (.int .i64 n))
abbrev B (b : Bool) : T := .c (.v (.bool b))
def okI64 (r : List Cell) : Prop := ∃ n, r = [.v (.int .i64 n)]
def okU8 (r : List Cell) : Prop := ∃ n, r = [.v (.int .u8 n)]
def okBool (r : List Cell) : Prop := ∃ n, r = [.v (.bool n)]
end Go.Px

namespace Go.Px
set_option linter.unnecessarySimpa false
set_option linter.unusedVariables false
set_option linter.unusedSimpArgs false
mutual
theorem mkC_clean {K : Cell → Prop} : ∀ {c : Cell} {k : Int}, Clean K c → Clean K (mkC k c)
  | .own z els, k, h => by rw [mkC_own, Clean_ownR]; exact mkRs_clean (Clean_ownR.1 h)
  | .v x, k, h => by rw [mkC_v]; exact Clean.v
  | .sl .., k, h => by simpa [mkC] using h
  | .pt .., k, h => by simpa [mkC] using h
  | .fn .., k, h => by simpa [mkC] using h
  | .x, k, h => by simpa [mkC] using h
theorem mkR_clean {K : Cell → Prop} : ∀ {r : List Cell} {k : Int}, cells1 K r → cells1 K (mkR k r)
  | [], k, h => by rw [mkR_nil]; exact h
  | c :: cs, k, h => by
    rw [mkR_cons]
    rw [cells1_cons] at h ⊢
    exact ⟨mkC_clean h.1, mkR_clean h.2⟩
theorem mkRs_clean {K : Cell → Prop} : ∀ {rs : List (List Cell)} {k : Int}, CleanRows K rs → CleanRows K (mkRs k rs)
  | [], k, h => by simp only [mkRs]; exact h
  | r :: rs, k, h => by
    simp only [mkRs]
    rw [CleanRows_cons] at h ⊢
    exact ⟨mkR_clean h.1, mkRs_clean h.2⟩
end
theorem cells1_append {K : Cell → Prop} {a b : List Cell} : cells1 K (a ++ b) ↔ cells1 K a ∧ cells1 K b := by
  simp only [cells1, List.mem_append]
  exact ⟨fun h => ⟨fun c hc => h c (.inl hc), fun c hc => h c (.inr hc)⟩, fun h c hc => hc.elim (h.1 c) (h.2 c)⟩
section
variable {H : HH} {r : Nm} {q : Path} {z i f : Nat} {rows : List (List Cell)} {row : List Cell} {c c0 : Cell} {K : Cell → Prop}
theorem setA_sub (ha : arrAt H r q = some (z, rows)) (hi : rows[i]? = some row) (hf : row[f]? = some c0) : setA H r (q ++ [(i, f)]) c = setA H r q (.own z (rows.set i (row.set f c))) := by
  obtain ⟨co, h1, h2⟩ := arrAt_iff.1 ha
  unfold setA
  rw [h1]
  simp only [set_append h2]
  simp [Cell.set, hi, hf]
theorem CleanH_arr (h : CleanH K H) (ha : arrAt H r q = some (z, rows)) : Clean K (.own z rows) := by
  obtain ⟨co, h1, h2⟩ := arrAt_iff.1 ha
  exact (h _ (look_mem h1)).at h2
variable {l cs : List Cell} {x : Value} {els : List (List Cell)}
theorem Refs_nil : Refs H [] cs ↔ cs = [] := by cases cs <;> simp [Refs]
theorem Refs_v : Refs H (.v x :: l) cs ↔ ∃ cs', cs = .v x :: cs' ∧ Refs H l cs' := by
  cases cs with
  | nil => simp [Refs]
  | cons a cs => simp only [Refs, RefC, List.cons.injEq]; constructor
                 · rintro ⟨rfl, h⟩; exact ⟨cs, ⟨rfl, rfl⟩, h⟩
                 · rintro ⟨_, ⟨rfl, rfl⟩, h⟩; exact ⟨rfl, h⟩
theorem Refs_own : Refs H (.own z els :: l) cs ↔ ∃ r q cs', cs = .sl r q z 0 els.length :: cs' ∧ arrAt H r q = some (z, els) ∧ Refs H l cs' := by
  cases cs with
  | nil => simp [Refs]
  | cons a cs => simp only [Refs, RefC, List.cons.injEq]; constructor
                 · rintro ⟨⟨r, q, rfl, h1⟩, h⟩; exact ⟨r, q, cs, ⟨rfl, rfl⟩, h1, h⟩
                 · rintro ⟨r, q, _, ⟨rfl, rfl⟩, h1, h⟩; exact ⟨⟨r, q, rfl, h1⟩, h⟩
theorem okU8_pure {x : List Cell} (h : okU8 x) : ∀ K, cells1 K x := by obtain ⟨n, rfl⟩ := h; intro K; simp [Clean.v]
theorem okI64_pure {x : List Cell} (h : okI64 x) : ∀ K, cells1 K x := by obtain ⟨n, rfl⟩ := h; intro K; simp [Clean.v]
theorem okBool_pure {x : List Cell} (h : okBool x) : ∀ K, cells1 K x := by obtain ⟨n, rfl⟩ := h; intro K; simp [Clean.v]
theorem okU8_cnt {x : List Cell} (h : okU8 x) : cntR x = 0 := by obtain ⟨n, rfl⟩ := h; simp [cntR_cons, cntC_v, cntR_nil]
theorem okI64_cnt {x : List Cell} (h : okI64 x) : cntR x = 0 := by obtain ⟨n, rfl⟩ := h; simp [cntR_cons, cntC_v, cntR_nil]
theorem okBool_cnt {x : List Cell} (h : okBool x) : cntR x = 0 := by obtain ⟨n, rfl⟩ := h; simp [cntR_cons, cntC_v, cntR_nil]
theorem okU8_lv {x : List Cell} (h : okU8 x) : lvR x = 1 := by obtain ⟨n, rfl⟩ := h; simp [lvR_cons, lvC_v, lvR_nil]
theorem okI64_lv {x : List Cell} (h : okI64 x) : lvR x = 1 := by obtain ⟨n, rfl⟩ := h; simp [lvR_cons, lvC_v, lvR_nil]
theorem okBool_lv {x : List Cell} (h : okBool x) : lvR x = 1 := by obtain ⟨n, rfl⟩ := h; simp [lvR_cons, lvC_v, lvR_nil]
theorem CopyTo_rows {t : List (Nat × T)} {lg : List (Nm × Path)} {KP : St → Prop} : ∀ {cs : List Cell} {p : Nat} {H : HH} {rows : List (List Cell)}, arrAt H r q = some (1, rows) → (∀ row ∈ rows, ∃ c, row = [c] ∧ isOwn c = false) → (∀ c ∈ cs, isOwn c = false) → p + cs.length ≤ rows.length →
    KP ⟨t, setA H r q (.own 1 (rows.take p ++ cs.map (fun c => [c]) ++ rows.drop (p + cs.length))), lg⟩ → CopyTo r q p cs ⟨t, H, lg⟩ KP
  | [], p, H, rows, ha, hr, hc, hp, hk => by
    simp only [List.map_nil, List.append_nil, List.length_nil, Nat.add_zero, List.take_append_drop] at hk
    rw [setA_self ha] at hk
    exact hk
  | c :: cs, p, H, rows, ha, hr, hc, hp, hk => by
    simp only [List.length_cons] at hp
    have hlt : p < rows.length := by omega
    obtain ⟨c0, h1, h2⟩ := hr _ (List.getElem_mem hlt)
    simp only [CopyTo, ha, List.getElem?_eq_getElem hlt, h1]
    refine ⟨h2, CopyTo_rows (arrAt_setA ha) (fun row hrow => ?_) (fun c hc' => hc c (by simp [hc'])) (by simp; omega) ?_⟩
    · rcases List.mem_or_eq_of_mem_set hrow with h | rfl
      · exact hr row h
      · exact ⟨c, rfl, hc c (by simp)⟩
    · rw [setA_setA ha]
      have e : (rows.set p [c]).take (p + 1) ++ cs.map (fun c => [c]) ++ (rows.set p [c]).drop (p + 1 + cs.length) = rows.take p ++ (c :: cs).map (fun c => [c]) ++ rows.drop (p + (c :: cs).length) := by
        have e1 : (rows.set p [c]).take (p + 1) = rows.take p ++ [[c]] := by
          rw [List.take_set, List.take_succ_eq_append_getElem hlt, List.set_append_right _ _ (by simp; omega)]
          simp [Nat.min_eq_left (Nat.le_of_lt hlt)]
        rw [List.drop_set_of_lt (by omega), e1, show p + (c :: cs).length = p + 1 + cs.length by simp; omega]
        simp
      rw [e]; exact hk
theorem ix_of {α : Type} {l : List α} {i : Nat} {a : α} (h : l[i]? = some a) : ∀ h' : i < l.length, l[i] = a := fun h' => by
  rw [List.getElem?_eq_getElem h'] at h; exact Option.some.inj h
theorem set_at {α : Type} {l : List α} {i : Nat} {a : α} (h : l[i]? = some a) : l.set i a = l := by
  obtain ⟨h1, rfl⟩ := List.getElem?_eq_some_iff.1 h
  simp
end
end Go.Px

/- What the evaluator of trees asks of the types; each by the kernel. Written by a program of this session. -/
namespace Go.Proofs.Ytnlbjfdmjlnlgaa.Ty
open Go Go.Px Go.Proofs

theorem tok2 : tok Try.prog 2 = true := by kernel_rfl
theorem tsz2 : tsz Try.prog 2 = 1 := by kernel_rfl
theorem tagg2 : tagg Try.prog 2 = false := by kernel_rfl
theorem tinfo2 : tinfo Try.prog 2 = some (1, 8) := by kernel_rfl
theorem tzc2 : tzc Try.prog 2 = some [.v (.int .i64 0)] := by kernel_rfl
theorem tzs2 : tzs Try.prog 2 = [0] := by kernel_rfl
theorem tund2 : Try.prog.underlying 2 = some (.int .i64) := by kernel_rfl
theorem tok3 : tok Try.prog 3 = true := by kernel_rfl
theorem tsz3 : tsz Try.prog 3 = 1 := by kernel_rfl
theorem tagg3 : tagg Try.prog 3 = false := by kernel_rfl
theorem tinfo3 : tinfo Try.prog 3 = some (1, 8) := by kernel_rfl
theorem tzc3 : tzc Try.prog 3 = some [.v (.int .i64 0)] := by kernel_rfl
theorem tzs3 : tzs Try.prog 3 = [0] := by kernel_rfl
theorem tund3 : Try.prog.underlying 3 = some (.int .i64) := by kernel_rfl
theorem tok4 : tok Try.prog 4 = true := by kernel_rfl
theorem tsz4 : tsz Try.prog 4 = 1 := by kernel_rfl
theorem tagg4 : tagg Try.prog 4 = false := by kernel_rfl
theorem tinfo4 : tinfo Try.prog 4 = some (1, 1) := by kernel_rfl
theorem tzc4 : tzc Try.prog 4 = some [.v (.bool false)] := by kernel_rfl
theorem tzs4 : tzs Try.prog 4 = [0] := by kernel_rfl
theorem tund4 : Try.prog.underlying 4 = some .bool := by kernel_rfl
theorem tok5 : tok Try.prog 5 = true := by kernel_rfl
theorem tsz5 : tsz Try.prog 5 = 1 := by kernel_rfl
theorem tagg5 : tagg Try.prog 5 = false := by kernel_rfl
theorem tinfo5 : tinfo Try.prog 5 = some (1, 1) := by kernel_rfl
theorem tzc5 : tzc Try.prog 5 = some [.v (.int .u8 0)] := by kernel_rfl
theorem tzs5 : tzs Try.prog 5 = [0] := by kernel_rfl
theorem tund5 : Try.prog.underlying 5 = some (.int .u8) := by kernel_rfl
theorem tok6 : tok Try.prog 6 = true := by kernel_rfl
theorem tsz6 : tsz Try.prog 6 = 1 := by kernel_rfl
theorem tagg6 : tagg Try.prog 6 = false := by kernel_rfl
theorem tinfo6 : tinfo Try.prog 6 = some (1, 1) := by kernel_rfl
theorem tzc6 : tzc Try.prog 6 = some [.v (.int .u8 0)] := by kernel_rfl
theorem tzs6 : tzs Try.prog 6 = [0] := by kernel_rfl
theorem tund6 : Try.prog.underlying 6 = some (.int .u8) := by kernel_rfl
theorem tok22 : tok Try.prog 22 = true := by kernel_rfl
theorem tsz22 : tsz Try.prog 22 = 1 := by kernel_rfl
theorem tagg22 : tagg Try.prog 22 = false := by kernel_rfl
theorem tinfo22 : tinfo Try.prog 22 = some (1, 24) := by kernel_rfl
theorem tzc22 : tzc Try.prog 22 = some [.own 5 []] := by kernel_rfl
theorem tzs22 : tzs Try.prog 22 = [5] := by kernel_rfl
theorem tel22 : tel Try.prog 22 = some 82 := by kernel_rfl
theorem tok23 : tok Try.prog 23 = true := by kernel_rfl
theorem tsz23 : tsz Try.prog 23 = 1 := by kernel_rfl
theorem tagg23 : tagg Try.prog 23 = false := by kernel_rfl
theorem tinfo23 : tinfo Try.prog 23 = some (1, 24) := by kernel_rfl
theorem tzc23 : tzc Try.prog 23 = some [.own 2 []] := by kernel_rfl
theorem tzs23 : tzs Try.prog 23 = [2] := by kernel_rfl
theorem tel23 : tel Try.prog 23 = some 86 := by kernel_rfl
theorem tok24 : tok Try.prog 24 = true := by kernel_rfl
theorem tsz24 : tsz Try.prog 24 = 4 := by kernel_rfl
theorem tagg24 : tagg Try.prog 24 = true := by kernel_rfl
theorem tinfo24 : tinfo Try.prog 24 = some (4, 64) := by kernel_rfl
theorem tzc24 : tzc Try.prog 24 = some [.v (.int .i64 0), .v (.int .i64 0), .own 5 [], .own 2 []] := by kernel_rfl
theorem tzs24 : tzs Try.prog 24 = [0, 0, 5, 2] := by kernel_rfl
theorem tf24_0 : tfield Try.prog 24 0 = some (0, 2) := by kernel_rfl
theorem tf24_1 : tfield Try.prog 24 1 = some (1, 2) := by kernel_rfl
theorem tf24_2 : tfield Try.prog 24 2 = some (2, 22) := by kernel_rfl
theorem tf24_3 : tfield Try.prog 24 3 = some (3, 23) := by kernel_rfl
theorem tpl24 : tplaces Try.prog 24 = some [(0, 1), (1, 1), (2, 1), (3, 1)] := by kernel_rfl
theorem tok25 : tok Try.prog 25 = true := by kernel_rfl
theorem tsz25 : tsz Try.prog 25 = 4 := by kernel_rfl
theorem tagg25 : tagg Try.prog 25 = true := by kernel_rfl
theorem tinfo25 : tinfo Try.prog 25 = some (4, 64) := by kernel_rfl
theorem tzc25 : tzc Try.prog 25 = some [.v (.int .i64 0), .v (.int .i64 0), .own 5 [], .own 2 []] := by kernel_rfl
theorem tzs25 : tzs Try.prog 25 = [0, 0, 5, 2] := by kernel_rfl
theorem tf25_0 : tfield Try.prog 25 0 = some (0, 2) := by kernel_rfl
theorem tf25_1 : tfield Try.prog 25 1 = some (1, 2) := by kernel_rfl
theorem tf25_2 : tfield Try.prog 25 2 = some (2, 22) := by kernel_rfl
theorem tf25_3 : tfield Try.prog 25 3 = some (3, 23) := by kernel_rfl
theorem tpl25 : tplaces Try.prog 25 = some [(0, 1), (1, 1), (2, 1), (3, 1)] := by kernel_rfl
theorem tok27 : tok Try.prog 27 = true := by kernel_rfl
theorem tsz27 : tsz Try.prog 27 = 1 := by kernel_rfl
theorem tagg27 : tagg Try.prog 27 = false := by kernel_rfl
theorem tinfo27 : tinfo Try.prog 27 = some (1, 24) := by kernel_rfl
theorem tzc27 : tzc Try.prog 27 = some [.own 5 []] := by kernel_rfl
theorem tzs27 : tzs Try.prog 27 = [5] := by kernel_rfl
theorem tel27 : tel Try.prog 27 = some 54 := by kernel_rfl
theorem tok28 : tok Try.prog 28 = true := by kernel_rfl
theorem tsz28 : tsz Try.prog 28 = 1 := by kernel_rfl
theorem tagg28 : tagg Try.prog 28 = false := by kernel_rfl
theorem tinfo28 : tinfo Try.prog 28 = some (1, 24) := by kernel_rfl
theorem tzc28 : tzc Try.prog 28 = some [.own 2 []] := by kernel_rfl
theorem tzs28 : tzs Try.prog 28 = [2] := by kernel_rfl
theorem tel28 : tel Try.prog 28 = some 69 := by kernel_rfl
theorem tok29 : tok Try.prog 29 = true := by kernel_rfl
theorem tsz29 : tsz Try.prog 29 = 4 := by kernel_rfl
theorem tagg29 : tagg Try.prog 29 = true := by kernel_rfl
theorem tinfo29 : tinfo Try.prog 29 = some (4, 64) := by kernel_rfl
theorem tzc29 : tzc Try.prog 29 = some [.v (.int .i64 0), .v (.int .i64 0), .own 5 [], .own 2 []] := by kernel_rfl
theorem tzs29 : tzs Try.prog 29 = [0, 0, 5, 2] := by kernel_rfl
theorem tf29_0 : tfield Try.prog 29 0 = some (0, 2) := by kernel_rfl
theorem tf29_1 : tfield Try.prog 29 1 = some (1, 2) := by kernel_rfl
theorem tf29_2 : tfield Try.prog 29 2 = some (2, 27) := by kernel_rfl
theorem tf29_3 : tfield Try.prog 29 3 = some (3, 28) := by kernel_rfl
theorem tpl29 : tplaces Try.prog 29 = some [(0, 1), (1, 1), (2, 1), (3, 1)] := by kernel_rfl
theorem tok30 : tok Try.prog 30 = true := by kernel_rfl
theorem tsz30 : tsz Try.prog 30 = 4 := by kernel_rfl
theorem tagg30 : tagg Try.prog 30 = true := by kernel_rfl
theorem tinfo30 : tinfo Try.prog 30 = some (4, 64) := by kernel_rfl
theorem tzc30 : tzc Try.prog 30 = some [.v (.int .i64 0), .v (.int .i64 0), .own 5 [], .own 2 []] := by kernel_rfl
theorem tzs30 : tzs Try.prog 30 = [0, 0, 5, 2] := by kernel_rfl
theorem tf30_0 : tfield Try.prog 30 0 = some (0, 2) := by kernel_rfl
theorem tf30_1 : tfield Try.prog 30 1 = some (1, 2) := by kernel_rfl
theorem tf30_2 : tfield Try.prog 30 2 = some (2, 27) := by kernel_rfl
theorem tf30_3 : tfield Try.prog 30 3 = some (3, 28) := by kernel_rfl
theorem tpl30 : tplaces Try.prog 30 = some [(0, 1), (1, 1), (2, 1), (3, 1)] := by kernel_rfl
theorem tok31 : tok Try.prog 31 = true := by kernel_rfl
theorem tsz31 : tsz Try.prog 31 = 6 := by kernel_rfl
theorem tagg31 : tagg Try.prog 31 = true := by kernel_rfl
theorem tinfo31 : tinfo Try.prog 31 = some (6, 80) := by kernel_rfl
theorem tzc31 : tzc Try.prog 31 = some [.v (.int .i64 0), .v (.int .i64 0), .v (.int .i64 0), .v (.int .i64 0), .own 5 [], .own 2 []] := by kernel_rfl
theorem tzs31 : tzs Try.prog 31 = [0, 0, 0, 0, 5, 2] := by kernel_rfl
theorem tf31_0 : tfield Try.prog 31 0 = some (0, 2) := by kernel_rfl
theorem tf31_1 : tfield Try.prog 31 1 = some (1, 2) := by kernel_rfl
theorem tf31_2 : tfield Try.prog 31 2 = some (2, 30) := by kernel_rfl
theorem tpl31 : tplaces Try.prog 31 = some [(0, 1), (1, 1), (2, 4)] := by kernel_rfl
theorem tok32 : tok Try.prog 32 = true := by kernel_rfl
theorem tsz32 : tsz Try.prog 32 = 6 := by kernel_rfl
theorem tagg32 : tagg Try.prog 32 = true := by kernel_rfl
theorem tinfo32 : tinfo Try.prog 32 = some (6, 80) := by kernel_rfl
theorem tzc32 : tzc Try.prog 32 = some [.v (.int .i64 0), .v (.int .i64 0), .v (.int .i64 0), .v (.int .i64 0), .own 5 [], .own 2 []] := by kernel_rfl
theorem tzs32 : tzs Try.prog 32 = [0, 0, 0, 0, 5, 2] := by kernel_rfl
theorem tf32_0 : tfield Try.prog 32 0 = some (0, 2) := by kernel_rfl
theorem tf32_1 : tfield Try.prog 32 1 = some (1, 2) := by kernel_rfl
theorem tf32_2 : tfield Try.prog 32 2 = some (2, 30) := by kernel_rfl
theorem tpl32 : tplaces Try.prog 32 = some [(0, 1), (1, 1), (2, 4)] := by kernel_rfl
theorem tok42 : tok Try.prog 42 = true := by kernel_rfl
theorem tsz42 : tsz Try.prog 42 = 4 := by kernel_rfl
theorem tagg42 : tagg Try.prog 42 = true := by kernel_rfl
theorem tinfo42 : tinfo Try.prog 42 = some (4, 32) := by kernel_rfl
theorem tzc42 : tzc Try.prog 42 = some [.v (.int .i64 0), .v (.int .i64 0), .v (.int .i64 0), .v (.int .i64 0)] := by kernel_rfl
theorem tzs42 : tzs Try.prog 42 = [0, 0, 0, 0] := by kernel_rfl
theorem tf42_0 : tfield Try.prog 42 0 = some (0, 2) := by kernel_rfl
theorem tf42_1 : tfield Try.prog 42 1 = some (1, 2) := by kernel_rfl
theorem tf42_2 : tfield Try.prog 42 2 = some (2, 2) := by kernel_rfl
theorem tf42_3 : tfield Try.prog 42 3 = some (3, 2) := by kernel_rfl
theorem tpl42 : tplaces Try.prog 42 = some [(0, 1), (1, 1), (2, 1), (3, 1)] := by kernel_rfl
theorem tok43 : tok Try.prog 43 = true := by kernel_rfl
theorem tsz43 : tsz Try.prog 43 = 4 := by kernel_rfl
theorem tagg43 : tagg Try.prog 43 = true := by kernel_rfl
theorem tinfo43 : tinfo Try.prog 43 = some (4, 32) := by kernel_rfl
theorem tzc43 : tzc Try.prog 43 = some [.v (.int .i64 0), .v (.int .i64 0), .v (.int .i64 0), .v (.int .i64 0)] := by kernel_rfl
theorem tzs43 : tzs Try.prog 43 = [0, 0, 0, 0] := by kernel_rfl
theorem tf43_0 : tfield Try.prog 43 0 = some (0, 2) := by kernel_rfl
theorem tf43_1 : tfield Try.prog 43 1 = some (1, 2) := by kernel_rfl
theorem tf43_2 : tfield Try.prog 43 2 = some (2, 2) := by kernel_rfl
theorem tf43_3 : tfield Try.prog 43 3 = some (3, 2) := by kernel_rfl
theorem tpl43 : tplaces Try.prog 43 = some [(0, 1), (1, 1), (2, 1), (3, 1)] := by kernel_rfl
theorem tok49 : tok Try.prog 49 = true := by kernel_rfl
theorem tsz49 : tsz Try.prog 49 = 1 := by kernel_rfl
theorem tagg49 : tagg Try.prog 49 = false := by kernel_rfl
theorem tinfo49 : tinfo Try.prog 49 = some (1, 8) := by kernel_rfl
theorem tzc49 : tzc Try.prog 49 = some [.v (.pointer none)] := by kernel_rfl
theorem tzs49 : tzs Try.prog 49 = [0] := by kernel_rfl
theorem tok52 : tok Try.prog 52 = true := by kernel_rfl
theorem tsz52 : tsz Try.prog 52 = 1 := by kernel_rfl
theorem tagg52 : tagg Try.prog 52 = false := by kernel_rfl
theorem tinfo52 : tinfo Try.prog 52 = some (1, 24) := by kernel_rfl
theorem tzc52 : tzc Try.prog 52 = some [.own 4 []] := by kernel_rfl
theorem tzs52 : tzs Try.prog 52 = [4] := by kernel_rfl
theorem tel52 : tel Try.prog 52 = some 107 := by kernel_rfl
theorem tok53 : tok Try.prog 53 = true := by kernel_rfl
theorem tsz53 : tsz Try.prog 53 = 5 := by kernel_rfl
theorem tagg53 : tagg Try.prog 53 = true := by kernel_rfl
theorem tinfo53 : tinfo Try.prog 53 = some (5, 56) := by kernel_rfl
theorem tzc53 : tzc Try.prog 53 = some [.v (.int .i64 0), .v (.int .i64 0), .v (.int .i64 0), .v (.int .i64 0), .own 4 []] := by kernel_rfl
theorem tzs53 : tzs Try.prog 53 = [0, 0, 0, 0, 4] := by kernel_rfl
theorem tf53_0 : tfield Try.prog 53 0 = some (0, 2) := by kernel_rfl
theorem tf53_1 : tfield Try.prog 53 1 = some (1, 2) := by kernel_rfl
theorem tf53_2 : tfield Try.prog 53 2 = some (2, 2) := by kernel_rfl
theorem tf53_3 : tfield Try.prog 53 3 = some (3, 2) := by kernel_rfl
theorem tf53_4 : tfield Try.prog 53 4 = some (4, 52) := by kernel_rfl
theorem tpl53 : tplaces Try.prog 53 = some [(0, 1), (1, 1), (2, 1), (3, 1), (4, 1)] := by kernel_rfl
theorem tok54 : tok Try.prog 54 = true := by kernel_rfl
theorem tsz54 : tsz Try.prog 54 = 5 := by kernel_rfl
theorem tagg54 : tagg Try.prog 54 = true := by kernel_rfl
theorem tinfo54 : tinfo Try.prog 54 = some (5, 56) := by kernel_rfl
theorem tzc54 : tzc Try.prog 54 = some [.v (.int .i64 0), .v (.int .i64 0), .v (.int .i64 0), .v (.int .i64 0), .own 4 []] := by kernel_rfl
theorem tzs54 : tzs Try.prog 54 = [0, 0, 0, 0, 4] := by kernel_rfl
theorem tf54_0 : tfield Try.prog 54 0 = some (0, 2) := by kernel_rfl
theorem tf54_1 : tfield Try.prog 54 1 = some (1, 2) := by kernel_rfl
theorem tf54_2 : tfield Try.prog 54 2 = some (2, 2) := by kernel_rfl
theorem tf54_3 : tfield Try.prog 54 3 = some (3, 2) := by kernel_rfl
theorem tf54_4 : tfield Try.prog 54 4 = some (4, 52) := by kernel_rfl
theorem tpl54 : tplaces Try.prog 54 = some [(0, 1), (1, 1), (2, 1), (3, 1), (4, 1)] := by kernel_rfl
theorem tok65 : tok Try.prog 65 = true := by kernel_rfl
theorem tsz65 : tsz Try.prog 65 = 1 := by kernel_rfl
theorem tagg65 : tagg Try.prog 65 = false := by kernel_rfl
theorem tinfo65 : tinfo Try.prog 65 = some (1, 8) := by kernel_rfl
theorem tzc65 : tzc Try.prog 65 = some [.v (.pointer none)] := by kernel_rfl
theorem tzs65 : tzs Try.prog 65 = [0] := by kernel_rfl
theorem tok67 : tok Try.prog 67 = true := by kernel_rfl
theorem tsz67 : tsz Try.prog 67 = 1 := by kernel_rfl
theorem tagg67 : tagg Try.prog 67 = false := by kernel_rfl
theorem tinfo67 : tinfo Try.prog 67 = some (1, 24) := by kernel_rfl
theorem tzc67 : tzc Try.prog 67 = some [.own 4 []] := by kernel_rfl
theorem tzs67 : tzs Try.prog 67 = [4] := by kernel_rfl
theorem tel67 : tel Try.prog 67 = some 71 := by kernel_rfl
theorem tok68 : tok Try.prog 68 = true := by kernel_rfl
theorem tsz68 : tsz Try.prog 68 = 2 := by kernel_rfl
theorem tagg68 : tagg Try.prog 68 = true := by kernel_rfl
theorem tinfo68 : tinfo Try.prog 68 = some (2, 32) := by kernel_rfl
theorem tzc68 : tzc Try.prog 68 = some [.v (.int .i64 0), .own 4 []] := by kernel_rfl
theorem tzs68 : tzs Try.prog 68 = [0, 4] := by kernel_rfl
theorem tf68_0 : tfield Try.prog 68 0 = some (0, 2) := by kernel_rfl
theorem tf68_1 : tfield Try.prog 68 1 = some (1, 67) := by kernel_rfl
theorem tpl68 : tplaces Try.prog 68 = some [(0, 1), (1, 1)] := by kernel_rfl
theorem tok69 : tok Try.prog 69 = true := by kernel_rfl
theorem tsz69 : tsz Try.prog 69 = 2 := by kernel_rfl
theorem tagg69 : tagg Try.prog 69 = true := by kernel_rfl
theorem tinfo69 : tinfo Try.prog 69 = some (2, 32) := by kernel_rfl
theorem tzc69 : tzc Try.prog 69 = some [.v (.int .i64 0), .own 4 []] := by kernel_rfl
theorem tzs69 : tzs Try.prog 69 = [0, 4] := by kernel_rfl
theorem tf69_0 : tfield Try.prog 69 0 = some (0, 2) := by kernel_rfl
theorem tf69_1 : tfield Try.prog 69 1 = some (1, 67) := by kernel_rfl
theorem tpl69 : tplaces Try.prog 69 = some [(0, 1), (1, 1)] := by kernel_rfl
theorem tok70 : tok Try.prog 70 = true := by kernel_rfl
theorem tsz70 : tsz Try.prog 70 = 4 := by kernel_rfl
theorem tagg70 : tagg Try.prog 70 = true := by kernel_rfl
theorem tinfo70 : tinfo Try.prog 70 = some (4, 32) := by kernel_rfl
theorem tzc70 : tzc Try.prog 70 = some [.v (.int .i64 0), .v (.int .i64 0), .v (.bool false), .v (.int .i64 0)] := by kernel_rfl
theorem tzs70 : tzs Try.prog 70 = [0, 0, 0, 0] := by kernel_rfl
theorem tf70_0 : tfield Try.prog 70 0 = some (0, 2) := by kernel_rfl
theorem tf70_1 : tfield Try.prog 70 1 = some (1, 2) := by kernel_rfl
theorem tf70_2 : tfield Try.prog 70 2 = some (2, 4) := by kernel_rfl
theorem tf70_3 : tfield Try.prog 70 3 = some (3, 2) := by kernel_rfl
theorem tpl70 : tplaces Try.prog 70 = some [(0, 1), (1, 1), (2, 1), (3, 1)] := by kernel_rfl
theorem tok71 : tok Try.prog 71 = true := by kernel_rfl
theorem tsz71 : tsz Try.prog 71 = 4 := by kernel_rfl
theorem tagg71 : tagg Try.prog 71 = true := by kernel_rfl
theorem tinfo71 : tinfo Try.prog 71 = some (4, 32) := by kernel_rfl
theorem tzc71 : tzc Try.prog 71 = some [.v (.int .i64 0), .v (.int .i64 0), .v (.bool false), .v (.int .i64 0)] := by kernel_rfl
theorem tzs71 : tzs Try.prog 71 = [0, 0, 0, 0] := by kernel_rfl
theorem tf71_0 : tfield Try.prog 71 0 = some (0, 2) := by kernel_rfl
theorem tf71_1 : tfield Try.prog 71 1 = some (1, 2) := by kernel_rfl
theorem tf71_2 : tfield Try.prog 71 2 = some (2, 4) := by kernel_rfl
theorem tf71_3 : tfield Try.prog 71 3 = some (3, 2) := by kernel_rfl
theorem tpl71 : tplaces Try.prog 71 = some [(0, 1), (1, 1), (2, 1), (3, 1)] := by kernel_rfl
theorem tok80 : tok Try.prog 80 = true := by kernel_rfl
theorem tsz80 : tsz Try.prog 80 = 1 := by kernel_rfl
theorem tagg80 : tagg Try.prog 80 = false := by kernel_rfl
theorem tinfo80 : tinfo Try.prog 80 = some (1, 24) := by kernel_rfl
theorem tzc80 : tzc Try.prog 80 = some [.own 4 []] := by kernel_rfl
theorem tzs80 : tzs Try.prog 80 = [4] := by kernel_rfl
theorem tel80 : tel Try.prog 80 = some 132 := by kernel_rfl
theorem tok81 : tok Try.prog 81 = true := by kernel_rfl
theorem tsz81 : tsz Try.prog 81 = 5 := by kernel_rfl
theorem tagg81 : tagg Try.prog 81 = true := by kernel_rfl
theorem tinfo81 : tinfo Try.prog 81 = some (5, 56) := by kernel_rfl
theorem tzc81 : tzc Try.prog 81 = some [.v (.int .i64 0), .v (.int .i64 0), .v (.int .i64 0), .v (.int .i64 0), .own 4 []] := by kernel_rfl
theorem tzs81 : tzs Try.prog 81 = [0, 0, 0, 0, 4] := by kernel_rfl
theorem tf81_0 : tfield Try.prog 81 0 = some (0, 2) := by kernel_rfl
theorem tf81_1 : tfield Try.prog 81 1 = some (1, 2) := by kernel_rfl
theorem tf81_2 : tfield Try.prog 81 2 = some (2, 2) := by kernel_rfl
theorem tf81_3 : tfield Try.prog 81 3 = some (3, 2) := by kernel_rfl
theorem tf81_4 : tfield Try.prog 81 4 = some (4, 80) := by kernel_rfl
theorem tpl81 : tplaces Try.prog 81 = some [(0, 1), (1, 1), (2, 1), (3, 1), (4, 1)] := by kernel_rfl
theorem tok82 : tok Try.prog 82 = true := by kernel_rfl
theorem tsz82 : tsz Try.prog 82 = 5 := by kernel_rfl
theorem tagg82 : tagg Try.prog 82 = true := by kernel_rfl
theorem tinfo82 : tinfo Try.prog 82 = some (5, 56) := by kernel_rfl
theorem tzc82 : tzc Try.prog 82 = some [.v (.int .i64 0), .v (.int .i64 0), .v (.int .i64 0), .v (.int .i64 0), .own 4 []] := by kernel_rfl
theorem tzs82 : tzs Try.prog 82 = [0, 0, 0, 0, 4] := by kernel_rfl
theorem tf82_0 : tfield Try.prog 82 0 = some (0, 2) := by kernel_rfl
theorem tf82_1 : tfield Try.prog 82 1 = some (1, 2) := by kernel_rfl
theorem tf82_2 : tfield Try.prog 82 2 = some (2, 2) := by kernel_rfl
theorem tf82_3 : tfield Try.prog 82 3 = some (3, 2) := by kernel_rfl
theorem tf82_4 : tfield Try.prog 82 4 = some (4, 80) := by kernel_rfl
theorem tpl82 : tplaces Try.prog 82 = some [(0, 1), (1, 1), (2, 1), (3, 1), (4, 1)] := by kernel_rfl
theorem tok84 : tok Try.prog 84 = true := by kernel_rfl
theorem tsz84 : tsz Try.prog 84 = 1 := by kernel_rfl
theorem tagg84 : tagg Try.prog 84 = false := by kernel_rfl
theorem tinfo84 : tinfo Try.prog 84 = some (1, 24) := by kernel_rfl
theorem tzc84 : tzc Try.prog 84 = some [.own 4 []] := by kernel_rfl
theorem tzs84 : tzs Try.prog 84 = [4] := by kernel_rfl
theorem tel84 : tel Try.prog 84 = some 134 := by kernel_rfl
theorem tok85 : tok Try.prog 85 = true := by kernel_rfl
theorem tsz85 : tsz Try.prog 85 = 2 := by kernel_rfl
theorem tagg85 : tagg Try.prog 85 = true := by kernel_rfl
theorem tinfo85 : tinfo Try.prog 85 = some (2, 32) := by kernel_rfl
theorem tzc85 : tzc Try.prog 85 = some [.v (.int .i64 0), .own 4 []] := by kernel_rfl
theorem tzs85 : tzs Try.prog 85 = [0, 4] := by kernel_rfl
theorem tf85_0 : tfield Try.prog 85 0 = some (0, 2) := by kernel_rfl
theorem tf85_1 : tfield Try.prog 85 1 = some (1, 84) := by kernel_rfl
theorem tpl85 : tplaces Try.prog 85 = some [(0, 1), (1, 1)] := by kernel_rfl
theorem tok86 : tok Try.prog 86 = true := by kernel_rfl
theorem tsz86 : tsz Try.prog 86 = 2 := by kernel_rfl
theorem tagg86 : tagg Try.prog 86 = true := by kernel_rfl
theorem tinfo86 : tinfo Try.prog 86 = some (2, 32) := by kernel_rfl
theorem tzc86 : tzc Try.prog 86 = some [.v (.int .i64 0), .own 4 []] := by kernel_rfl
theorem tzs86 : tzs Try.prog 86 = [0, 4] := by kernel_rfl
theorem tf86_0 : tfield Try.prog 86 0 = some (0, 2) := by kernel_rfl
theorem tf86_1 : tfield Try.prog 86 1 = some (1, 84) := by kernel_rfl
theorem tpl86 : tplaces Try.prog 86 = some [(0, 1), (1, 1)] := by kernel_rfl
theorem tok106 : tok Try.prog 106 = true := by kernel_rfl
theorem tsz106 : tsz Try.prog 106 = 4 := by kernel_rfl
theorem tagg106 : tagg Try.prog 106 = true := by kernel_rfl
theorem tinfo106 : tinfo Try.prog 106 = some (4, 24) := by kernel_rfl
theorem tzc106 : tzc Try.prog 106 = some [.v (.int .i64 0), .v (.bool false), .v (.bool false), .v (.int .i64 0)] := by kernel_rfl
theorem tzs106 : tzs Try.prog 106 = [0, 0, 0, 0] := by kernel_rfl
theorem tf106_0 : tfield Try.prog 106 0 = some (0, 2) := by kernel_rfl
theorem tf106_1 : tfield Try.prog 106 1 = some (1, 4) := by kernel_rfl
theorem tf106_2 : tfield Try.prog 106 2 = some (2, 4) := by kernel_rfl
theorem tf106_3 : tfield Try.prog 106 3 = some (3, 2) := by kernel_rfl
theorem tpl106 : tplaces Try.prog 106 = some [(0, 1), (1, 1), (2, 1), (3, 1)] := by kernel_rfl
theorem tok107 : tok Try.prog 107 = true := by kernel_rfl
theorem tsz107 : tsz Try.prog 107 = 4 := by kernel_rfl
theorem tagg107 : tagg Try.prog 107 = true := by kernel_rfl
theorem tinfo107 : tinfo Try.prog 107 = some (4, 24) := by kernel_rfl
theorem tzc107 : tzc Try.prog 107 = some [.v (.int .i64 0), .v (.bool false), .v (.bool false), .v (.int .i64 0)] := by kernel_rfl
theorem tzs107 : tzs Try.prog 107 = [0, 0, 0, 0] := by kernel_rfl
theorem tf107_0 : tfield Try.prog 107 0 = some (0, 2) := by kernel_rfl
theorem tf107_1 : tfield Try.prog 107 1 = some (1, 4) := by kernel_rfl
theorem tf107_2 : tfield Try.prog 107 2 = some (2, 4) := by kernel_rfl
theorem tf107_3 : tfield Try.prog 107 3 = some (3, 2) := by kernel_rfl
theorem tpl107 : tplaces Try.prog 107 = some [(0, 1), (1, 1), (2, 1), (3, 1)] := by kernel_rfl
theorem tok116 : tok Try.prog 116 = true := by kernel_rfl
theorem tsz116 : tsz Try.prog 116 = 1 := by kernel_rfl
theorem tagg116 : tagg Try.prog 116 = false := by kernel_rfl
theorem tinfo116 : tinfo Try.prog 116 = some (1, 8) := by kernel_rfl
theorem tzc116 : tzc Try.prog 116 = some [.v (.pointer none)] := by kernel_rfl
theorem tzs116 : tzs Try.prog 116 = [0] := by kernel_rfl
theorem tok132 : tok Try.prog 132 = true := by kernel_rfl
theorem tsz132 : tsz Try.prog 132 = 4 := by kernel_rfl
theorem tagg132 : tagg Try.prog 132 = true := by kernel_rfl
theorem tinfo132 : tinfo Try.prog 132 = some (4, 24) := by kernel_rfl
theorem tzc132 : tzc Try.prog 132 = some [.v (.int .i64 0), .v (.bool false), .v (.bool false), .v (.int .i64 0)] := by kernel_rfl
theorem tzs132 : tzs Try.prog 132 = [0, 0, 0, 0] := by kernel_rfl
theorem tf132_0 : tfield Try.prog 132 0 = some (0, 2) := by kernel_rfl
theorem tf132_1 : tfield Try.prog 132 1 = some (1, 4) := by kernel_rfl
theorem tf132_2 : tfield Try.prog 132 2 = some (2, 4) := by kernel_rfl
theorem tf132_3 : tfield Try.prog 132 3 = some (3, 2) := by kernel_rfl
theorem tpl132 : tplaces Try.prog 132 = some [(0, 1), (1, 1), (2, 1), (3, 1)] := by kernel_rfl
theorem tok134 : tok Try.prog 134 = true := by kernel_rfl
theorem tsz134 : tsz Try.prog 134 = 4 := by kernel_rfl
theorem tagg134 : tagg Try.prog 134 = true := by kernel_rfl
theorem tinfo134 : tinfo Try.prog 134 = some (4, 32) := by kernel_rfl
theorem tzc134 : tzc Try.prog 134 = some [.v (.int .i64 0), .v (.int .i64 0), .v (.bool false), .v (.int .i64 0)] := by kernel_rfl
theorem tzs134 : tzs Try.prog 134 = [0, 0, 0, 0] := by kernel_rfl
theorem tf134_0 : tfield Try.prog 134 0 = some (0, 2) := by kernel_rfl
theorem tf134_1 : tfield Try.prog 134 1 = some (1, 2) := by kernel_rfl
theorem tf134_2 : tfield Try.prog 134 2 = some (2, 4) := by kernel_rfl
theorem tf134_3 : tfield Try.prog 134 3 = some (3, 2) := by kernel_rfl
theorem tpl134 : tplaces Try.prog 134 = some [(0, 1), (1, 1), (2, 1), (3, 1)] := by kernel_rfl
theorem tok140 : tok Try.prog 140 = true := by kernel_rfl
theorem tsz140 : tsz Try.prog 140 = 1 := by kernel_rfl
theorem tagg140 : tagg Try.prog 140 = false := by kernel_rfl
theorem tinfo140 : tinfo Try.prog 140 = some (1, 8) := by kernel_rfl
theorem tzc140 : tzc Try.prog 140 = some [.v (.int .u64 0)] := by kernel_rfl
theorem tzs140 : tzs Try.prog 140 = [0] := by kernel_rfl
theorem tund140 : Try.prog.underlying 140 = some (.int .u64) := by kernel_rfl
theorem tok143 : tok Try.prog 143 = true := by kernel_rfl
theorem tsz143 : tsz Try.prog 143 = 4 := by kernel_rfl
theorem tagg143 : tagg Try.prog 143 = true := by kernel_rfl
theorem tinfo143 : tinfo Try.prog 143 = some (4, 40) := by kernel_rfl
theorem tzc143 : tzc Try.prog 143 = some [.v (.pointer none), .v (.pointer none), .v (.pointer none), .v (.string ByteArray.empty)] := by kernel_rfl
theorem tzs143 : tzs Try.prog 143 = [0, 0, 0, 0] := by kernel_rfl
theorem tf143_0 : tfield Try.prog 143 0 = some (0, 17) := by kernel_rfl
theorem tf143_1 : tfield Try.prog 143 1 = some (1, 17) := by kernel_rfl
theorem tf143_2 : tfield Try.prog 143 2 = some (2, 17) := by kernel_rfl
theorem tf143_3 : tfield Try.prog 143 3 = some (3, 9) := by kernel_rfl
theorem tpl143 : tplaces Try.prog 143 = some [(0, 1), (1, 1), (2, 1), (3, 1)] := by kernel_rfl
theorem tok144 : tok Try.prog 144 = true := by kernel_rfl
theorem tsz144 : tsz Try.prog 144 = 4 := by kernel_rfl
theorem tagg144 : tagg Try.prog 144 = true := by kernel_rfl
theorem tinfo144 : tinfo Try.prog 144 = some (4, 40) := by kernel_rfl
theorem tzc144 : tzc Try.prog 144 = some [.v (.pointer none), .v (.pointer none), .v (.pointer none), .v (.string ByteArray.empty)] := by kernel_rfl
theorem tzs144 : tzs Try.prog 144 = [0, 0, 0, 0] := by kernel_rfl
theorem tf144_0 : tfield Try.prog 144 0 = some (0, 17) := by kernel_rfl
theorem tf144_1 : tfield Try.prog 144 1 = some (1, 17) := by kernel_rfl
theorem tf144_2 : tfield Try.prog 144 2 = some (2, 17) := by kernel_rfl
theorem tf144_3 : tfield Try.prog 144 3 = some (3, 9) := by kernel_rfl
theorem tpl144 : tplaces Try.prog 144 = some [(0, 1), (1, 1), (2, 1), (3, 1)] := by kernel_rfl
theorem tok146 : tok Try.prog 146 = true := by kernel_rfl
theorem tsz146 : tsz Try.prog 146 = 0 := by kernel_rfl
theorem tagg146 : tagg Try.prog 146 = true := by kernel_rfl
theorem tinfo146 : tinfo Try.prog 146 = some (0, 0) := by kernel_rfl
theorem tzc146 : tzc Try.prog 146 = some [] := by kernel_rfl
theorem tzs146 : tzs Try.prog 146 = [0] := by kernel_rfl
theorem tf146_0 : tfield Try.prog 146 0 = some (0, 145) := by kernel_rfl
theorem tok147 : tok Try.prog 147 = true := by kernel_rfl
theorem tsz147 : tsz Try.prog 147 = 0 := by kernel_rfl
theorem tagg147 : tagg Try.prog 147 = true := by kernel_rfl
theorem tinfo147 : tinfo Try.prog 147 = some (0, 0) := by kernel_rfl
theorem tzc147 : tzc Try.prog 147 = some [] := by kernel_rfl
theorem tzs147 : tzs Try.prog 147 = [0] := by kernel_rfl
theorem tf147_0 : tfield Try.prog 147 0 = some (0, 145) := by kernel_rfl
theorem tok149 : tok Try.prog 149 = true := by kernel_rfl
theorem tsz149 : tsz Try.prog 149 = 1 := by kernel_rfl
theorem tagg149 : tagg Try.prog 149 = false := by kernel_rfl
theorem tinfo149 : tinfo Try.prog 149 = some (1, 4) := by kernel_rfl
theorem tzc149 : tzc Try.prog 149 = some [.v (.int .u32 0)] := by kernel_rfl
theorem tzs149 : tzs Try.prog 149 = [0] := by kernel_rfl
theorem tund149 : Try.prog.underlying 149 = some (.int .u32) := by kernel_rfl
theorem tok150 : tok Try.prog 150 = true := by kernel_rfl
theorem tsz150 : tsz Try.prog 150 = 1 := by kernel_rfl
theorem tagg150 : tagg Try.prog 150 = false := by kernel_rfl
theorem tinfo150 : tinfo Try.prog 150 = some (1, 1) := by kernel_rfl
theorem tzc150 : tzc Try.prog 150 = some [.v (.int .u8 0)] := by kernel_rfl
theorem tzs150 : tzs Try.prog 150 = [0] := by kernel_rfl
theorem tund150 : Try.prog.underlying 150 = some (.int .u8) := by kernel_rfl
theorem tok151 : tok Try.prog 151 = true := by kernel_rfl
theorem tsz151 : tsz Try.prog 151 = 1 := by kernel_rfl
theorem tagg151 : tagg Try.prog 151 = false := by kernel_rfl
theorem tinfo151 : tinfo Try.prog 151 = some (1, 1) := by kernel_rfl
theorem tzc151 : tzc Try.prog 151 = some [.v (.int .u8 0)] := by kernel_rfl
theorem tzs151 : tzs Try.prog 151 = [0] := by kernel_rfl
theorem tund151 : Try.prog.underlying 151 = some (.int .u8) := by kernel_rfl
theorem tok153 : tok Try.prog 153 = true := by kernel_rfl
theorem tsz153 : tsz Try.prog 153 = 1 := by kernel_rfl
theorem tagg153 : tagg Try.prog 153 = false := by kernel_rfl
theorem tinfo153 : tinfo Try.prog 153 = some (1, 8) := by kernel_rfl
theorem tzc153 : tzc Try.prog 153 = some [.v (.pointer none)] := by kernel_rfl
theorem tzs153 : tzs Try.prog 153 = [0] := by kernel_rfl
theorem tok154 : tok Try.prog 154 = true := by kernel_rfl
theorem tsz154 : tsz Try.prog 154 = 1 := by kernel_rfl
theorem tagg154 : tagg Try.prog 154 = false := by kernel_rfl
theorem tinfo154 : tinfo Try.prog 154 = some (1, 4) := by kernel_rfl
theorem tzc154 : tzc Try.prog 154 = some [.v (.int .i32 0)] := by kernel_rfl
theorem tzs154 : tzs Try.prog 154 = [0] := by kernel_rfl
theorem tund154 : Try.prog.underlying 154 = some (.int .i32) := by kernel_rfl
theorem tok155 : tok Try.prog 155 = true := by kernel_rfl
theorem tsz155 : tsz Try.prog 155 = 1 := by kernel_rfl
theorem tagg155 : tagg Try.prog 155 = false := by kernel_rfl
theorem tinfo155 : tinfo Try.prog 155 = some (1, 4) := by kernel_rfl
theorem tzc155 : tzc Try.prog 155 = some [.v (.int .i32 0)] := by kernel_rfl
theorem tzs155 : tzs Try.prog 155 = [0] := by kernel_rfl
theorem tund155 : Try.prog.underlying 155 = some (.int .i32) := by kernel_rfl
theorem tok156 : tok Try.prog 156 = true := by kernel_rfl
theorem tsz156 : tsz Try.prog 156 = 11 := by kernel_rfl
theorem tagg156 : tagg Try.prog 156 = true := by kernel_rfl
theorem tinfo156 : tinfo Try.prog 156 = some (11, 48) := by kernel_rfl
theorem tzc156 : tzc Try.prog 156 = some [.v (.int .u64 0), .v (.int .u64 0), .v (.int .u32 0), .v (.int .u8 0), .v (.int .u8 0), .v (.int .u8 0), .v (.int .u8 0), .v (.nilFunc), .v (.pointer none), .v (.int .i32 0), .v (.int .i32 0)] := by kernel_rfl
theorem tzs156 : tzs Try.prog 156 = [0, 0, 0, 0, 0, 0, 0, 0, 0, 0, 0] := by kernel_rfl
theorem tf156_0 : tfield Try.prog 156 0 = some (0, 12) := by kernel_rfl
theorem tf156_1 : tfield Try.prog 156 1 = some (1, 12) := by kernel_rfl
theorem tf156_2 : tfield Try.prog 156 2 = some (2, 149) := by kernel_rfl
theorem tf156_3 : tfield Try.prog 156 3 = some (3, 150) := by kernel_rfl
theorem tf156_4 : tfield Try.prog 156 4 = some (4, 5) := by kernel_rfl
theorem tf156_5 : tfield Try.prog 156 5 = some (5, 5) := by kernel_rfl
theorem tf156_6 : tfield Try.prog 156 6 = some (6, 151) := by kernel_rfl
theorem tf156_7 : tfield Try.prog 156 7 = some (7, 152) := by kernel_rfl
theorem tf156_8 : tfield Try.prog 156 8 = some (8, 153) := by kernel_rfl
theorem tf156_9 : tfield Try.prog 156 9 = some (9, 154) := by kernel_rfl
theorem tf156_10 : tfield Try.prog 156 10 = some (10, 155) := by kernel_rfl
theorem tok157 : tok Try.prog 157 = true := by kernel_rfl
theorem tsz157 : tsz Try.prog 157 = 11 := by kernel_rfl
theorem tagg157 : tagg Try.prog 157 = true := by kernel_rfl
theorem tinfo157 : tinfo Try.prog 157 = some (11, 48) := by kernel_rfl
theorem tzc157 : tzc Try.prog 157 = some [.v (.int .u64 0), .v (.int .u64 0), .v (.int .u32 0), .v (.int .u8 0), .v (.int .u8 0), .v (.int .u8 0), .v (.int .u8 0), .v (.nilFunc), .v (.pointer none), .v (.int .i32 0), .v (.int .i32 0)] := by kernel_rfl
theorem tzs157 : tzs Try.prog 157 = [0, 0, 0, 0, 0, 0, 0, 0, 0, 0, 0] := by kernel_rfl
theorem tf157_0 : tfield Try.prog 157 0 = some (0, 12) := by kernel_rfl
theorem tf157_1 : tfield Try.prog 157 1 = some (1, 12) := by kernel_rfl
theorem tf157_2 : tfield Try.prog 157 2 = some (2, 149) := by kernel_rfl
theorem tf157_3 : tfield Try.prog 157 3 = some (3, 150) := by kernel_rfl
theorem tf157_4 : tfield Try.prog 157 4 = some (4, 5) := by kernel_rfl
theorem tf157_5 : tfield Try.prog 157 5 = some (5, 5) := by kernel_rfl
theorem tf157_6 : tfield Try.prog 157 6 = some (6, 151) := by kernel_rfl
theorem tf157_7 : tfield Try.prog 157 7 = some (7, 152) := by kernel_rfl
theorem tf157_8 : tfield Try.prog 157 8 = some (8, 153) := by kernel_rfl
theorem tf157_9 : tfield Try.prog 157 9 = some (9, 154) := by kernel_rfl
theorem tf157_10 : tfield Try.prog 157 10 = some (10, 155) := by kernel_rfl
theorem tfn2 : tfunc Try.prog 2 = true := by unfold tfunc; rw [Try.func2]; rfl
theorem tfn3 : tfunc Try.prog 3 = true := by unfold tfunc; rw [Try.func3]; rfl
theorem tfn4 : tfunc Try.prog 4 = true := by unfold tfunc; rw [Try.func4]; rfl
theorem tfn5 : tfunc Try.prog 5 = true := by unfold tfunc; rw [Try.func5]; rfl
theorem tfn6 : tfunc Try.prog 6 = true := by unfold tfunc; rw [Try.func6]; rfl
theorem tfn7 : tfunc Try.prog 7 = true := by unfold tfunc; rw [Try.func7]; rfl
theorem tfn8 : tfunc Try.prog 8 = true := by unfold tfunc; rw [Try.func8]; rfl
theorem tfn9 : tfunc Try.prog 9 = true := by unfold tfunc; rw [Try.func9]; rfl
theorem tfn10 : tfunc Try.prog 10 = true := by unfold tfunc; rw [Try.func10]; rfl
theorem tfn11 : tfunc Try.prog 11 = true := by unfold tfunc; rw [Try.func11]; rfl
theorem tfn12 : tfunc Try.prog 12 = true := by unfold tfunc; rw [Try.func12]; rfl
theorem tfn13 : tfunc Try.prog 13 = true := by unfold tfunc; rw [Try.func13]; rfl
theorem tfn14 : tfunc Try.prog 14 = true := by unfold tfunc; rw [Try.func14]; rfl
theorem tfn15 : tfunc Try.prog 15 = true := by unfold tfunc; rw [Try.func15]; rfl
theorem tfn16 : tfunc Try.prog 16 = true := by unfold tfunc; rw [Try.func16]; rfl
theorem tfn17 : tfunc Try.prog 17 = true := by unfold tfunc; rw [Try.func17]; rfl
theorem tfn18 : tfunc Try.prog 18 = true := by unfold tfunc; rw [Try.func18]; rfl
theorem tfn19 : tfunc Try.prog 19 = true := by unfold tfunc; rw [Try.func19]; rfl
theorem tfn20 : tfunc Try.prog 20 = true := by unfold tfunc; rw [Try.func20]; rfl
theorem tfn21 : tfunc Try.prog 21 = true := by unfold tfunc; rw [Try.func21]; rfl
theorem tfn22 : tfunc Try.prog 22 = true := by unfold tfunc; rw [Try.func22]; rfl
theorem tfn23 : tfunc Try.prog 23 = true := by unfold tfunc; rw [Try.func23]; rfl
theorem tfn24 : tfunc Try.prog 24 = true := by unfold tfunc; rw [Try.func24]; rfl
theorem tfn25 : tfunc Try.prog 25 = true := by unfold tfunc; rw [Try.func25]; rfl
theorem tfn26 : tfunc Try.prog 26 = true := by unfold tfunc; rw [Try.func26]; rfl
theorem tfn27 : tfunc Try.prog 27 = true := by unfold tfunc; rw [Try.func27]; rfl
theorem tfn28 : tfunc Try.prog 28 = true := by unfold tfunc; rw [Try.func28]; rfl
theorem tfn29 : tfunc Try.prog 29 = true := by unfold tfunc; rw [Try.func29]; rfl
theorem tfn30 : tfunc Try.prog 30 = true := by unfold tfunc; rw [Try.func30]; rfl
theorem tfn31 : tfunc Try.prog 31 = true := by unfold tfunc; rw [Try.func31]; rfl
theorem tfn32 : tfunc Try.prog 32 = true := by unfold tfunc; rw [Try.func32]; rfl
theorem tfn33 : tfunc Try.prog 33 = true := by unfold tfunc; rw [Try.func33]; rfl
theorem tfn34 : tfunc Try.prog 34 = true := by unfold tfunc; rw [Try.func34]; rfl
theorem tfn35 : tfunc Try.prog 35 = true := by unfold tfunc; rw [Try.func35]; rfl
theorem tfn36 : tfunc Try.prog 36 = true := by unfold tfunc; rw [Try.func36]; rfl
theorem tfn37 : tfunc Try.prog 37 = true := by unfold tfunc; rw [Try.func37]; rfl
theorem tfn38 : tfunc Try.prog 38 = true := by unfold tfunc; rw [Try.func38]; rfl
theorem tfn39 : tfunc Try.prog 39 = true := by unfold tfunc; rw [Try.func39]; rfl
theorem tfn40 : tfunc Try.prog 40 = true := by unfold tfunc; rw [Try.func40]; rfl
theorem tfn41 : tfunc Try.prog 41 = true := by unfold tfunc; rw [Try.func41]; rfl
theorem tfn42 : tfunc Try.prog 42 = true := by unfold tfunc; rw [Try.func42]; rfl
theorem tfn43 : tfunc Try.prog 43 = true := by unfold tfunc; rw [Try.func43]; rfl
theorem tfn44 : tfunc Try.prog 44 = true := by unfold tfunc; rw [Try.func44]; rfl
theorem tfn45 : tfunc Try.prog 45 = true := by unfold tfunc; rw [Try.func45]; rfl
theorem tfn46 : tfunc Try.prog 46 = true := by unfold tfunc; rw [Try.func46]; rfl
theorem tfn47 : tfunc Try.prog 47 = true := by unfold tfunc; rw [Try.func47]; rfl
theorem tfn48 : tfunc Try.prog 48 = true := by unfold tfunc; rw [Try.func48]; rfl
theorem tfn49 : tfunc Try.prog 49 = true := by unfold tfunc; rw [Try.func49]; rfl
theorem tfn50 : tfunc Try.prog 50 = true := by unfold tfunc; rw [Try.func50]; rfl
theorem tfn51 : tfunc Try.prog 51 = true := by unfold tfunc; rw [Try.func51]; rfl
theorem tfn52 : tfunc Try.prog 52 = true := by unfold tfunc; rw [Try.func52]; rfl
theorem tfn53 : tfunc Try.prog 53 = true := by unfold tfunc; rw [Try.func53]; rfl
theorem tfn54 : tfunc Try.prog 54 = true := by unfold tfunc; rw [Try.func54]; rfl
theorem tfn55 : tfunc Try.prog 55 = true := by unfold tfunc; rw [Try.func55]; rfl
theorem tfn56 : tfunc Try.prog 56 = true := by unfold tfunc; rw [Try.func56]; rfl
theorem tfn57 : tfunc Try.prog 57 = true := by unfold tfunc; rw [Try.func57]; rfl
theorem tfn58 : tfunc Try.prog 58 = true := by unfold tfunc; rw [Try.func58]; rfl
theorem tfn59 : tfunc Try.prog 59 = true := by unfold tfunc; rw [Try.func59]; rfl
theorem tfn60 : tfunc Try.prog 60 = true := by unfold tfunc; rw [Try.func60]; rfl
theorem tfn61 : tfunc Try.prog 61 = true := by unfold tfunc; rw [Try.func61]; rfl
theorem tfn62 : tfunc Try.prog 62 = true := by unfold tfunc; rw [Try.func62]; rfl
theorem tfn63 : tfunc Try.prog 63 = true := by unfold tfunc; rw [Try.func63]; rfl
theorem tfn64 : tfunc Try.prog 64 = true := by unfold tfunc; rw [Try.func64]; rfl
theorem tfn65 : tfunc Try.prog 65 = true := by unfold tfunc; rw [Try.func65]; rfl
theorem tfn66 : tfunc Try.prog 66 = true := by unfold tfunc; rw [Try.func66]; rfl
theorem tfn67 : tfunc Try.prog 67 = true := by unfold tfunc; rw [Try.func67]; rfl
theorem tfn68 : tfunc Try.prog 68 = true := by unfold tfunc; rw [Try.func68]; rfl
theorem tfn69 : tfunc Try.prog 69 = true := by unfold tfunc; rw [Try.func69]; rfl
theorem tfn70 : tfunc Try.prog 70 = true := by unfold tfunc; rw [Try.func70]; rfl
theorem tfn71 : tfunc Try.prog 71 = true := by unfold tfunc; rw [Try.func71]; rfl
theorem tfn72 : tfunc Try.prog 72 = true := by unfold tfunc; rw [Try.func72]; rfl
theorem tfn73 : tfunc Try.prog 73 = true := by unfold tfunc; rw [Try.func73]; rfl
theorem tfn74 : tfunc Try.prog 74 = true := by unfold tfunc; rw [Try.func74]; rfl
theorem tfn75 : tfunc Try.prog 75 = true := by unfold tfunc; rw [Try.func75]; rfl
theorem tfn76 : tfunc Try.prog 76 = true := by unfold tfunc; rw [Try.func76]; rfl
theorem tfn77 : tfunc Try.prog 77 = true := by unfold tfunc; rw [Try.func77]; rfl
theorem tfn78 : tfunc Try.prog 78 = true := by unfold tfunc; rw [Try.func78]; rfl
theorem tfn79 : tfunc Try.prog 79 = true := by unfold tfunc; rw [Try.func79]; rfl
theorem tfn80 : tfunc Try.prog 80 = true := by unfold tfunc; rw [Try.func80]; rfl
theorem tfn81 : tfunc Try.prog 81 = true := by unfold tfunc; rw [Try.func81]; rfl
theorem tfn82 : tfunc Try.prog 82 = true := by unfold tfunc; rw [Try.func82]; rfl
theorem tfn83 : tfunc Try.prog 83 = true := by unfold tfunc; rw [Try.func83]; rfl
theorem tfn84 : tfunc Try.prog 84 = true := by unfold tfunc; rw [Try.func84]; rfl
theorem tfn85 : tfunc Try.prog 85 = true := by unfold tfunc; rw [Try.func85]; rfl
theorem tfn86 : tfunc Try.prog 86 = true := by unfold tfunc; rw [Try.func86]; rfl
theorem tfn87 : tfunc Try.prog 87 = true := by unfold tfunc; rw [Try.func87]; rfl
theorem tfn88 : tfunc Try.prog 88 = true := by unfold tfunc; rw [Try.func88]; rfl
theorem tfn89 : tfunc Try.prog 89 = true := by unfold tfunc; rw [Try.func89]; rfl
theorem tfn90 : tfunc Try.prog 90 = true := by unfold tfunc; rw [Try.func90]; rfl
theorem tfn91 : tfunc Try.prog 91 = true := by unfold tfunc; rw [Try.func91]; rfl
theorem tfn92 : tfunc Try.prog 92 = true := by unfold tfunc; rw [Try.func92]; rfl
theorem tfn93 : tfunc Try.prog 93 = true := by unfold tfunc; rw [Try.func93]; rfl
theorem tfn94 : tfunc Try.prog 94 = true := by unfold tfunc; rw [Try.func94]; rfl
theorem tfn95 : tfunc Try.prog 95 = true := by unfold tfunc; rw [Try.func95]; rfl
theorem tfn96 : tfunc Try.prog 96 = true := by unfold tfunc; rw [Try.func96]; rfl
theorem tfn97 : tfunc Try.prog 97 = true := by unfold tfunc; rw [Try.func97]; rfl
theorem tfn98 : tfunc Try.prog 98 = true := by unfold tfunc; rw [Try.func98]; rfl
theorem tfn99 : tfunc Try.prog 99 = true := by unfold tfunc; rw [Try.func99]; rfl
theorem tfn100 : tfunc Try.prog 100 = true := by unfold tfunc; rw [Try.func100]; rfl
theorem tfn101 : tfunc Try.prog 101 = true := by unfold tfunc; rw [Try.func101]; rfl
theorem tfn102 : tfunc Try.prog 102 = true := by unfold tfunc; rw [Try.func102]; rfl
theorem tfn103 : tfunc Try.prog 103 = true := by unfold tfunc; rw [Try.func103]; rfl
theorem tfn104 : tfunc Try.prog 104 = true := by unfold tfunc; rw [Try.func104]; rfl
theorem tfn105 : tfunc Try.prog 105 = true := by unfold tfunc; rw [Try.func105]; rfl
theorem tfn106 : tfunc Try.prog 106 = true := by unfold tfunc; rw [Try.func106]; rfl
theorem tfn107 : tfunc Try.prog 107 = true := by unfold tfunc; rw [Try.func107]; rfl
theorem tfn108 : tfunc Try.prog 108 = true := by unfold tfunc; rw [Try.func108]; rfl
theorem tfn109 : tfunc Try.prog 109 = true := by unfold tfunc; rw [Try.func109]; rfl
theorem tfn110 : tfunc Try.prog 110 = true := by unfold tfunc; rw [Try.func110]; rfl
theorem tfn111 : tfunc Try.prog 111 = true := by unfold tfunc; rw [Try.func111]; rfl
theorem tfn112 : tfunc Try.prog 112 = true := by unfold tfunc; rw [Try.func112]; rfl
theorem tfn113 : tfunc Try.prog 113 = true := by unfold tfunc; rw [Try.func113]; rfl
theorem tfn114 : tfunc Try.prog 114 = true := by unfold tfunc; rw [Try.func114]; rfl
theorem tfn115 : tfunc Try.prog 115 = true := by unfold tfunc; rw [Try.func115]; rfl
theorem tfn116 : tfunc Try.prog 116 = true := by unfold tfunc; rw [Try.func116]; rfl
theorem tfn118 : tfunc Try.prog 118 = true := by unfold tfunc; rw [Try.func118]; rfl
theorem tfn119 : tfunc Try.prog 119 = true := by unfold tfunc; rw [Try.func119]; rfl
theorem tfn120 : tfunc Try.prog 120 = true := by unfold tfunc; rw [Try.func120]; rfl
attribute [simp] tok2 tsz2 tagg2 tinfo2 tzc2 tzs2 tund2 tok3 tsz3 tagg3 tinfo3 tzc3 tzs3 tund3 tok4 tsz4 tagg4 tinfo4 tzc4 tzs4 tund4 tok5 tsz5 tagg5 tinfo5 tzc5 tzs5 tund5 tok6 tsz6 tagg6 tinfo6 tzc6 tzs6 tund6 tok22 tsz22 tagg22 tinfo22 tzc22 tzs22 tel22 tok23 tsz23 tagg23 tinfo23 tzc23 tzs23 tel23 tok24 tsz24 tagg24 tinfo24 tzc24 tzs24 tf24_0 tf24_1 tf24_2 tf24_3 tpl24 tok25 tsz25 tagg25 tinfo25 tzc25 tzs25 tf25_0 tf25_1 tf25_2 tf25_3 tpl25 tok27 tsz27 tagg27 tinfo27 tzc27 tzs27 tel27 tok28 tsz28 tagg28 tinfo28 tzc28 tzs28 tel28 tok29 tsz29 tagg29 tinfo29 tzc29 tzs29 tf29_0 tf29_1 tf29_2 tf29_3 tpl29 tok30 tsz30 tagg30 tinfo30 tzc30 tzs30 tf30_0 tf30_1 tf30_2 tf30_3 tpl30 tok31 tsz31 tagg31 tinfo31 tzc31 tzs31 tf31_0 tf31_1 tf31_2 tpl31 tok32 tsz32 tagg32 tinfo32 tzc32 tzs32 tf32_0 tf32_1 tf32_2 tpl32 tok42 tsz42 tagg42 tinfo42 tzc42 tzs42 tf42_0 tf42_1 tf42_2 tf42_3 tpl42 tok43 tsz43 tagg43 tinfo43 tzc43 tzs43 tf43_0 tf43_1 tf43_2 tf43_3 tpl43 tok49 tsz49 tagg49 tinfo49 tzc49 tzs49 tok52 tsz52 tagg52 tinfo52 tzc52 tzs52 tel52 tok53 tsz53 tagg53 tinfo53 tzc53 tzs53 tf53_0 tf53_1 tf53_2 tf53_3 tf53_4 tpl53 tok54 tsz54 tagg54 tinfo54 tzc54 tzs54 tf54_0 tf54_1 tf54_2 tf54_3 tf54_4 tpl54 tok65 tsz65 tagg65 tinfo65 tzc65 tzs65 tok67 tsz67 tagg67 tinfo67 tzc67 tzs67 tel67 tok68 tsz68 tagg68 tinfo68 tzc68 tzs68 tf68_0 tf68_1 tpl68 tok69 tsz69 tagg69 tinfo69 tzc69 tzs69 tf69_0 tf69_1 tpl69 tok70 tsz70 tagg70 tinfo70 tzc70 tzs70 tf70_0 tf70_1 tf70_2 tf70_3 tpl70 tok71 tsz71 tagg71 tinfo71 tzc71 tzs71 tf71_0 tf71_1 tf71_2 tf71_3 tpl71 tok80 tsz80 tagg80 tinfo80 tzc80 tzs80 tel80 tok81 tsz81 tagg81 tinfo81 tzc81 tzs81 tf81_0 tf81_1 tf81_2 tf81_3 tf81_4 tpl81 tok82 tsz82 tagg82 tinfo82 tzc82 tzs82 tf82_0 tf82_1 tf82_2 tf82_3 tf82_4 tpl82 tok84 tsz84 tagg84 tinfo84 tzc84 tzs84 tel84 tok85 tsz85 tagg85 tinfo85 tzc85 tzs85 tf85_0 tf85_1 tpl85 tok86 tsz86 tagg86 tinfo86 tzc86 tzs86 tf86_0 tf86_1 tpl86 tok106 tsz106 tagg106 tinfo106 tzc106 tzs106 tf106_0 tf106_1 tf106_2 tf106_3 tpl106 tok107 tsz107 tagg107 tinfo107 tzc107 tzs107 tf107_0 tf107_1 tf107_2 tf107_3 tpl107 tok116 tsz116 tagg116 tinfo116 tzc116 tzs116 tok132 tsz132 tagg132 tinfo132 tzc132 tzs132 tf132_0 tf132_1 tf132_2 tf132_3 tpl132 tok134 tsz134 tagg134 tinfo134 tzc134 tzs134 tf134_0 tf134_1 tf134_2 tf134_3 tpl134 tok140 tsz140 tagg140 tinfo140 tzc140 tzs140 tund140 tok143 tsz143 tagg143 tinfo143 tzc143 tzs143 tf143_0 tf143_1 tf143_2 tf143_3 tpl143 tok144 tsz144 tagg144 tinfo144 tzc144 tzs144 tf144_0 tf144_1 tf144_2 tf144_3 tpl144 tok146 tsz146 tagg146 tinfo146 tzc146 tzs146 tf146_0 tok147 tsz147 tagg147 tinfo147 tzc147 tzs147 tf147_0 tok149 tsz149 tagg149 tinfo149 tzc149 tzs149 tund149 tok150 tsz150 tagg150 tinfo150 tzc150 tzs150 tund150 tok151 tsz151 tagg151 tinfo151 tzc151 tzs151 tund151 tok153 tsz153 tagg153 tinfo153 tzc153 tzs153 tok154 tsz154 tagg154 tinfo154 tzc154 tzs154 tund154 tok155 tsz155 tagg155 tinfo155 tzc155 tzs155 tund155 tok156 tsz156 tagg156 tinfo156 tzc156 tzs156 tf156_0 tf156_1 tf156_2 tf156_3 tf156_4 tf156_5 tf156_6 tf156_7 tf156_8 tf156_9 tf156_10 tok157 tsz157 tagg157 tinfo157 tzc157 tzs157 tf157_0 tf157_1 tf157_2 tf157_3 tf157_4 tf157_5 tf157_6 tf157_7 tf157_8 tf157_9 tf157_10 tfn2 tfn3 tfn4 tfn5 tfn6 tfn7 tfn8 tfn9 tfn10 tfn11 tfn12 tfn13 tfn14 tfn15 tfn16 tfn17 tfn18 tfn19 tfn20 tfn21 tfn22 tfn23 tfn24 tfn25 tfn26 tfn27 tfn28 tfn29 tfn30 tfn31 tfn32 tfn33 tfn34 tfn35 tfn36 tfn37 tfn38 tfn39 tfn40 tfn41 tfn42 tfn43 tfn44 tfn45 tfn46 tfn47 tfn48 tfn49 tfn50 tfn51 tfn52 tfn53 tfn54 tfn55 tfn56 tfn57 tfn58 tfn59 tfn60 tfn61 tfn62 tfn63 tfn64 tfn65 tfn66 tfn67 tfn68 tfn69 tfn70 tfn71 tfn72 tfn73 tfn74 tfn75 tfn76 tfn77 tfn78 tfn79 tfn80 tfn81 tfn82 tfn83 tfn84 tfn85 tfn86 tfn87 tfn88 tfn89 tfn90 tfn91 tfn92 tfn93 tfn94 tfn95 tfn96 tfn97 tfn98 tfn99 tfn100 tfn101 tfn102 tfn103 tfn104 tfn105 tfn106 tfn107 tfn108 tfn109 tfn110 tfn111 tfn112 tfn113 tfn114 tfn115 tfn116 tfn118 tfn119 tfn120
end Go.Proofs.Ytnlbjfdmjlnlgaa.Ty

namespace Go.Proofs.Ytnlbjfdmjlnlgaa
open Go Go.Px Go.RowKit Go.Proofs
set_option linter.unnecessarySimpa false
set_option linter.unusedVariables false
set_option linter.unusedSimpArgs false
set_option maxRecDepth 100000
attribute [-simp] Int.not_le Int.not_lt

def okUndo (B : Nat) (r : List Cell) : Prop := ∃ a0 a1 a2 a3, r = [.v (.int .i64 a0), .v (.bool a1), .v (.bool a2), .v (.int .i64 a3)]
theorem okUndo_pure {B : Nat} {r : List Cell} (h : okUndo B r) : ∀ K, cells1 K r := by
  obtain ⟨a0, a1, a2, a3, rfl⟩ := h
  intro K
  simp only [cells1_cons, cells1_nil, Clean_ownR, and_true]
  exact ⟨Clean.v, Clean.v, Clean.v, Clean.v⟩
theorem okUndo_le {B B2 : Nat} {r : List Cell} (h : okUndo B r) (hc : cntR r ≤ B2) : okUndo B2 r := by
  obtain ⟨a0, a1, a2, a3, rfl⟩ := h
  simp only [cntR_cons, cntC_own, cntC_v, cntR_nil] at hc
  exact ⟨a0, a1, a2, a3, rfl⟩
theorem okUndo_cnt {B : Nat} {r : List Cell} (h : okUndo B r) : cntR r = 0 := by obtain ⟨a0, a1, a2, a3, rfl⟩ := h; simp [cntR_cons, cntC_v, cntR_nil]
theorem laws_eqUndo (H : HH) {row cs cs' : List Cell} (ok : okUndo 1048576 row) (hr : Refs H row cs) (hr' : Refs H row cs') : PFun Try.prog 113 [.a cs, .a cs'] H (B true) := by
  obtain ⟨a0, a1, a2, a3, rfl⟩ := ok
  simp only [Refs_v, Refs_own, Refs_nil] at hr hr'
  obtain ⟨_, rfl, _, rfl, _, rfl, _, rfl, rfl⟩ := hr
  obtain ⟨_, rfl, _, rfl, _, rfl, _, rfl, rfl⟩ := hr'
  refine PFun.of [2, 3, 4, 9, 14, 19, 24] Try.func113 rfl (by simp [Try.f113]) ?_
  intro d hd0 hfr hcl hout
  have hcd : ∀ n q, CleanH (hit [((d, n), q)]) H := fun n q => hcl.at
  simp (maxSteps := 4000000) [hd0, hfr, hout, hcl, hcd, delA_none, Try.f113]

theorem laws_eqUndoS (H : HH) {r q r2 q2} {rows : List (List Cell)} (hb : rows.length ≤ 1048576) (ok : ∀ x ∈ rows, okUndo 1048576 x) (ha : arrAt H r q = some (4, rows)) (hb2 : arrAt H r2 q2 = some (4, rows)) : PFun Try.prog 96 [.c (.sl r q 4 0 rows.length), .c (.sl r2 q2 4 0 rows.length)] H (B true) := by
  refine PFun.of [0, 1, 4, 5, 10, 14, 26] Try.func96 rfl (by simp [Try.f96]) ?_
  intro d hd0 hfr hcl hout
  have hcd : ∀ n q, CleanH (hit [((d, n), q)]) H := fun n q => hcl.at
  have ha_n : ∀ n, ¬ (d, n) = r := fun n => nm_ne (ne_of_arr hfr ha)
  have ha_d : ¬ r.1 = d := ne_of_arr hfr ha
  have ha_m : ∀ n, ¬ r = (d, n) := fun n => nm_ne' (ne_of_arr hfr ha)
  have hb2_n : ∀ n, ¬ (d, n) = r2 := fun n => nm_ne (ne_of_arr hfr hb2)
  have hb2_d : ¬ r2.1 = d := ne_of_arr hfr hb2
  have hb2_m : ∀ n, ¬ r2 = (d, n) := fun n => nm_ne' (ne_of_arr hfr hb2)
  simp (maxSteps := 4000000) [hd0, hfr, hout, hcl, hcd, delA_none, ha, ha_n, ha_d, ha_m, hb2, hb2_n, hb2_d, hb2_m, Try.f96]
  refine LoopK.intro (fun m s => ∃ i : Nat, i + m = rows.length ∧ s = ⟨[(0, .c (.sl r q 4 0 rows.length)), (1, .c (.sl r2 q2 4 0 rows.length)), (5, I i)], H, []⟩) (rows.length + 1)
    (LK.intro rows.length [0, 1, 5] [] (by omega) (by decide) (by simp (maxSteps := 4000000) [hd0, hfr, hout, hcl, hcd, delA_none, ha, ha_n, ha_d, ha_m, hb2, hb2_n, hb2_d, hb2_m]) ⟨0, by simp⟩) ?_
  rintro m s ⟨i, him, rfl⟩
  simp (maxSteps := 4000000) [hd0, hfr, hout, hcl, hcd, delA_none, ha, ha_n, ha_d, ha_m, hb2, hb2_n, hb2_d, hb2_m]
  intro hi
  have hi' : i < rows.length := by omega
  have w1 : IntKind.i64.wrap ((i : Int) + 1) = i + 1 := w64 (by omega) (by omega)
  have hok := ok _ (List.getElem_mem hi')
  obtain ⟨a0, a1, a2, a3, hx⟩ := hok
  refine DrawK.intro 10 [0, 1, 5, 26] rfl (by kernel_rfl) (by decide) ?_
  simp (maxSteps := 4000000) [hd0, hfr, hout, hcl, hcd, delA_none, ha, ha_n, ha_d, ha_m, hb2, hb2_n, hb2_d, hb2_m, hi', hx]
  refine ⟨_, laws_eqUndo _ (row := [.v (.int .i64 a0), .v (.bool a1), .v (.bool a2), .v (.int .i64 a3)]) ⟨a0, a1, a2, a3, rfl⟩ (Refs_v.2 ⟨_, rfl, Refs_v.2 ⟨_, rfl, Refs_v.2 ⟨_, rfl, Refs_v.2 ⟨_, rfl, Refs_nil.2 rfl⟩⟩⟩⟩) (Refs_v.2 ⟨_, rfl, Refs_v.2 ⟨_, rfl, Refs_v.2 ⟨_, rfl, Refs_v.2 ⟨_, rfl, Refs_nil.2 rfl⟩⟩⟩⟩), ?_⟩
  simp (maxSteps := 4000000) [hd0, hfr, hout, hcl, hcd, delA_none, ha, ha_n, ha_d, ha_m, hb2, hb2_n, hb2_d, hb2_m, w1]
  exact LK.intro (m - 1) [0, 1, 5] [] (by omega) (by decide) (by simp (maxSteps := 4000000) [hd0, hfr, hout, hcl, hcd, delA_none, ha, ha_n, ha_d, ha_m, hb2, hb2_n, hb2_d, hb2_m]) ⟨i + 1, by omega, by simp⟩

def okTxn (B : Nat) (r : List Cell) : Prop := ∃ a0 a1 a2 a3 c4, r = [.v (.int .i64 a0), .v (.int .i64 a1), .v (.int .i64 a2), .v (.int .i64 a3), .own 4 c4] ∧ c4.length ≤ B ∧ (∀ x ∈ c4, okUndo B x)
theorem okTxn_pure {B : Nat} {r : List Cell} (h : okTxn B r) : ∀ K, cells1 K r := by
  obtain ⟨a0, a1, a2, a3, c4, rfl, lc4, oc4⟩ := h
  intro K
  simp only [cells1_cons, cells1_nil, Clean_ownR, and_true]
  exact ⟨Clean.v, Clean.v, Clean.v, Clean.v, (fun x hx => okUndo_pure (oc4 x hx) K)⟩
theorem okTxn_le {B B2 : Nat} {r : List Cell} (h : okTxn B r) (hc : cntR r ≤ B2) : okTxn B2 r := by
  obtain ⟨a0, a1, a2, a3, c4, rfl, lc4, oc4⟩ := h
  simp only [cntR_cons, cntC_own, cntC_v, cntR_nil] at hc
  exact ⟨a0, a1, a2, a3, c4, rfl, (by omega), (fun x hx => okUndo_le (oc4 x hx) (by have := cntR_mem hx; omega))⟩
theorem laws_eqTxn (H : HH) {row cs cs' : List Cell} (ok : okTxn 1048576 row) (hr : Refs H row cs) (hr' : Refs H row cs') : PFun Try.prog 55 [.a cs, .a cs'] H (B true) := by
  obtain ⟨a0, a1, a2, a3, c4, rfl, lc4, oc4⟩ := ok
  simp only [Refs_v, Refs_own, Refs_nil] at hr hr'
  obtain ⟨_, rfl, _, rfl, _, rfl, _, rfl, rc4, qc4, _, rfl, hc4, rfl⟩ := hr
  obtain ⟨_, rfl, _, rfl, _, rfl, _, rfl, rc4b, qc4b, _, rfl, hc4b, rfl⟩ := hr'
  refine PFun.of [2, 3, 4, 9, 14, 19, 24, 30] Try.func55 rfl (by simp [Try.f55]) ?_
  intro d hd0 hfr hcl hout
  have hcd : ∀ n q, CleanH (hit [((d, n), q)]) H := fun n q => hcl.at
  have hc4_n : ∀ n, ¬ (d, n) = rc4 := fun n => nm_ne (ne_of_arr hfr hc4)
  have hc4_d : ¬ rc4.1 = d := ne_of_arr hfr hc4
  have hc4_m : ∀ n, ¬ rc4 = (d, n) := fun n => nm_ne' (ne_of_arr hfr hc4)
  have hc4b_n : ∀ n, ¬ (d, n) = rc4b := fun n => nm_ne (ne_of_arr hfr hc4b)
  have hc4b_d : ¬ rc4b.1 = d := ne_of_arr hfr hc4b
  have hc4b_m : ∀ n, ¬ rc4b = (d, n) := fun n => nm_ne' (ne_of_arr hfr hc4b)
  simp (maxSteps := 4000000) [hd0, hfr, hout, hcl, hcd, delA_none, hc4, hc4_n, hc4_d, hc4_m, hc4b, hc4b_n, hc4b_d, hc4b_m, Try.f55]
  refine (laws_eqUndoS _ lc4 oc4 (by simp (maxSteps := 4000000) [hd0, hfr, hout, hcl, hcd, delA_none, hc4, hc4_n, hc4_d, hc4_m, hc4b, hc4b_n, hc4b_d, hc4b_m]) (by simp (maxSteps := 4000000) [hd0, hfr, hout, hcl, hcd, delA_none, hc4, hc4_n, hc4_d, hc4_m, hc4b, hc4b_n, hc4b_d, hc4b_m])).useCK ?_
  simp (maxSteps := 4000000) [hd0, hfr, hout, hcl, hcd, delA_none, hc4, hc4_n, hc4_d, hc4_m, hc4b, hc4b_n, hc4b_d, hc4b_m]

theorem laws_eqTxnS (H : HH) {r q r2 q2} {rows : List (List Cell)} (hb : rows.length ≤ 1048576) (ok : ∀ x ∈ rows, okTxn 1048576 x) (ha : arrAt H r q = some (5, rows)) (hb2 : arrAt H r2 q2 = some (5, rows)) : PFun Try.prog 29 [.c (.sl r q 5 0 rows.length), .c (.sl r2 q2 5 0 rows.length)] H (B true) := by
  refine PFun.of [0, 1, 4, 5, 10, 14, 26] Try.func29 rfl (by simp [Try.f29]) ?_
  intro d hd0 hfr hcl hout
  have hcd : ∀ n q, CleanH (hit [((d, n), q)]) H := fun n q => hcl.at
  have ha_n : ∀ n, ¬ (d, n) = r := fun n => nm_ne (ne_of_arr hfr ha)
  have ha_d : ¬ r.1 = d := ne_of_arr hfr ha
  have ha_m : ∀ n, ¬ r = (d, n) := fun n => nm_ne' (ne_of_arr hfr ha)
  have hb2_n : ∀ n, ¬ (d, n) = r2 := fun n => nm_ne (ne_of_arr hfr hb2)
  have hb2_d : ¬ r2.1 = d := ne_of_arr hfr hb2
  have hb2_m : ∀ n, ¬ r2 = (d, n) := fun n => nm_ne' (ne_of_arr hfr hb2)
  simp (maxSteps := 4000000) [hd0, hfr, hout, hcl, hcd, delA_none, ha, ha_n, ha_d, ha_m, hb2, hb2_n, hb2_d, hb2_m, Try.f29]
  refine LoopK.intro (fun m s => ∃ i : Nat, i + m = rows.length ∧ s = ⟨[(0, .c (.sl r q 5 0 rows.length)), (1, .c (.sl r2 q2 5 0 rows.length)), (5, I i)], H, []⟩) (rows.length + 1)
    (LK.intro rows.length [0, 1, 5] [] (by omega) (by decide) (by simp (maxSteps := 4000000) [hd0, hfr, hout, hcl, hcd, delA_none, ha, ha_n, ha_d, ha_m, hb2, hb2_n, hb2_d, hb2_m]) ⟨0, by simp⟩) ?_
  rintro m s ⟨i, him, rfl⟩
  simp (maxSteps := 4000000) [hd0, hfr, hout, hcl, hcd, delA_none, ha, ha_n, ha_d, ha_m, hb2, hb2_n, hb2_d, hb2_m]
  intro hi
  have hi' : i < rows.length := by omega
  have w1 : IntKind.i64.wrap ((i : Int) + 1) = i + 1 := w64 (by omega) (by omega)
  have hok := ok _ (List.getElem_mem hi')
  obtain ⟨a0, a1, a2, a3, c4, hx, lc4, oc4⟩ := hok
  refine DrawK.intro 10 [0, 1, 5, 26] rfl (by kernel_rfl) (by decide) ?_
  have s1c4 := arrAt_sub ha (List.getElem?_eq_getElem hi') (f := 4) (by rw [hx]; rfl)
  have s2c4 := arrAt_sub hb2 (List.getElem?_eq_getElem hi') (f := 4) (by rw [hx]; rfl)
  simp (maxSteps := 4000000) [hd0, hfr, hout, hcl, hcd, delA_none, ha, ha_n, ha_d, ha_m, hb2, hb2_n, hb2_d, hb2_m, hi', hx]
  refine ⟨_, laws_eqTxn _ (row := [.v (.int .i64 a0), .v (.int .i64 a1), .v (.int .i64 a2), .v (.int .i64 a3), .own 4 c4]) ⟨a0, a1, a2, a3, c4, rfl, lc4, oc4⟩ (Refs_v.2 ⟨_, rfl, Refs_v.2 ⟨_, rfl, Refs_v.2 ⟨_, rfl, Refs_v.2 ⟨_, rfl, Refs_own.2 ⟨_, _, _, rfl, by simp (maxSteps := 4000000) [hd0, hfr, hout, hcl, hcd, delA_none, ha, ha_n, ha_d, ha_m, hb2, hb2_n, hb2_d, hb2_m, s1c4], Refs_nil.2 rfl⟩⟩⟩⟩⟩) (Refs_v.2 ⟨_, rfl, Refs_v.2 ⟨_, rfl, Refs_v.2 ⟨_, rfl, Refs_v.2 ⟨_, rfl, Refs_own.2 ⟨_, _, _, rfl, by simp (maxSteps := 4000000) [hd0, hfr, hout, hcl, hcd, delA_none, ha, ha_n, ha_d, ha_m, hb2, hb2_n, hb2_d, hb2_m, s2c4], Refs_nil.2 rfl⟩⟩⟩⟩⟩), ?_⟩
  simp (maxSteps := 4000000) [hd0, hfr, hout, hcl, hcd, delA_none, ha, ha_n, ha_d, ha_m, hb2, hb2_n, hb2_d, hb2_m, w1]
  exact LK.intro (m - 1) [0, 1, 5] [] (by omega) (by decide) (by simp (maxSteps := 4000000) [hd0, hfr, hout, hcl, hcd, delA_none, ha, ha_n, ha_d, ha_m, hb2, hb2_n, hb2_d, hb2_m]) ⟨i + 1, by omega, by simp⟩

def okVersion (B : Nat) (r : List Cell) : Prop := ∃ a0 a1 a2 a3, r = [.v (.int .i64 a0), .v (.int .i64 a1), .v (.bool a2), .v (.int .i64 a3)]
theorem okVersion_pure {B : Nat} {r : List Cell} (h : okVersion B r) : ∀ K, cells1 K r := by
  obtain ⟨a0, a1, a2, a3, rfl⟩ := h
  intro K
  simp only [cells1_cons, cells1_nil, Clean_ownR, and_true]
  exact ⟨Clean.v, Clean.v, Clean.v, Clean.v⟩
theorem okVersion_le {B B2 : Nat} {r : List Cell} (h : okVersion B r) (hc : cntR r ≤ B2) : okVersion B2 r := by
  obtain ⟨a0, a1, a2, a3, rfl⟩ := h
  simp only [cntR_cons, cntC_own, cntC_v, cntR_nil] at hc
  exact ⟨a0, a1, a2, a3, rfl⟩
theorem okVersion_cnt {B : Nat} {r : List Cell} (h : okVersion B r) : cntR r = 0 := by obtain ⟨a0, a1, a2, a3, rfl⟩ := h; simp [cntR_cons, cntC_v, cntR_nil]
theorem laws_eqVersion (H : HH) {row cs cs' : List Cell} (ok : okVersion 1048576 row) (hr : Refs H row cs) (hr' : Refs H row cs') : PFun Try.prog 114 [.a cs, .a cs'] H (B true) := by
  obtain ⟨a0, a1, a2, a3, rfl⟩ := ok
  simp only [Refs_v, Refs_own, Refs_nil] at hr hr'
  obtain ⟨_, rfl, _, rfl, _, rfl, _, rfl, rfl⟩ := hr
  obtain ⟨_, rfl, _, rfl, _, rfl, _, rfl, rfl⟩ := hr'
  refine PFun.of [2, 3, 4, 9, 14, 19, 24] Try.func114 rfl (by simp [Try.f114]) ?_
  intro d hd0 hfr hcl hout
  have hcd : ∀ n q, CleanH (hit [((d, n), q)]) H := fun n q => hcl.at
  simp (maxSteps := 4000000) [hd0, hfr, hout, hcl, hcd, delA_none, Try.f114]

theorem laws_eqVersionS (H : HH) {r q r2 q2} {rows : List (List Cell)} (hb : rows.length ≤ 1048576) (ok : ∀ x ∈ rows, okVersion 1048576 x) (ha : arrAt H r q = some (4, rows)) (hb2 : arrAt H r2 q2 = some (4, rows)) : PFun Try.prog 97 [.c (.sl r q 4 0 rows.length), .c (.sl r2 q2 4 0 rows.length)] H (B true) := by
  refine PFun.of [0, 1, 4, 5, 10, 14, 26] Try.func97 rfl (by simp [Try.f97]) ?_
  intro d hd0 hfr hcl hout
  have hcd : ∀ n q, CleanH (hit [((d, n), q)]) H := fun n q => hcl.at
  have ha_n : ∀ n, ¬ (d, n) = r := fun n => nm_ne (ne_of_arr hfr ha)
  have ha_d : ¬ r.1 = d := ne_of_arr hfr ha
  have ha_m : ∀ n, ¬ r = (d, n) := fun n => nm_ne' (ne_of_arr hfr ha)
  have hb2_n : ∀ n, ¬ (d, n) = r2 := fun n => nm_ne (ne_of_arr hfr hb2)
  have hb2_d : ¬ r2.1 = d := ne_of_arr hfr hb2
  have hb2_m : ∀ n, ¬ r2 = (d, n) := fun n => nm_ne' (ne_of_arr hfr hb2)
  simp (maxSteps := 4000000) [hd0, hfr, hout, hcl, hcd, delA_none, ha, ha_n, ha_d, ha_m, hb2, hb2_n, hb2_d, hb2_m, Try.f97]
  refine LoopK.intro (fun m s => ∃ i : Nat, i + m = rows.length ∧ s = ⟨[(0, .c (.sl r q 4 0 rows.length)), (1, .c (.sl r2 q2 4 0 rows.length)), (5, I i)], H, []⟩) (rows.length + 1)
    (LK.intro rows.length [0, 1, 5] [] (by omega) (by decide) (by simp (maxSteps := 4000000) [hd0, hfr, hout, hcl, hcd, delA_none, ha, ha_n, ha_d, ha_m, hb2, hb2_n, hb2_d, hb2_m]) ⟨0, by simp⟩) ?_
  rintro m s ⟨i, him, rfl⟩
  simp (maxSteps := 4000000) [hd0, hfr, hout, hcl, hcd, delA_none, ha, ha_n, ha_d, ha_m, hb2, hb2_n, hb2_d, hb2_m]
  intro hi
  have hi' : i < rows.length := by omega
  have w1 : IntKind.i64.wrap ((i : Int) + 1) = i + 1 := w64 (by omega) (by omega)
  have hok := ok _ (List.getElem_mem hi')
  obtain ⟨a0, a1, a2, a3, hx⟩ := hok
  refine DrawK.intro 10 [0, 1, 5, 26] rfl (by kernel_rfl) (by decide) ?_
  simp (maxSteps := 4000000) [hd0, hfr, hout, hcl, hcd, delA_none, ha, ha_n, ha_d, ha_m, hb2, hb2_n, hb2_d, hb2_m, hi', hx]
  refine ⟨_, laws_eqVersion _ (row := [.v (.int .i64 a0), .v (.int .i64 a1), .v (.bool a2), .v (.int .i64 a3)]) ⟨a0, a1, a2, a3, rfl⟩ (Refs_v.2 ⟨_, rfl, Refs_v.2 ⟨_, rfl, Refs_v.2 ⟨_, rfl, Refs_v.2 ⟨_, rfl, Refs_nil.2 rfl⟩⟩⟩⟩) (Refs_v.2 ⟨_, rfl, Refs_v.2 ⟨_, rfl, Refs_v.2 ⟨_, rfl, Refs_v.2 ⟨_, rfl, Refs_nil.2 rfl⟩⟩⟩⟩), ?_⟩
  simp (maxSteps := 4000000) [hd0, hfr, hout, hcl, hcd, delA_none, ha, ha_n, ha_d, ha_m, hb2, hb2_n, hb2_d, hb2_m, w1]
  exact LK.intro (m - 1) [0, 1, 5] [] (by omega) (by decide) (by simp (maxSteps := 4000000) [hd0, hfr, hout, hcl, hcd, delA_none, ha, ha_n, ha_d, ha_m, hb2, hb2_n, hb2_d, hb2_m]) ⟨i + 1, by omega, by simp⟩

def okRow (B : Nat) (r : List Cell) : Prop := ∃ a0 c1, r = [.v (.int .i64 a0), .own 4 c1] ∧ c1.length ≤ B ∧ (∀ x ∈ c1, okVersion B x)
theorem okRow_pure {B : Nat} {r : List Cell} (h : okRow B r) : ∀ K, cells1 K r := by
  obtain ⟨a0, c1, rfl, lc1, oc1⟩ := h
  intro K
  simp only [cells1_cons, cells1_nil, Clean_ownR, and_true]
  exact ⟨Clean.v, (fun x hx => okVersion_pure (oc1 x hx) K)⟩
theorem okRow_le {B B2 : Nat} {r : List Cell} (h : okRow B r) (hc : cntR r ≤ B2) : okRow B2 r := by
  obtain ⟨a0, c1, rfl, lc1, oc1⟩ := h
  simp only [cntR_cons, cntC_own, cntC_v, cntR_nil] at hc
  exact ⟨a0, c1, rfl, (by omega), (fun x hx => okVersion_le (oc1 x hx) (by have := cntR_mem hx; omega))⟩
theorem laws_eqRow (H : HH) {row cs cs' : List Cell} (ok : okRow 1048576 row) (hr : Refs H row cs) (hr' : Refs H row cs') : PFun Try.prog 56 [.a cs, .a cs'] H (B true) := by
  obtain ⟨a0, c1, rfl, lc1, oc1⟩ := ok
  simp only [Refs_v, Refs_own, Refs_nil] at hr hr'
  obtain ⟨_, rfl, rc1, qc1, _, rfl, hc1, rfl⟩ := hr
  obtain ⟨_, rfl, rc1b, qc1b, _, rfl, hc1b, rfl⟩ := hr'
  refine PFun.of [2, 3, 4, 9, 15] Try.func56 rfl (by simp [Try.f56]) ?_
  intro d hd0 hfr hcl hout
  have hcd : ∀ n q, CleanH (hit [((d, n), q)]) H := fun n q => hcl.at
  have hc1_n : ∀ n, ¬ (d, n) = rc1 := fun n => nm_ne (ne_of_arr hfr hc1)
  have hc1_d : ¬ rc1.1 = d := ne_of_arr hfr hc1
  have hc1_m : ∀ n, ¬ rc1 = (d, n) := fun n => nm_ne' (ne_of_arr hfr hc1)
  have hc1b_n : ∀ n, ¬ (d, n) = rc1b := fun n => nm_ne (ne_of_arr hfr hc1b)
  have hc1b_d : ¬ rc1b.1 = d := ne_of_arr hfr hc1b
  have hc1b_m : ∀ n, ¬ rc1b = (d, n) := fun n => nm_ne' (ne_of_arr hfr hc1b)
  simp (maxSteps := 4000000) [hd0, hfr, hout, hcl, hcd, delA_none, hc1, hc1_n, hc1_d, hc1_m, hc1b, hc1b_n, hc1b_d, hc1b_m, Try.f56]
  refine (laws_eqVersionS _ lc1 oc1 (by simp (maxSteps := 4000000) [hd0, hfr, hout, hcl, hcd, delA_none, hc1, hc1_n, hc1_d, hc1_m, hc1b, hc1b_n, hc1b_d, hc1b_m]) (by simp (maxSteps := 4000000) [hd0, hfr, hout, hcl, hcd, delA_none, hc1, hc1_n, hc1_d, hc1_m, hc1b, hc1b_n, hc1b_d, hc1b_m])).useCK ?_
  simp (maxSteps := 4000000) [hd0, hfr, hout, hcl, hcd, delA_none, hc1, hc1_n, hc1_d, hc1_m, hc1b, hc1b_n, hc1b_d, hc1b_m]

theorem laws_eqRowS (H : HH) {r q r2 q2} {rows : List (List Cell)} (hb : rows.length ≤ 1048576) (ok : ∀ x ∈ rows, okRow 1048576 x) (ha : arrAt H r q = some (2, rows)) (hb2 : arrAt H r2 q2 = some (2, rows)) : PFun Try.prog 30 [.c (.sl r q 2 0 rows.length), .c (.sl r2 q2 2 0 rows.length)] H (B true) := by
  refine PFun.of [0, 1, 4, 5, 10, 14, 26] Try.func30 rfl (by simp [Try.f30]) ?_
  intro d hd0 hfr hcl hout
  have hcd : ∀ n q, CleanH (hit [((d, n), q)]) H := fun n q => hcl.at
  have ha_n : ∀ n, ¬ (d, n) = r := fun n => nm_ne (ne_of_arr hfr ha)
  have ha_d : ¬ r.1 = d := ne_of_arr hfr ha
  have ha_m : ∀ n, ¬ r = (d, n) := fun n => nm_ne' (ne_of_arr hfr ha)
  have hb2_n : ∀ n, ¬ (d, n) = r2 := fun n => nm_ne (ne_of_arr hfr hb2)
  have hb2_d : ¬ r2.1 = d := ne_of_arr hfr hb2
  have hb2_m : ∀ n, ¬ r2 = (d, n) := fun n => nm_ne' (ne_of_arr hfr hb2)
  simp (maxSteps := 4000000) [hd0, hfr, hout, hcl, hcd, delA_none, ha, ha_n, ha_d, ha_m, hb2, hb2_n, hb2_d, hb2_m, Try.f30]
  refine LoopK.intro (fun m s => ∃ i : Nat, i + m = rows.length ∧ s = ⟨[(0, .c (.sl r q 2 0 rows.length)), (1, .c (.sl r2 q2 2 0 rows.length)), (5, I i)], H, []⟩) (rows.length + 1)
    (LK.intro rows.length [0, 1, 5] [] (by omega) (by decide) (by simp (maxSteps := 4000000) [hd0, hfr, hout, hcl, hcd, delA_none, ha, ha_n, ha_d, ha_m, hb2, hb2_n, hb2_d, hb2_m]) ⟨0, by simp⟩) ?_
  rintro m s ⟨i, him, rfl⟩
  simp (maxSteps := 4000000) [hd0, hfr, hout, hcl, hcd, delA_none, ha, ha_n, ha_d, ha_m, hb2, hb2_n, hb2_d, hb2_m]
  intro hi
  have hi' : i < rows.length := by omega
  have w1 : IntKind.i64.wrap ((i : Int) + 1) = i + 1 := w64 (by omega) (by omega)
  have hok := ok _ (List.getElem_mem hi')
  obtain ⟨a0, c1, hx, lc1, oc1⟩ := hok
  refine DrawK.intro 10 [0, 1, 5, 26] rfl (by kernel_rfl) (by decide) ?_
  have s1c1 := arrAt_sub ha (List.getElem?_eq_getElem hi') (f := 1) (by rw [hx]; rfl)
  have s2c1 := arrAt_sub hb2 (List.getElem?_eq_getElem hi') (f := 1) (by rw [hx]; rfl)
  simp (maxSteps := 4000000) [hd0, hfr, hout, hcl, hcd, delA_none, ha, ha_n, ha_d, ha_m, hb2, hb2_n, hb2_d, hb2_m, hi', hx]
  refine ⟨_, laws_eqRow _ (row := [.v (.int .i64 a0), .own 4 c1]) ⟨a0, c1, rfl, lc1, oc1⟩ (Refs_v.2 ⟨_, rfl, Refs_own.2 ⟨_, _, _, rfl, by simp (maxSteps := 4000000) [hd0, hfr, hout, hcl, hcd, delA_none, ha, ha_n, ha_d, ha_m, hb2, hb2_n, hb2_d, hb2_m, s1c1], Refs_nil.2 rfl⟩⟩) (Refs_v.2 ⟨_, rfl, Refs_own.2 ⟨_, _, _, rfl, by simp (maxSteps := 4000000) [hd0, hfr, hout, hcl, hcd, delA_none, ha, ha_n, ha_d, ha_m, hb2, hb2_n, hb2_d, hb2_m, s2c1], Refs_nil.2 rfl⟩⟩), ?_⟩
  simp (maxSteps := 4000000) [hd0, hfr, hout, hcl, hcd, delA_none, ha, ha_n, ha_d, ha_m, hb2, hb2_n, hb2_d, hb2_m, w1]
  exact LK.intro (m - 1) [0, 1, 5] [] (by omega) (by decide) (by simp (maxSteps := 4000000) [hd0, hfr, hout, hcl, hcd, delA_none, ha, ha_n, ha_d, ha_m, hb2, hb2_n, hb2_d, hb2_m]) ⟨i + 1, by omega, by simp⟩

def okEngine (B : Nat) (r : List Cell) : Prop := ∃ a0 a1 c2 c3, r = [.v (.int .i64 a0), .v (.int .i64 a1), .own 5 c2, .own 2 c3] ∧ c2.length ≤ B ∧ (∀ x ∈ c2, okTxn B x) ∧ c3.length ≤ B ∧ (∀ x ∈ c3, okRow B x)
theorem okEngine_le {B B2 : Nat} {r : List Cell} (h : okEngine B r) (hc : cntR r ≤ B2) : okEngine B2 r := by
  obtain ⟨a0, a1, c2, c3, rfl, lc2, oc2, lc3, oc3⟩ := h
  simp only [cntR_cons, cntC_own, cntC_v, cntR_nil] at hc
  exact ⟨a0, a1, c2, c3, rfl, (by omega), (fun x hx => okTxn_le (oc2 x hx) (by have := cntR_mem hx; omega)), (by omega), (fun x hx => okRow_le (oc3 x hx) (by have := cntR_mem hx; omega))⟩
theorem laws_eqEngine (H : HH) {row cs cs' : List Cell} (ok : okEngine 1048576 row) (hr : Refs H row cs) (hr' : Refs H row cs') : PFun Try.prog 11 [.a cs, .a cs'] H (B true) := by
  obtain ⟨a0, a1, c2, c3, rfl, lc2, oc2, lc3, oc3⟩ := ok
  simp only [Refs_v, Refs_own, Refs_nil] at hr hr'
  obtain ⟨_, rfl, _, rfl, rc2, qc2, _, rfl, hc2, rc3, qc3, _, rfl, hc3, rfl⟩ := hr
  obtain ⟨_, rfl, _, rfl, rc2b, qc2b, _, rfl, hc2b, rc3b, qc3b, _, rfl, hc3b, rfl⟩ := hr'
  refine PFun.of [2, 3, 4, 9, 14, 20, 26] Try.func11 rfl (by simp [Try.f11]) ?_
  intro d hd0 hfr hcl hout
  have hcd : ∀ n q, CleanH (hit [((d, n), q)]) H := fun n q => hcl.at
  have hc2_n : ∀ n, ¬ (d, n) = rc2 := fun n => nm_ne (ne_of_arr hfr hc2)
  have hc2_d : ¬ rc2.1 = d := ne_of_arr hfr hc2
  have hc2_m : ∀ n, ¬ rc2 = (d, n) := fun n => nm_ne' (ne_of_arr hfr hc2)
  have hc3_n : ∀ n, ¬ (d, n) = rc3 := fun n => nm_ne (ne_of_arr hfr hc3)
  have hc3_d : ¬ rc3.1 = d := ne_of_arr hfr hc3
  have hc3_m : ∀ n, ¬ rc3 = (d, n) := fun n => nm_ne' (ne_of_arr hfr hc3)
  have hc2b_n : ∀ n, ¬ (d, n) = rc2b := fun n => nm_ne (ne_of_arr hfr hc2b)
  have hc2b_d : ¬ rc2b.1 = d := ne_of_arr hfr hc2b
  have hc2b_m : ∀ n, ¬ rc2b = (d, n) := fun n => nm_ne' (ne_of_arr hfr hc2b)
  have hc3b_n : ∀ n, ¬ (d, n) = rc3b := fun n => nm_ne (ne_of_arr hfr hc3b)
  have hc3b_d : ¬ rc3b.1 = d := ne_of_arr hfr hc3b
  have hc3b_m : ∀ n, ¬ rc3b = (d, n) := fun n => nm_ne' (ne_of_arr hfr hc3b)
  simp (maxSteps := 4000000) [hd0, hfr, hout, hcl, hcd, delA_none, hc2, hc2_n, hc2_d, hc2_m, hc3, hc3_n, hc3_d, hc3_m, hc2b, hc2b_n, hc2b_d, hc2b_m, hc3b, hc3b_n, hc3b_d, hc3b_m, Try.f11]
  refine (laws_eqTxnS _ lc2 oc2 (by simp (maxSteps := 4000000) [hd0, hfr, hout, hcl, hcd, delA_none, hc2, hc2_n, hc2_d, hc2_m, hc3, hc3_n, hc3_d, hc3_m, hc2b, hc2b_n, hc2b_d, hc2b_m, hc3b, hc3b_n, hc3b_d, hc3b_m]) (by simp (maxSteps := 4000000) [hd0, hfr, hout, hcl, hcd, delA_none, hc2, hc2_n, hc2_d, hc2_m, hc3, hc3_n, hc3_d, hc3_m, hc2b, hc2b_n, hc2b_d, hc2b_m, hc3b, hc3b_n, hc3b_d, hc3b_m])).useCK ?_
  simp (maxSteps := 4000000) [hd0, hfr, hout, hcl, hcd, delA_none, hc2, hc2_n, hc2_d, hc2_m, hc3, hc3_n, hc3_d, hc3_m, hc2b, hc2b_n, hc2b_d, hc2b_m, hc3b, hc3b_n, hc3b_d, hc3b_m]
  refine (laws_eqRowS _ lc3 oc3 (by simp (maxSteps := 4000000) [hd0, hfr, hout, hcl, hcd, delA_none, hc2, hc2_n, hc2_d, hc2_m, hc3, hc3_n, hc3_d, hc3_m, hc2b, hc2b_n, hc2b_d, hc2b_m, hc3b, hc3b_n, hc3b_d, hc3b_m]) (by simp (maxSteps := 4000000) [hd0, hfr, hout, hcl, hcd, delA_none, hc2, hc2_n, hc2_d, hc2_m, hc3, hc3_n, hc3_d, hc3_m, hc2b, hc2b_n, hc2b_d, hc2b_m, hc3b, hc3b_n, hc3b_d, hc3b_m])).useCK ?_
  simp (maxSteps := 4000000) [hd0, hfr, hout, hcl, hcd, delA_none, hc2, hc2_n, hc2_d, hc2_m, hc3, hc3_n, hc3_d, hc3_m, hc2b, hc2b_n, hc2b_d, hc2b_m, hc3b, hc3b_n, hc3b_d, hc3b_m]

def okEngineResult (B : Nat) (r : List Cell) : Prop := ∃ a0 a1 a2 a3 c4 c5, r = [.v (.int .i64 a0), .v (.int .i64 a1), .v (.int .i64 a2), .v (.int .i64 a3), .own 5 c4, .own 2 c5] ∧ c4.length ≤ B ∧ (∀ x ∈ c4, okTxn B x) ∧ c5.length ≤ B ∧ (∀ x ∈ c5, okRow B x)
def okGarbageResult (B : Nat) (r : List Cell) : Prop := ∃ a0 a1 a2 a3, r = [.v (.int .i64 a0), .v (.int .i64 a1), .v (.int .i64 a2), .v (.int .i64 a3)]
theorem laws_eqGarbageResult (H : HH) {row cs cs' : List Cell} (ok : okGarbageResult 1048576 row) (hr : Refs H row cs) (hr' : Refs H row cs') : PFun Try.prog 19 [.a cs, .a cs'] H (B true) := by
  obtain ⟨a0, a1, a2, a3, rfl⟩ := ok
  simp only [Refs_v, Refs_own, Refs_nil] at hr hr'
  obtain ⟨_, rfl, _, rfl, _, rfl, _, rfl, rfl⟩ := hr
  obtain ⟨_, rfl, _, rfl, _, rfl, _, rfl, rfl⟩ := hr'
  refine PFun.of [2, 3, 4, 9, 14, 19, 24] Try.func19 rfl (by simp [Try.f19]) ?_
  intro d hd0 hfr hcl hout
  have hcd : ∀ n q, CleanH (hit [((d, n), q)]) H := fun n q => hcl.at
  simp (maxSteps := 4000000) [hd0, hfr, hout, hcl, hcd, delA_none, Try.f19]

theorem laws_szUndoS (H : HH) {r q} {rows : List (List Cell)} {left : Int} (hn : rows.length ≤ 9223372036854775807) (h1 : 0 ≤ left) (h2 : left ≤ 1048576) (ok : ∀ x ∈ rows, okUndo 9223372036854775807 x) : PFun Try.prog 85 [.c (.sl r q 4 0 rows.length), I left] H (I (szV (cntC (.own 4 rows)) left)) := by
  rw [cntC_own, cntRs_zero (fun x hx => okUndo_cnt (ok x hx))]
  refine PFun.of [0, 1, 4, 10] Try.func85 rfl (by simp [Try.f85]) ?_
  intro d hd0 hfr hcl hout
  have hcd : ∀ n q, CleanH (hit [((d, n), q)]) H := fun n q => hcl.at
  simp (maxSteps := 4000000) [hd0, hfr, hout, hcl, hcd, delA_none, Try.f85]
  have w : IntKind.i64.wrap (left - rows.length) = left - rows.length := w64 (by omega) (by omega)
  simp (maxSteps := 4000000) [hd0, hfr, hout, hcl, hcd, delA_none, w, szV]
  omega

theorem laws_szTxn (H : HH) {row cs : List Cell} {left : Int} (ok : okTxn 9223372036854775807 row) (hr : Refs H row cs) (h1 : 0 ≤ left) (h2 : left ≤ 1048576) : PFun Try.prog 44 [.a cs, I left] H (I (szV (cntR row) left)) := by
  obtain ⟨a0, a1, a2, a3, c4, rfl, lc4, oc4⟩ := ok
  simp only [Refs_v, Refs_own, Refs_nil] at hr
  obtain ⟨_, rfl, _, rfl, _, rfl, _, rfl, rc4, qc4, _, rfl, hc4, rfl⟩ := hr
  simp only [cntR_cons, cntR_nil, cntC_v, cntC_own]
  refine PFun.of [1, 2, 4, 10] Try.func44 rfl (by simp [Try.f44]) ?_
  intro d hd0 hfr hcl hout
  have hcd : ∀ n q, CleanH (hit [((d, n), q)]) H := fun n q => hcl.at
  have hc4_n : ∀ n, ¬ (d, n) = rc4 := fun n => nm_ne (ne_of_arr hfr hc4)
  have hc4_d : ¬ rc4.1 = d := ne_of_arr hfr hc4
  have hc4_m : ∀ n, ¬ rc4 = (d, n) := fun n => nm_ne' (ne_of_arr hfr hc4)
  simp (maxSteps := 4000000) [hd0, hfr, hout, hcl, hcd, delA_none, hc4, hc4_n, hc4_d, hc4_m, Try.f44]
  refine (laws_szUndoS _ lc4 (by omega) (by omega) oc4).useCK ?_
  simp only [cntC_own]
  by_cases k1 : ((c4.length + cntRs c4 : Nat) : Int) ≤ left
  case neg => rw [szV_neg k1]; simp (maxSteps := 4000000) [hd0, hfr, hout, hcl, hcd, delA_none, hc4, hc4_n, hc4_d, hc4_m]; try rw [szV_neg (by omega)]
  rw [szV_pos k1]
  obtain ⟨L1, hL1⟩ : ∃ L : Int, L = left - ((c4.length + cntRs c4 : Nat) : Int) := ⟨_, rfl⟩
  rw [← hL1]
  simp (maxSteps := 4000000) [hd0, hfr, hout, hcl, hcd, delA_none, hc4, hc4_n, hc4_d, hc4_m]
  first | (intro h; omega) | (refine ⟨fun h => by omega, fun _ => ?_⟩; rw [szV_pos (by omega)]; omega)

theorem laws_szTxnS (H : HH) {r q} {rows : List (List Cell)} {left : Int} (hn : rows.length ≤ 9223372036854775807) (h1 : 0 ≤ left) (h2 : left ≤ 1048576) (ok : ∀ x ∈ rows, okTxn 9223372036854775807 x) (ha : arrAt H r q = some (5, rows)) : PFun Try.prog 20 [.c (.sl r q 5 0 rows.length), I left] H (I (szV (cntC (.own 5 rows)) left)) := by
  rw [cntC_own]
  refine PFun.of [0, 1, 4, 5, 11, 15, 25] Try.func20 rfl (by simp [Try.f20]) ?_
  intro d hd0 hfr hcl hout
  have hcd : ∀ n q, CleanH (hit [((d, n), q)]) H := fun n q => hcl.at
  have ha_n : ∀ n, ¬ (d, n) = r := fun n => nm_ne (ne_of_arr hfr ha)
  have ha_d : ¬ r.1 = d := ne_of_arr hfr ha
  have ha_m : ∀ n, ¬ r = (d, n) := fun n => nm_ne' (ne_of_arr hfr ha)
  simp (maxSteps := 4000000) [hd0, hfr, hout, hcl, hcd, delA_none, ha, ha_n, ha_d, ha_m, Try.f20]
  have w : IntKind.i64.wrap (left - rows.length) = left - rows.length := w64 (by omega) (by omega)
  simp (maxSteps := 4000000) [hd0, hfr, hout, hcl, hcd, delA_none, ha, ha_n, ha_d, ha_m, w]
  refine ⟨fun h => by rw [szV_neg (by push_cast; omega)], fun h => ?_⟩
  refine LoopK.intro (fun m s => ∃ i : Nat, i + m = rows.length ∧ (rows.length : Int) + cntRs (rows.take i) ≤ left ∧ s = ⟨[(0, .c (.sl r q 5 0 rows.length)), (1, I (left - rows.length - cntRs (rows.take i))), (5, I i)], H, []⟩) (rows.length + 1)
    (LK.intro rows.length [0, 1, 5] [] (by omega) (by decide) (by simp (maxSteps := 4000000) [hd0, hfr, hout, hcl, hcd, delA_none, ha, ha_n, ha_d, ha_m]) ⟨0, by omega, by simp [cntRs]; omega, by simp [cntRs]⟩) ?_
  rintro m s ⟨i, him, hle, rfl⟩
  simp (maxSteps := 4000000) [hd0, hfr, hout, hcl, hcd, delA_none, ha, ha_n, ha_d, ha_m]
  constructor
  · intro hi
    have hi' : i < rows.length := by omega
    have w1 : IntKind.i64.wrap ((i : Int) + 1) = i + 1 := w64 (by omega) (by omega)
    have hx' := ok _ (List.getElem_mem hi')
    have ht := cntRs_take hi'
    have hle2 := cntRs_split (rows := rows) (i := i + 1)
    have hok := hx'
    obtain ⟨a0, a1, a2, a3, c4, hx, lc4, oc4⟩ := hx'
    rw [hx] at hok
    have sc4 := arrAt_sub ha (List.getElem?_eq_getElem hi') (f := 4) (by rw [hx]; rfl)
    simp (maxSteps := 4000000) [hd0, hfr, hout, hcl, hcd, delA_none, ha, ha_n, ha_d, ha_m, hi', hx]
    refine (laws_szTxn _ hok (Refs_v.2 ⟨_, rfl, Refs_v.2 ⟨_, rfl, Refs_v.2 ⟨_, rfl, Refs_v.2 ⟨_, rfl, Refs_own.2 ⟨_, _, _, rfl, by simp (maxSteps := 4000000) [hd0, hfr, hout, hcl, hcd, delA_none, ha, ha_n, ha_d, ha_m, sc4], Refs_nil.2 rfl⟩⟩⟩⟩⟩) (by omega) (by omega)).useCK ?_
    rw [hx] at ht
    by_cases hc : (cntR [.v (.int .i64 a0), .v (.int .i64 a1), .v (.int .i64 a2), .v (.int .i64 a3), .own 4 c4] : Int) ≤ left - rows.length - cntRs (rows.take i)
    · rw [szV_pos hc]
      simp (maxSteps := 4000000) [hd0, hfr, hout, hcl, hcd, delA_none, ha, ha_n, ha_d, ha_m, w1]
      refine ⟨fun h => by omega, fun _ => ?_⟩
      exact LK.intro (m - 1) [0, 1, 5] [] (by omega) (by decide) (by simp (maxSteps := 4000000) [hd0, hfr, hout, hcl, hcd, delA_none, ha, ha_n, ha_d, ha_m]) ⟨i + 1, by omega, by omega, by simp; omega⟩
    · rw [szV_neg hc]
      simp (maxSteps := 4000000) [hd0, hfr, hout, hcl, hcd, delA_none, ha, ha_n, ha_d, ha_m]
      rw [szV_neg (by push_cast; omega)]
  · intro h
    rw [cntRs_all (by omega)] at hle ⊢
    try simp (maxSteps := 4000000) [hd0, hfr, hout, hcl, hcd, delA_none, ha, ha_n, ha_d, ha_m]
    rw [szV_pos (by push_cast; omega)]; push_cast; omega

theorem laws_szVersionS (H : HH) {r q} {rows : List (List Cell)} {left : Int} (hn : rows.length ≤ 9223372036854775807) (h1 : 0 ≤ left) (h2 : left ≤ 1048576) (ok : ∀ x ∈ rows, okVersion 9223372036854775807 x) : PFun Try.prog 86 [.c (.sl r q 4 0 rows.length), I left] H (I (szV (cntC (.own 4 rows)) left)) := by
  rw [cntC_own, cntRs_zero (fun x hx => okVersion_cnt (ok x hx))]
  refine PFun.of [0, 1, 4, 10] Try.func86 rfl (by simp [Try.f86]) ?_
  intro d hd0 hfr hcl hout
  have hcd : ∀ n q, CleanH (hit [((d, n), q)]) H := fun n q => hcl.at
  simp (maxSteps := 4000000) [hd0, hfr, hout, hcl, hcd, delA_none, Try.f86]
  have w : IntKind.i64.wrap (left - rows.length) = left - rows.length := w64 (by omega) (by omega)
  simp (maxSteps := 4000000) [hd0, hfr, hout, hcl, hcd, delA_none, w, szV]
  omega

theorem laws_szRow (H : HH) {row cs : List Cell} {left : Int} (ok : okRow 9223372036854775807 row) (hr : Refs H row cs) (h1 : 0 ≤ left) (h2 : left ≤ 1048576) : PFun Try.prog 45 [.a cs, I left] H (I (szV (cntR row) left)) := by
  obtain ⟨a0, c1, rfl, lc1, oc1⟩ := ok
  simp only [Refs_v, Refs_own, Refs_nil] at hr
  obtain ⟨_, rfl, rc1, qc1, _, rfl, hc1, rfl⟩ := hr
  simp only [cntR_cons, cntR_nil, cntC_v, cntC_own]
  refine PFun.of [1, 2, 4, 10] Try.func45 rfl (by simp [Try.f45]) ?_
  intro d hd0 hfr hcl hout
  have hcd : ∀ n q, CleanH (hit [((d, n), q)]) H := fun n q => hcl.at
  have hc1_n : ∀ n, ¬ (d, n) = rc1 := fun n => nm_ne (ne_of_arr hfr hc1)
  have hc1_d : ¬ rc1.1 = d := ne_of_arr hfr hc1
  have hc1_m : ∀ n, ¬ rc1 = (d, n) := fun n => nm_ne' (ne_of_arr hfr hc1)
  simp (maxSteps := 4000000) [hd0, hfr, hout, hcl, hcd, delA_none, hc1, hc1_n, hc1_d, hc1_m, Try.f45]
  refine (laws_szVersionS _ lc1 (by omega) (by omega) oc1).useCK ?_
  simp only [cntC_own]
  by_cases k1 : ((c1.length + cntRs c1 : Nat) : Int) ≤ left
  case neg => rw [szV_neg k1]; simp (maxSteps := 4000000) [hd0, hfr, hout, hcl, hcd, delA_none, hc1, hc1_n, hc1_d, hc1_m]; try rw [szV_neg (by omega)]
  rw [szV_pos k1]
  obtain ⟨L1, hL1⟩ : ∃ L : Int, L = left - ((c1.length + cntRs c1 : Nat) : Int) := ⟨_, rfl⟩
  rw [← hL1]
  simp (maxSteps := 4000000) [hd0, hfr, hout, hcl, hcd, delA_none, hc1, hc1_n, hc1_d, hc1_m]
  first | (intro h; omega) | (refine ⟨fun h => by omega, fun _ => ?_⟩; rw [szV_pos (by omega)]; omega)

theorem laws_szRowS (H : HH) {r q} {rows : List (List Cell)} {left : Int} (hn : rows.length ≤ 9223372036854775807) (h1 : 0 ≤ left) (h2 : left ≤ 1048576) (ok : ∀ x ∈ rows, okRow 9223372036854775807 x) (ha : arrAt H r q = some (2, rows)) : PFun Try.prog 21 [.c (.sl r q 2 0 rows.length), I left] H (I (szV (cntC (.own 2 rows)) left)) := by
  rw [cntC_own]
  refine PFun.of [0, 1, 4, 5, 11, 15, 25] Try.func21 rfl (by simp [Try.f21]) ?_
  intro d hd0 hfr hcl hout
  have hcd : ∀ n q, CleanH (hit [((d, n), q)]) H := fun n q => hcl.at
  have ha_n : ∀ n, ¬ (d, n) = r := fun n => nm_ne (ne_of_arr hfr ha)
  have ha_d : ¬ r.1 = d := ne_of_arr hfr ha
  have ha_m : ∀ n, ¬ r = (d, n) := fun n => nm_ne' (ne_of_arr hfr ha)
  simp (maxSteps := 4000000) [hd0, hfr, hout, hcl, hcd, delA_none, ha, ha_n, ha_d, ha_m, Try.f21]
  have w : IntKind.i64.wrap (left - rows.length) = left - rows.length := w64 (by omega) (by omega)
  simp (maxSteps := 4000000) [hd0, hfr, hout, hcl, hcd, delA_none, ha, ha_n, ha_d, ha_m, w]
  refine ⟨fun h => by rw [szV_neg (by push_cast; omega)], fun h => ?_⟩
  refine LoopK.intro (fun m s => ∃ i : Nat, i + m = rows.length ∧ (rows.length : Int) + cntRs (rows.take i) ≤ left ∧ s = ⟨[(0, .c (.sl r q 2 0 rows.length)), (1, I (left - rows.length - cntRs (rows.take i))), (5, I i)], H, []⟩) (rows.length + 1)
    (LK.intro rows.length [0, 1, 5] [] (by omega) (by decide) (by simp (maxSteps := 4000000) [hd0, hfr, hout, hcl, hcd, delA_none, ha, ha_n, ha_d, ha_m]) ⟨0, by omega, by simp [cntRs]; omega, by simp [cntRs]⟩) ?_
  rintro m s ⟨i, him, hle, rfl⟩
  simp (maxSteps := 4000000) [hd0, hfr, hout, hcl, hcd, delA_none, ha, ha_n, ha_d, ha_m]
  constructor
  · intro hi
    have hi' : i < rows.length := by omega
    have w1 : IntKind.i64.wrap ((i : Int) + 1) = i + 1 := w64 (by omega) (by omega)
    have hx' := ok _ (List.getElem_mem hi')
    have ht := cntRs_take hi'
    have hle2 := cntRs_split (rows := rows) (i := i + 1)
    have hok := hx'
    obtain ⟨a0, c1, hx, lc1, oc1⟩ := hx'
    rw [hx] at hok
    have sc1 := arrAt_sub ha (List.getElem?_eq_getElem hi') (f := 1) (by rw [hx]; rfl)
    simp (maxSteps := 4000000) [hd0, hfr, hout, hcl, hcd, delA_none, ha, ha_n, ha_d, ha_m, hi', hx]
    refine (laws_szRow _ hok (Refs_v.2 ⟨_, rfl, Refs_own.2 ⟨_, _, _, rfl, by simp (maxSteps := 4000000) [hd0, hfr, hout, hcl, hcd, delA_none, ha, ha_n, ha_d, ha_m, sc1], Refs_nil.2 rfl⟩⟩) (by omega) (by omega)).useCK ?_
    rw [hx] at ht
    by_cases hc : (cntR [.v (.int .i64 a0), .own 4 c1] : Int) ≤ left - rows.length - cntRs (rows.take i)
    · rw [szV_pos hc]
      simp (maxSteps := 4000000) [hd0, hfr, hout, hcl, hcd, delA_none, ha, ha_n, ha_d, ha_m, w1]
      refine ⟨fun h => by omega, fun _ => ?_⟩
      exact LK.intro (m - 1) [0, 1, 5] [] (by omega) (by decide) (by simp (maxSteps := 4000000) [hd0, hfr, hout, hcl, hcd, delA_none, ha, ha_n, ha_d, ha_m]) ⟨i + 1, by omega, by omega, by simp; omega⟩
    · rw [szV_neg hc]
      simp (maxSteps := 4000000) [hd0, hfr, hout, hcl, hcd, delA_none, ha, ha_n, ha_d, ha_m]
      rw [szV_neg (by push_cast; omega)]
  · intro h
    rw [cntRs_all (by omega)] at hle ⊢
    try simp (maxSteps := 4000000) [hd0, hfr, hout, hcl, hcd, delA_none, ha, ha_n, ha_d, ha_m]
    rw [szV_pos (by push_cast; omega)]; push_cast; omega

theorem laws_szEngine (H : HH) {row cs : List Cell} {left : Int} (ok : okEngine 9223372036854775807 row) (hr : Refs H row cs) (h1 : 0 ≤ left) (h2 : left ≤ 1048576) : PFun Try.prog 6 [.a cs, I left] H (I (szV (cntR row) left)) := by
  obtain ⟨a0, a1, c2, c3, rfl, lc2, oc2, lc3, oc3⟩ := ok
  simp only [Refs_v, Refs_own, Refs_nil] at hr
  obtain ⟨_, rfl, _, rfl, rc2, qc2, _, rfl, hc2, rc3, qc3, _, rfl, hc3, rfl⟩ := hr
  simp only [cntR_cons, cntR_nil, cntC_v, cntC_own]
  refine PFun.of [1, 2, 4, 10, 16] Try.func6 rfl (by simp [Try.f6]) ?_
  intro d hd0 hfr hcl hout
  have hcd : ∀ n q, CleanH (hit [((d, n), q)]) H := fun n q => hcl.at
  have hc2_n : ∀ n, ¬ (d, n) = rc2 := fun n => nm_ne (ne_of_arr hfr hc2)
  have hc2_d : ¬ rc2.1 = d := ne_of_arr hfr hc2
  have hc2_m : ∀ n, ¬ rc2 = (d, n) := fun n => nm_ne' (ne_of_arr hfr hc2)
  have hc3_n : ∀ n, ¬ (d, n) = rc3 := fun n => nm_ne (ne_of_arr hfr hc3)
  have hc3_d : ¬ rc3.1 = d := ne_of_arr hfr hc3
  have hc3_m : ∀ n, ¬ rc3 = (d, n) := fun n => nm_ne' (ne_of_arr hfr hc3)
  simp (maxSteps := 4000000) [hd0, hfr, hout, hcl, hcd, delA_none, hc2, hc2_n, hc2_d, hc2_m, hc3, hc3_n, hc3_d, hc3_m, Try.f6]
  refine (laws_szTxnS _ lc2 (by omega) (by omega) oc2 (by simp (maxSteps := 4000000) [hd0, hfr, hout, hcl, hcd, delA_none, hc2, hc2_n, hc2_d, hc2_m, hc3, hc3_n, hc3_d, hc3_m])).useCK ?_
  simp only [cntC_own]
  by_cases k1 : ((c2.length + cntRs c2 : Nat) : Int) ≤ left
  case neg => rw [szV_neg k1]; simp (maxSteps := 4000000) [hd0, hfr, hout, hcl, hcd, delA_none, hc2, hc2_n, hc2_d, hc2_m, hc3, hc3_n, hc3_d, hc3_m]; try rw [szV_neg (by omega)]
  rw [szV_pos k1]
  obtain ⟨L1, hL1⟩ : ∃ L : Int, L = left - ((c2.length + cntRs c2 : Nat) : Int) := ⟨_, rfl⟩
  rw [← hL1]
  simp (maxSteps := 4000000) [hd0, hfr, hout, hcl, hcd, delA_none, hc2, hc2_n, hc2_d, hc2_m, hc3, hc3_n, hc3_d, hc3_m]
  refine ⟨fun h => by omega, fun _ => ?_⟩
  refine (laws_szRowS _ lc3 (by omega) (by omega) oc3 (by simp (maxSteps := 4000000) [hd0, hfr, hout, hcl, hcd, delA_none, hc2, hc2_n, hc2_d, hc2_m, hc3, hc3_n, hc3_d, hc3_m])).useCK ?_
  simp only [cntC_own]
  by_cases k2 : ((c3.length + cntRs c3 : Nat) : Int) ≤ L1
  case neg => rw [szV_neg k2]; simp (maxSteps := 4000000) [hd0, hfr, hout, hcl, hcd, delA_none, hc2, hc2_n, hc2_d, hc2_m, hc3, hc3_n, hc3_d, hc3_m]; try rw [szV_neg (by omega)]
  rw [szV_pos k2]
  obtain ⟨L2, hL2⟩ : ∃ L : Int, L = L1 - ((c3.length + cntRs c3 : Nat) : Int) := ⟨_, rfl⟩
  rw [← hL2]
  simp (maxSteps := 4000000) [hd0, hfr, hout, hcl, hcd, delA_none, hc2, hc2_n, hc2_d, hc2_m, hc3, hc3_n, hc3_d, hc3_m]
  first | (intro h; omega) | (refine ⟨fun h => by omega, fun _ => ?_⟩; rw [szV_pos (by omega)]; omega)

theorem laws_toUndo (H : HH) {row cs : List Cell} (ok : okUndo 1048576 row) (hr : Refs H row cs) : PFun Try.prog 111 [.a cs] H (.a row) := by
  obtain ⟨a0, a1, a2, a3, rfl⟩ := ok
  simp only [Refs_v, Refs_own, Refs_nil] at hr
  obtain ⟨_, rfl, _, rfl, _, rfl, _, rfl, rfl⟩ := hr
  refine PFun.of [1, 2, 3] Try.func111 rfl (by simp [Try.f111]) ?_
  intro d hd0 hfr hcl hout
  have hcd : ∀ n q, CleanH (hit [((d, n), q)]) H := fun n q => hcl.at
  simp (maxSteps := 4000000) [hd0, hfr, hout, hcl, hcd, delA_none, Try.f111]

theorem laws_toUndoS (H : HH) {r q} {rows : List (List Cell)} (hb : rows.length ≤ 1048576) (ok : ∀ x ∈ rows, okUndo 1048576 x) (ha : arrAt H r q = some (4, rows)) : PFun Try.prog 92 [.c (.sl r q 4 0 rows.length)] H (.c (.own 4 rows)) := by
  refine PFun.of [0, 2, 3, 4, 11] Try.func92 rfl (by simp [Try.f92]) ?_
  intro d hd0 hfr hcl hout
  have hcd : ∀ n q, CleanH (hit [((d, n), q)]) H := fun n q => hcl.at
  have ha_n : ∀ n, ¬ (d, n) = r := fun n => nm_ne (ne_of_arr hfr ha)
  have ha_d : ¬ r.1 = d := ne_of_arr hfr ha
  have ha_m : ∀ n, ¬ r = (d, n) := fun n => nm_ne' (ne_of_arr hfr ha)
  simp (maxSteps := 4000000) [hd0, hfr, hout, hcl, hcd, delA_none, ha, ha_n, ha_d, ha_m, Try.f92]
  have hp : ∀ K, CleanRows K rows := fun K x hx => okUndo_pure (ok x hx) K
  refine ⟨by omega, ?_⟩
  refine LoopK.intro (fun m s => ∃ i : Nat, i + m = rows.length ∧ s = ⟨[(0, .c (.sl r q 4 0 rows.length)), (3, .c (.sl (d, 3) [] 4 0 rows.length)), (4, I i)], ((d, 3), .own 4 (upTo [.v (.int .i64 0), .v (.bool false), .v (.bool false), .v (.int .i64 0)] rows i)) :: H, []⟩) (rows.length + 1)
    (LK.intro rows.length [0, 3, 4] [2] (by omega) (by decide) (by simp (maxSteps := 4000000) [hd0, hfr, hout, hcl, hcd, delA_none, ha, ha_n, ha_d, ha_m]) ⟨0, by simp [upTo_zero]⟩) ?_
  rintro m s ⟨i, him, rfl⟩
  simp (maxSteps := 4000000) [hd0, hfr, hout, hcl, hcd, delA_none, ha, ha_n, ha_d, ha_m]
  constructor
  · intro hi
    have hi' : i < rows.length := by omega
    have w1 : IntKind.i64.wrap ((i : Int) + 1) = i + 1 := w64 (by omega) (by omega)
    have hok := ok _ (List.getElem_mem hi')
    have hs := upTo_set (r := [.v (.int .i64 0), .v (.bool false), .v (.bool false), .v (.int .i64 0)]) hi'
    have hat := upTo_at (r := [.v (.int .i64 0), .v (.bool false), .v (.bool false), .v (.int .i64 0)]) hi'
    have hatx := ix_of hat
    have hok' := hok
    obtain ⟨a0, a1, a2, a3, hx⟩ := hok
    rw [hx] at hok' hs
    simp (maxSteps := 4000000) [hd0, hfr, hout, hcl, hcd, delA_none, ha, ha_n, ha_d, ha_m, hi', hx]
    refine (laws_toUndo _ hok' (Refs_v.2 ⟨_, rfl, Refs_v.2 ⟨_, rfl, Refs_v.2 ⟨_, rfl, Refs_v.2 ⟨_, rfl, Refs_nil.2 rfl⟩⟩⟩⟩)).useCK ?_
    simp (maxSteps := 4000000) [hd0, hfr, hout, hcl, hcd, delA_none, ha, ha_n, ha_d, ha_m, hi', hx, hatx, upTo_length, w1, hs, hp, CleanRows_upTo]
    exact LK.intro (m - 1) [0, 3, 4] [] (by omega) (by decide) (by simp (maxSteps := 4000000) [hd0, hfr, hout, hcl, hcd, delA_none, ha, ha_n, ha_d, ha_m]) ⟨i + 1, by omega, by simp [hs]⟩
  · intro h
    simp (maxSteps := 4000000) [hd0, hfr, hout, hcl, hcd, delA_none, ha, ha_n, ha_d, ha_m, upTo_all h, hp]

theorem laws_toTxn (H : HH) {row cs : List Cell} (ok : okTxn 1048576 row) (hr : Refs H row cs) : PFun Try.prog 52 [.a cs] H (.a row) := by
  obtain ⟨a0, a1, a2, a3, c4, rfl, lc4, oc4⟩ := ok
  simp only [Refs_v, Refs_own, Refs_nil] at hr
  obtain ⟨_, rfl, _, rfl, _, rfl, _, rfl, rc4, qc4, _, rfl, hc4, rfl⟩ := hr
  have pc4 : ∀ K, CleanRows K c4 := fun K x hx => okUndo_pure (oc4 x hx) K
  refine PFun.of [1, 2, 3] Try.func52 rfl (by simp [Try.f52]) ?_
  intro d hd0 hfr hcl hout
  have hcd : ∀ n q, CleanH (hit [((d, n), q)]) H := fun n q => hcl.at
  have hc4_n : ∀ n, ¬ (d, n) = rc4 := fun n => nm_ne (ne_of_arr hfr hc4)
  have hc4_d : ¬ rc4.1 = d := ne_of_arr hfr hc4
  have hc4_m : ∀ n, ¬ rc4 = (d, n) := fun n => nm_ne' (ne_of_arr hfr hc4)
  simp (maxSteps := 4000000) [hd0, hfr, hout, hcl, hcd, delA_none, hc4, hc4_n, hc4_d, hc4_m, Try.f52]
  refine (laws_toUndoS _ lc4 oc4 (by simp (maxSteps := 4000000) [hd0, hfr, hout, hcl, hcd, delA_none, hc4, hc4_n, hc4_d, hc4_m])).useCK ?_
  simp (maxSteps := 4000000) [hd0, hfr, hout, hcl, hcd, delA_none, hc4, hc4_n, hc4_d, hc4_m, pc4]

theorem laws_toTxnS (H : HH) {r q} {rows : List (List Cell)} (hb : rows.length ≤ 1048576) (ok : ∀ x ∈ rows, okTxn 1048576 x) (ha : arrAt H r q = some (5, rows)) : PFun Try.prog 25 [.c (.sl r q 5 0 rows.length)] H (.c (.own 5 rows)) := by
  refine PFun.of [0, 2, 3, 4, 11] Try.func25 rfl (by simp [Try.f25]) ?_
  intro d hd0 hfr hcl hout
  have hcd : ∀ n q, CleanH (hit [((d, n), q)]) H := fun n q => hcl.at
  have ha_n : ∀ n, ¬ (d, n) = r := fun n => nm_ne (ne_of_arr hfr ha)
  have ha_d : ¬ r.1 = d := ne_of_arr hfr ha
  have ha_m : ∀ n, ¬ r = (d, n) := fun n => nm_ne' (ne_of_arr hfr ha)
  simp (maxSteps := 4000000) [hd0, hfr, hout, hcl, hcd, delA_none, ha, ha_n, ha_d, ha_m, Try.f25]
  have hp : ∀ K, CleanRows K rows := fun K x hx => okTxn_pure (ok x hx) K
  refine ⟨by omega, ?_⟩
  refine LoopK.intro (fun m s => ∃ i : Nat, i + m = rows.length ∧ s = ⟨[(0, .c (.sl r q 5 0 rows.length)), (3, .c (.sl (d, 3) [] 5 0 rows.length)), (4, I i)], ((d, 3), .own 5 (upTo [.v (.int .i64 0), .v (.int .i64 0), .v (.int .i64 0), .v (.int .i64 0), .own 4 []] rows i)) :: H, []⟩) (rows.length + 1)
    (LK.intro rows.length [0, 3, 4] [2] (by omega) (by decide) (by simp (maxSteps := 4000000) [hd0, hfr, hout, hcl, hcd, delA_none, ha, ha_n, ha_d, ha_m]) ⟨0, by simp [upTo_zero]⟩) ?_
  rintro m s ⟨i, him, rfl⟩
  simp (maxSteps := 4000000) [hd0, hfr, hout, hcl, hcd, delA_none, ha, ha_n, ha_d, ha_m]
  constructor
  · intro hi
    have hi' : i < rows.length := by omega
    have w1 : IntKind.i64.wrap ((i : Int) + 1) = i + 1 := w64 (by omega) (by omega)
    have hok := ok _ (List.getElem_mem hi')
    have hs := upTo_set (r := [.v (.int .i64 0), .v (.int .i64 0), .v (.int .i64 0), .v (.int .i64 0), .own 4 []]) hi'
    have hat := upTo_at (r := [.v (.int .i64 0), .v (.int .i64 0), .v (.int .i64 0), .v (.int .i64 0), .own 4 []]) hi'
    have hatx := ix_of hat
    have hok' := hok
    obtain ⟨a0, a1, a2, a3, c4, hx, lc4, oc4⟩ := hok
    rw [hx] at hok' hs
    have pc4 : ∀ K, CleanRows K c4 := fun K x hx => okUndo_pure (oc4 x hx) K
    have sc4 := arrAt_sub ha (List.getElem?_eq_getElem hi') (f := 4) (by rw [hx]; rfl)
    simp (maxSteps := 4000000) [hd0, hfr, hout, hcl, hcd, delA_none, ha, ha_n, ha_d, ha_m, hi', hx]
    refine (laws_toTxn _ hok' (Refs_v.2 ⟨_, rfl, Refs_v.2 ⟨_, rfl, Refs_v.2 ⟨_, rfl, Refs_v.2 ⟨_, rfl, Refs_own.2 ⟨_, _, _, rfl, by simp (maxSteps := 4000000) [hd0, hfr, hout, hcl, hcd, delA_none, ha, ha_n, ha_d, ha_m, sc4], Refs_nil.2 rfl⟩⟩⟩⟩⟩)).useCK ?_
    simp (maxSteps := 4000000) [hd0, hfr, hout, hcl, hcd, delA_none, ha, ha_n, ha_d, ha_m, hi', hx, hatx, upTo_length, w1, hs, hp, CleanRows_upTo, pc4]
    exact LK.intro (m - 1) [0, 3, 4] [] (by omega) (by decide) (by simp (maxSteps := 4000000) [hd0, hfr, hout, hcl, hcd, delA_none, ha, ha_n, ha_d, ha_m]) ⟨i + 1, by omega, by simp [hs]⟩
  · intro h
    simp (maxSteps := 4000000) [hd0, hfr, hout, hcl, hcd, delA_none, ha, ha_n, ha_d, ha_m, upTo_all h, hp]

theorem laws_toVersion (H : HH) {row cs : List Cell} (ok : okVersion 1048576 row) (hr : Refs H row cs) : PFun Try.prog 112 [.a cs] H (.a row) := by
  obtain ⟨a0, a1, a2, a3, rfl⟩ := ok
  simp only [Refs_v, Refs_own, Refs_nil] at hr
  obtain ⟨_, rfl, _, rfl, _, rfl, _, rfl, rfl⟩ := hr
  refine PFun.of [1, 2, 3] Try.func112 rfl (by simp [Try.f112]) ?_
  intro d hd0 hfr hcl hout
  have hcd : ∀ n q, CleanH (hit [((d, n), q)]) H := fun n q => hcl.at
  simp (maxSteps := 4000000) [hd0, hfr, hout, hcl, hcd, delA_none, Try.f112]

theorem laws_toVersionS (H : HH) {r q} {rows : List (List Cell)} (hb : rows.length ≤ 1048576) (ok : ∀ x ∈ rows, okVersion 1048576 x) (ha : arrAt H r q = some (4, rows)) : PFun Try.prog 93 [.c (.sl r q 4 0 rows.length)] H (.c (.own 4 rows)) := by
  refine PFun.of [0, 2, 3, 4, 11] Try.func93 rfl (by simp [Try.f93]) ?_
  intro d hd0 hfr hcl hout
  have hcd : ∀ n q, CleanH (hit [((d, n), q)]) H := fun n q => hcl.at
  have ha_n : ∀ n, ¬ (d, n) = r := fun n => nm_ne (ne_of_arr hfr ha)
  have ha_d : ¬ r.1 = d := ne_of_arr hfr ha
  have ha_m : ∀ n, ¬ r = (d, n) := fun n => nm_ne' (ne_of_arr hfr ha)
  simp (maxSteps := 4000000) [hd0, hfr, hout, hcl, hcd, delA_none, ha, ha_n, ha_d, ha_m, Try.f93]
  have hp : ∀ K, CleanRows K rows := fun K x hx => okVersion_pure (ok x hx) K
  refine ⟨by omega, ?_⟩
  refine LoopK.intro (fun m s => ∃ i : Nat, i + m = rows.length ∧ s = ⟨[(0, .c (.sl r q 4 0 rows.length)), (3, .c (.sl (d, 3) [] 4 0 rows.length)), (4, I i)], ((d, 3), .own 4 (upTo [.v (.int .i64 0), .v (.int .i64 0), .v (.bool false), .v (.int .i64 0)] rows i)) :: H, []⟩) (rows.length + 1)
    (LK.intro rows.length [0, 3, 4] [2] (by omega) (by decide) (by simp (maxSteps := 4000000) [hd0, hfr, hout, hcl, hcd, delA_none, ha, ha_n, ha_d, ha_m]) ⟨0, by simp [upTo_zero]⟩) ?_
  rintro m s ⟨i, him, rfl⟩
  simp (maxSteps := 4000000) [hd0, hfr, hout, hcl, hcd, delA_none, ha, ha_n, ha_d, ha_m]
  constructor
  · intro hi
    have hi' : i < rows.length := by omega
    have w1 : IntKind.i64.wrap ((i : Int) + 1) = i + 1 := w64 (by omega) (by omega)
    have hok := ok _ (List.getElem_mem hi')
    have hs := upTo_set (r := [.v (.int .i64 0), .v (.int .i64 0), .v (.bool false), .v (.int .i64 0)]) hi'
    have hat := upTo_at (r := [.v (.int .i64 0), .v (.int .i64 0), .v (.bool false), .v (.int .i64 0)]) hi'
    have hatx := ix_of hat
    have hok' := hok
    obtain ⟨a0, a1, a2, a3, hx⟩ := hok
    rw [hx] at hok' hs
    simp (maxSteps := 4000000) [hd0, hfr, hout, hcl, hcd, delA_none, ha, ha_n, ha_d, ha_m, hi', hx]
    refine (laws_toVersion _ hok' (Refs_v.2 ⟨_, rfl, Refs_v.2 ⟨_, rfl, Refs_v.2 ⟨_, rfl, Refs_v.2 ⟨_, rfl, Refs_nil.2 rfl⟩⟩⟩⟩)).useCK ?_
    simp (maxSteps := 4000000) [hd0, hfr, hout, hcl, hcd, delA_none, ha, ha_n, ha_d, ha_m, hi', hx, hatx, upTo_length, w1, hs, hp, CleanRows_upTo]
    exact LK.intro (m - 1) [0, 3, 4] [] (by omega) (by decide) (by simp (maxSteps := 4000000) [hd0, hfr, hout, hcl, hcd, delA_none, ha, ha_n, ha_d, ha_m]) ⟨i + 1, by omega, by simp [hs]⟩
  · intro h
    simp (maxSteps := 4000000) [hd0, hfr, hout, hcl, hcd, delA_none, ha, ha_n, ha_d, ha_m, upTo_all h, hp]

theorem laws_toRow (H : HH) {row cs : List Cell} (ok : okRow 1048576 row) (hr : Refs H row cs) : PFun Try.prog 53 [.a cs] H (.a row) := by
  obtain ⟨a0, c1, rfl, lc1, oc1⟩ := ok
  simp only [Refs_v, Refs_own, Refs_nil] at hr
  obtain ⟨_, rfl, rc1, qc1, _, rfl, hc1, rfl⟩ := hr
  have pc1 : ∀ K, CleanRows K c1 := fun K x hx => okVersion_pure (oc1 x hx) K
  refine PFun.of [1, 2, 3] Try.func53 rfl (by simp [Try.f53]) ?_
  intro d hd0 hfr hcl hout
  have hcd : ∀ n q, CleanH (hit [((d, n), q)]) H := fun n q => hcl.at
  have hc1_n : ∀ n, ¬ (d, n) = rc1 := fun n => nm_ne (ne_of_arr hfr hc1)
  have hc1_d : ¬ rc1.1 = d := ne_of_arr hfr hc1
  have hc1_m : ∀ n, ¬ rc1 = (d, n) := fun n => nm_ne' (ne_of_arr hfr hc1)
  simp (maxSteps := 4000000) [hd0, hfr, hout, hcl, hcd, delA_none, hc1, hc1_n, hc1_d, hc1_m, Try.f53]
  refine (laws_toVersionS _ lc1 oc1 (by simp (maxSteps := 4000000) [hd0, hfr, hout, hcl, hcd, delA_none, hc1, hc1_n, hc1_d, hc1_m])).useCK ?_
  simp (maxSteps := 4000000) [hd0, hfr, hout, hcl, hcd, delA_none, hc1, hc1_n, hc1_d, hc1_m, pc1]

theorem laws_toRowS (H : HH) {r q} {rows : List (List Cell)} (hb : rows.length ≤ 1048576) (ok : ∀ x ∈ rows, okRow 1048576 x) (ha : arrAt H r q = some (2, rows)) : PFun Try.prog 26 [.c (.sl r q 2 0 rows.length)] H (.c (.own 2 rows)) := by
  refine PFun.of [0, 2, 3, 4, 11] Try.func26 rfl (by simp [Try.f26]) ?_
  intro d hd0 hfr hcl hout
  have hcd : ∀ n q, CleanH (hit [((d, n), q)]) H := fun n q => hcl.at
  have ha_n : ∀ n, ¬ (d, n) = r := fun n => nm_ne (ne_of_arr hfr ha)
  have ha_d : ¬ r.1 = d := ne_of_arr hfr ha
  have ha_m : ∀ n, ¬ r = (d, n) := fun n => nm_ne' (ne_of_arr hfr ha)
  simp (maxSteps := 4000000) [hd0, hfr, hout, hcl, hcd, delA_none, ha, ha_n, ha_d, ha_m, Try.f26]
  have hp : ∀ K, CleanRows K rows := fun K x hx => okRow_pure (ok x hx) K
  refine ⟨by omega, ?_⟩
  refine LoopK.intro (fun m s => ∃ i : Nat, i + m = rows.length ∧ s = ⟨[(0, .c (.sl r q 2 0 rows.length)), (3, .c (.sl (d, 3) [] 2 0 rows.length)), (4, I i)], ((d, 3), .own 2 (upTo [.v (.int .i64 0), .own 4 []] rows i)) :: H, []⟩) (rows.length + 1)
    (LK.intro rows.length [0, 3, 4] [2] (by omega) (by decide) (by simp (maxSteps := 4000000) [hd0, hfr, hout, hcl, hcd, delA_none, ha, ha_n, ha_d, ha_m]) ⟨0, by simp [upTo_zero]⟩) ?_
  rintro m s ⟨i, him, rfl⟩
  simp (maxSteps := 4000000) [hd0, hfr, hout, hcl, hcd, delA_none, ha, ha_n, ha_d, ha_m]
  constructor
  · intro hi
    have hi' : i < rows.length := by omega
    have w1 : IntKind.i64.wrap ((i : Int) + 1) = i + 1 := w64 (by omega) (by omega)
    have hok := ok _ (List.getElem_mem hi')
    have hs := upTo_set (r := [.v (.int .i64 0), .own 4 []]) hi'
    have hat := upTo_at (r := [.v (.int .i64 0), .own 4 []]) hi'
    have hatx := ix_of hat
    have hok' := hok
    obtain ⟨a0, c1, hx, lc1, oc1⟩ := hok
    rw [hx] at hok' hs
    have pc1 : ∀ K, CleanRows K c1 := fun K x hx => okVersion_pure (oc1 x hx) K
    have sc1 := arrAt_sub ha (List.getElem?_eq_getElem hi') (f := 1) (by rw [hx]; rfl)
    simp (maxSteps := 4000000) [hd0, hfr, hout, hcl, hcd, delA_none, ha, ha_n, ha_d, ha_m, hi', hx]
    refine (laws_toRow _ hok' (Refs_v.2 ⟨_, rfl, Refs_own.2 ⟨_, _, _, rfl, by simp (maxSteps := 4000000) [hd0, hfr, hout, hcl, hcd, delA_none, ha, ha_n, ha_d, ha_m, sc1], Refs_nil.2 rfl⟩⟩)).useCK ?_
    simp (maxSteps := 4000000) [hd0, hfr, hout, hcl, hcd, delA_none, ha, ha_n, ha_d, ha_m, hi', hx, hatx, upTo_length, w1, hs, hp, CleanRows_upTo, pc1]
    exact LK.intro (m - 1) [0, 3, 4] [] (by omega) (by decide) (by simp (maxSteps := 4000000) [hd0, hfr, hout, hcl, hcd, delA_none, ha, ha_n, ha_d, ha_m]) ⟨i + 1, by omega, by simp [hs]⟩
  · intro h
    simp (maxSteps := 4000000) [hd0, hfr, hout, hcl, hcd, delA_none, ha, ha_n, ha_d, ha_m, upTo_all h, hp]

theorem laws_toEngine (H : HH) {row cs : List Cell} (ok : okEngine 1048576 row) (hr : Refs H row cs) : PFun Try.prog 8 [.a cs] H (.a row) := by
  obtain ⟨a0, a1, c2, c3, rfl, lc2, oc2, lc3, oc3⟩ := ok
  simp only [Refs_v, Refs_own, Refs_nil] at hr
  obtain ⟨_, rfl, _, rfl, rc2, qc2, _, rfl, hc2, rc3, qc3, _, rfl, hc3, rfl⟩ := hr
  have pc2 : ∀ K, CleanRows K c2 := fun K x hx => okTxn_pure (oc2 x hx) K
  have pc3 : ∀ K, CleanRows K c3 := fun K x hx => okRow_pure (oc3 x hx) K
  refine PFun.of [1, 2, 3] Try.func8 rfl (by simp [Try.f8]) ?_
  intro d hd0 hfr hcl hout
  have hcd : ∀ n q, CleanH (hit [((d, n), q)]) H := fun n q => hcl.at
  have hc2_n : ∀ n, ¬ (d, n) = rc2 := fun n => nm_ne (ne_of_arr hfr hc2)
  have hc2_d : ¬ rc2.1 = d := ne_of_arr hfr hc2
  have hc2_m : ∀ n, ¬ rc2 = (d, n) := fun n => nm_ne' (ne_of_arr hfr hc2)
  have hc3_n : ∀ n, ¬ (d, n) = rc3 := fun n => nm_ne (ne_of_arr hfr hc3)
  have hc3_d : ¬ rc3.1 = d := ne_of_arr hfr hc3
  have hc3_m : ∀ n, ¬ rc3 = (d, n) := fun n => nm_ne' (ne_of_arr hfr hc3)
  simp (maxSteps := 4000000) [hd0, hfr, hout, hcl, hcd, delA_none, hc2, hc2_n, hc2_d, hc2_m, hc3, hc3_n, hc3_d, hc3_m, Try.f8]
  refine (laws_toTxnS _ lc2 oc2 (by simp (maxSteps := 4000000) [hd0, hfr, hout, hcl, hcd, delA_none, hc2, hc2_n, hc2_d, hc2_m, hc3, hc3_n, hc3_d, hc3_m])).useCK ?_
  simp (maxSteps := 4000000) [hd0, hfr, hout, hcl, hcd, delA_none, hc2, hc2_n, hc2_d, hc2_m, hc3, hc3_n, hc3_d, hc3_m, pc2, pc3]
  refine (laws_toRowS _ lc3 oc3 (by simp (maxSteps := 4000000) [hd0, hfr, hout, hcl, hcd, delA_none, hc2, hc2_n, hc2_d, hc2_m, hc3, hc3_n, hc3_d, hc3_m])).useCK ?_
  simp (maxSteps := 4000000) [hd0, hfr, hout, hcl, hcd, delA_none, hc2, hc2_n, hc2_d, hc2_m, hc3, hc3_n, hc3_d, hc3_m, pc2, pc3]
end Go.Proofs.Ytnlbjfdmjlnlgaa


namespace Go.Px
set_option linter.unusedVariables false
def encI (n : Int) : List Cell := [.v (.int .i64 n)]
def encU8 (n : Int) : List Cell := [.v (.int .u8 n)]
def encB (n : Bool) : List Cell := [.v (.bool n)]
def encS {α : Type} (z : Nat) (e : α → List Cell) (l : List α) : List Cell := [.own z (l.map e)]
theorem encI_ok (n : Int) : okI64 (encI n) := ⟨n, rfl⟩
theorem encU8_ok (n : Int) : okU8 (encU8 n) := ⟨n, rfl⟩
theorem encS_to {α : Type} {z B : Nat} {e : α → List Cell} {y : List α} {p : List Cell → Prop} (h : ∃ c, encS z e y = [.own z c] ∧ c.length ≤ B ∧ ∀ x ∈ c, p x) : y.length ≤ B := by
  obtain ⟨c, h1, h2, h3⟩ := h
  simp only [encS, List.cons.injEq, Cell.own.injEq, and_true, true_and] at h1
  subst h1; simpa using h2
section
variable {K : Cell → Prop} {n : Int} {b : Bool} {α : Type} {z : Nat} {e : α → List Cell} {l : List α}
@[simp] theorem encI_clean : cells1 K (encI n) ↔ True := by simp [encI, Clean.v]
@[simp] theorem encU8_clean : cells1 K (encU8 n) ↔ True := by simp [encU8, Clean.v]
@[simp] theorem encB_clean : cells1 K (encB b) ↔ True := by simp [encB, Clean.v]
@[simp] theorem encS_clean : cells1 K (encS z e l) ↔ ∀ x ∈ l, cells1 K (e x) := by simp [encS]
end
end Go.Px

namespace Go.Proofs.Ytnlbjfdmjlnlgaa
open Go Go.Px Go.RowKit Go.Proofs
set_option linter.unnecessarySimpa false
set_option linter.unusedVariables false
set_option linter.unusedSimpArgs false
set_option maxRecDepth 100000
attribute [-simp] Int.not_le Int.not_lt
structure DUndo where
  key : Int
  had : Bool
  gone : Bool
  value : Int
def DUndo.enc (x : DUndo) : List Cell := [.v (.int .i64 x.key), .v (.bool x.had), .v (.bool x.gone), .v (.int .i64 x.value)]
@[simp] theorem DUndo.pure (x : DUndo) : ∀ K, cells1 K x.enc := by intro K; simp [DUndo.enc, Clean.v]
def DUndo.wf (x : DUndo) : Prop := (Lit.int .i64 x.key).wf = true ∧ True ∧ True ∧ (Lit.int .i64 x.value).wf = true
theorem DUndo.ok (B : Nat) (x : DUndo) : okUndo B x.enc := ⟨x.key, x.had, x.gone, x.value, rfl⟩
structure DTxn where
  id_ : Int
  at_ : Int
  state : Int
  done : Int
  undos : List (DUndo)
def DTxn.enc (x : DTxn) : List Cell := [.v (.int .i64 x.id_), .v (.int .i64 x.at_), .v (.int .i64 x.state), .v (.int .i64 x.done), .own 4 (x.undos.map DUndo.enc)]
@[simp] theorem DTxn.pure (x : DTxn) : ∀ K, cells1 K x.enc := by intro K; simp [DTxn.enc, Clean.v, DUndo.pure]
def DTxn.wf (x : DTxn) : Prop := (Lit.int .i64 x.id_).wf = true ∧ (Lit.int .i64 x.at_).wf = true ∧ (Lit.int .i64 x.state).wf = true ∧ (Lit.int .i64 x.done).wf = true ∧ (x.undos.length ≤ maxLen ∧ ∀ y ∈ x.undos, y.wf)
def DTxn.le (B : Nat) (x : DTxn) : Prop := (x.undos.length ≤ B)
theorem DTxn.wf_le {x : DTxn} (h : x.wf) : x.le 9223372036854775807 := (h.2.2.2.2).1
theorem DTxn.ok {B : Nat} {x : DTxn} : okTxn B x.enc ↔ DTxn.le B x := by
  constructor
  · rintro ⟨a0, a1, a2, a3, c4, h, lc4, oc4⟩
    simp only [DTxn.enc, List.cons.injEq, Cell.v.injEq, Cell.own.injEq, Value.int.injEq, Value.bool.injEq, true_and, and_true] at h
    obtain ⟨rfl, rfl, rfl, rfl, rfl⟩ := h
    simp only [DTxn.le]; exact (by simpa using lc4)
  · intro h
    simp only [DTxn.le] at h; have lc4 := h; exact ⟨x.id_, x.at_, x.state, x.done, (x.undos.map DUndo.enc), rfl, (by simpa using lc4), (by intro r hr; obtain ⟨y, hy, rfl⟩ := List.mem_map.1 hr; exact DUndo.ok _ y)⟩
structure DVersion where
  txn : Int
  at_ : Int
  gone : Bool
  value : Int
def DVersion.enc (x : DVersion) : List Cell := [.v (.int .i64 x.txn), .v (.int .i64 x.at_), .v (.bool x.gone), .v (.int .i64 x.value)]
@[simp] theorem DVersion.pure (x : DVersion) : ∀ K, cells1 K x.enc := by intro K; simp [DVersion.enc, Clean.v]
def DVersion.wf (x : DVersion) : Prop := (Lit.int .i64 x.txn).wf = true ∧ (Lit.int .i64 x.at_).wf = true ∧ True ∧ (Lit.int .i64 x.value).wf = true
theorem DVersion.ok (B : Nat) (x : DVersion) : okVersion B x.enc := ⟨x.txn, x.at_, x.gone, x.value, rfl⟩
structure DRow where
  key : Int
  chain : List (DVersion)
def DRow.enc (x : DRow) : List Cell := [.v (.int .i64 x.key), .own 4 (x.chain.map DVersion.enc)]
@[simp] theorem DRow.pure (x : DRow) : ∀ K, cells1 K x.enc := by intro K; simp [DRow.enc, Clean.v, DVersion.pure]
def DRow.wf (x : DRow) : Prop := (Lit.int .i64 x.key).wf = true ∧ (x.chain.length ≤ maxLen ∧ ∀ y ∈ x.chain, y.wf)
def DRow.le (B : Nat) (x : DRow) : Prop := (x.chain.length ≤ B)
theorem DRow.wf_le {x : DRow} (h : x.wf) : x.le 9223372036854775807 := (h.2).1
theorem DRow.ok {B : Nat} {x : DRow} : okRow B x.enc ↔ DRow.le B x := by
  constructor
  · rintro ⟨a0, c1, h, lc1, oc1⟩
    simp only [DRow.enc, List.cons.injEq, Cell.v.injEq, Cell.own.injEq, Value.int.injEq, Value.bool.injEq, true_and, and_true] at h
    obtain ⟨rfl, rfl⟩ := h
    simp only [DRow.le]; exact (by simpa using lc1)
  · intro h
    simp only [DRow.le] at h; have lc1 := h; exact ⟨x.key, (x.chain.map DVersion.enc), rfl, (by simpa using lc1), (by intro r hr; obtain ⟨y, hy, rfl⟩ := List.mem_map.1 hr; exact DVersion.ok _ y)⟩
structure DEngine where
  next : Int
  clock : Int
  txns : List (DTxn)
  rows : List (DRow)
def DEngine.enc (x : DEngine) : List Cell := [.v (.int .i64 x.next), .v (.int .i64 x.clock), .own 5 (x.txns.map DTxn.enc), .own 2 (x.rows.map DRow.enc)]
@[simp] theorem DEngine.pure (x : DEngine) : ∀ K, cells1 K x.enc := by intro K; simp [DEngine.enc, Clean.v, DRow.pure, DTxn.pure]
def DEngine.wf (x : DEngine) : Prop := (Lit.int .i64 x.next).wf = true ∧ (Lit.int .i64 x.clock).wf = true ∧ (x.txns.length ≤ maxLen ∧ ∀ y ∈ x.txns, y.wf) ∧ (x.rows.length ≤ maxLen ∧ ∀ y ∈ x.rows, y.wf)
def DEngine.le (B : Nat) (x : DEngine) : Prop := (x.txns.length ≤ B ∧ ∀ y ∈ x.txns, DTxn.le B y) ∧ (x.rows.length ≤ B ∧ ∀ y ∈ x.rows, DRow.le B y)
theorem DEngine.wf_le {x : DEngine} (h : x.wf) : x.le 9223372036854775807 := ⟨⟨(h.2.2.1).1, fun y hy => DTxn.wf_le (((h.2.2.1).2 y hy))⟩, ⟨(h.2.2.2).1, fun y hy => DRow.wf_le (((h.2.2.2).2 y hy))⟩⟩
theorem DEngine.ok {B : Nat} {x : DEngine} : okEngine B x.enc ↔ DEngine.le B x := by
  constructor
  · rintro ⟨a0, a1, c2, c3, h, lc2, oc2, lc3, oc3⟩
    simp only [DEngine.enc, List.cons.injEq, Cell.v.injEq, Cell.own.injEq, Value.int.injEq, Value.bool.injEq, true_and, and_true] at h
    obtain ⟨rfl, rfl, rfl, rfl⟩ := h
    simp only [DEngine.le]; exact ⟨⟨by simpa using lc2, fun y hy => DTxn.ok.1 (oc2 _ (List.mem_map.2 ⟨y, hy, rfl⟩))⟩, ⟨by simpa using lc3, fun y hy => DRow.ok.1 (oc3 _ (List.mem_map.2 ⟨y, hy, rfl⟩))⟩⟩
  · intro h
    simp only [DEngine.le] at h; obtain ⟨⟨lc2, mc2⟩, ⟨lc3, mc3⟩⟩ := h; exact ⟨x.next, x.clock, (x.txns.map DTxn.enc), (x.rows.map DRow.enc), rfl, (by simpa using lc2), (by intro r hr; obtain ⟨y, hy, rfl⟩ := List.mem_map.1 hr; exact DTxn.ok.2 (mc2 y hy)), (by simpa using lc3), (by intro r hr; obtain ⟨y, hy, rfl⟩ := List.mem_map.1 hr; exact DRow.ok.2 (mc3 y hy))⟩
structure DEngineResult where
  code : Int
  value : Int
  engine : DEngine
def DEngineResult.enc (x : DEngineResult) : List Cell := [.v (.int .i64 x.code), .v (.int .i64 x.value), .v (.int .i64 x.engine.next), .v (.int .i64 x.engine.clock), .own 5 (x.engine.txns.map DTxn.enc), .own 2 (x.engine.rows.map DRow.enc)]
@[simp] theorem DEngineResult.pure (x : DEngineResult) : ∀ K, cells1 K x.enc := by intro K; simp [DEngineResult.enc, Clean.v, DRow.pure, DTxn.pure]
def DEngineResult.wf (x : DEngineResult) : Prop := (Lit.int .i64 x.code).wf = true ∧ (Lit.int .i64 x.value).wf = true ∧ x.engine.wf
def DEngineResult.le (B : Nat) (x : DEngineResult) : Prop := DEngine.le B x.engine
theorem DEngineResult.wf_le {x : DEngineResult} (h : x.wf) : x.le 9223372036854775807 := DEngine.wf_le (h.2.2)
theorem DEngineResult.ok {B : Nat} {x : DEngineResult} : okEngineResult B x.enc ↔ DEngineResult.le B x := by
  constructor
  · rintro ⟨a0, a1, a2, a3, c4, c5, h, lc4, oc4, lc5, oc5⟩
    simp only [DEngineResult.enc, List.cons.injEq, Cell.v.injEq, Cell.own.injEq, Value.int.injEq, Value.bool.injEq, true_and, and_true] at h
    obtain ⟨rfl, rfl, rfl, rfl, rfl, rfl⟩ := h
    simp only [DEngineResult.le, DEngine.le]; exact ⟨⟨by simpa using lc4, fun y hy => DTxn.ok.1 (oc4 _ (List.mem_map.2 ⟨y, hy, rfl⟩))⟩, ⟨by simpa using lc5, fun y hy => DRow.ok.1 (oc5 _ (List.mem_map.2 ⟨y, hy, rfl⟩))⟩⟩
  · intro h
    simp only [DEngineResult.le, DEngine.le] at h; obtain ⟨⟨lc4, mc4⟩, ⟨lc5, mc5⟩⟩ := h; exact ⟨x.code, x.value, x.engine.next, x.engine.clock, (x.engine.txns.map DTxn.enc), (x.engine.rows.map DRow.enc), rfl, (by simpa using lc4), (by intro r hr; obtain ⟨y, hy, rfl⟩ := List.mem_map.1 hr; exact DTxn.ok.2 (mc4 y hy)), (by simpa using lc5), (by intro r hr; obtain ⟨y, hy, rfl⟩ := List.mem_map.1 hr; exact DRow.ok.2 (mc5 y hy))⟩
structure DGarbageResult where
  code : Int
  versions : Int
  rows : Int
  txns : Int
def DGarbageResult.enc (x : DGarbageResult) : List Cell := [.v (.int .i64 x.code), .v (.int .i64 x.versions), .v (.int .i64 x.rows), .v (.int .i64 x.txns)]
@[simp] theorem DGarbageResult.pure (x : DGarbageResult) : ∀ K, cells1 K x.enc := by intro K; simp [DGarbageResult.enc, Clean.v]
def DGarbageResult.wf (x : DGarbageResult) : Prop := (Lit.int .i64 x.code).wf = true ∧ (Lit.int .i64 x.versions).wf = true ∧ (Lit.int .i64 x.rows).wf = true ∧ (Lit.int .i64 x.txns).wf = true
theorem DGarbageResult.ok (B : Nat) (x : DGarbageResult) : okGarbageResult B x.enc := ⟨x.code, x.versions, x.rows, x.txns, rfl⟩
theorem op132 : Px.Op Try.prog 132 4 DUndo.enc DUndo.wf := by
  refine Px.Op.struct (fs := #[{ name := "Key", type := 2, offset := 0, embedded := false, tag := "", pkgPath := "", byteOffset := 0 }, { name := "Had", type := 4, offset := 1, embedded := false, tag := "", pkgPath := "", byteOffset := 8 }, { name := "Gone", type := 4, offset := 2, embedded := false, tag := "", pkgPath := "", byteOffset := 9 }, { name := "Value", type := 2, offset := 3, embedded := false, tag := "", pkgPath := "", byteOffset := 16 }]) (fun p : (Int) × (Bool) × (Bool) × (Int) => (⟨p.1, p.2.1, p.2.2.1, p.2.2.2⟩ : DUndo)) (by kernel_rfl) (by kernel_rfl) ?_ ?_ (OpF.cons (off := 0) (off' := 1) (n := 1) (n' := 3) rfl (by kernel_rfl) (Px.Op.int (t := 2) (k := .i64) (by kernel_rfl)) rfl (OpF.cons (off := 1) (off' := 2) (n := 1) (n' := 2) rfl (by kernel_rfl) (Px.Op.bool (t := 4) (by kernel_rfl)) rfl (OpF.cons (off := 2) (off' := 3) (n := 1) (n' := 1) rfl (by kernel_rfl) (Px.Op.bool (t := 4) (by kernel_rfl)) rfl (OpF.one (off := 3) (n := 1) rfl (by kernel_rfl) (Px.Op.int (t := 2) (k := .i64) (by kernel_rfl))))))
  · exact fun p => rfl
  · exact fun p h => h
theorem op82 : Px.Op Try.prog 82 5 DTxn.enc DTxn.wf := by
  refine Px.Op.struct (fs := #[{ name := "Id", type := 2, offset := 0, embedded := false, tag := "", pkgPath := "", byteOffset := 0 }, { name := "At", type := 2, offset := 1, embedded := false, tag := "", pkgPath := "", byteOffset := 8 }, { name := "State", type := 2, offset := 2, embedded := false, tag := "", pkgPath := "", byteOffset := 16 }, { name := "Done", type := 2, offset := 3, embedded := false, tag := "", pkgPath := "", byteOffset := 24 }, { name := "Undos", type := 80, offset := 4, embedded := false, tag := "", pkgPath := "", byteOffset := 32 }]) (fun p : (Int) × (Int) × (Int) × (Int) × (List (DUndo)) => (⟨p.1, p.2.1, p.2.2.1, p.2.2.2.1, p.2.2.2.2⟩ : DTxn)) (by kernel_rfl) (by kernel_rfl) ?_ ?_ (OpF.cons (off := 0) (off' := 1) (n := 1) (n' := 4) rfl (by kernel_rfl) (Px.Op.int (t := 2) (k := .i64) (by kernel_rfl)) rfl (OpF.cons (off := 1) (off' := 2) (n := 1) (n' := 3) rfl (by kernel_rfl) (Px.Op.int (t := 2) (k := .i64) (by kernel_rfl)) rfl (OpF.cons (off := 2) (off' := 3) (n := 1) (n' := 2) rfl (by kernel_rfl) (Px.Op.int (t := 2) (k := .i64) (by kernel_rfl)) rfl (OpF.cons (off := 3) (off' := 4) (n := 1) (n' := 1) rfl (by kernel_rfl) (Px.Op.int (t := 2) (k := .i64) (by kernel_rfl)) rfl (OpF.one (off := 4) (n := 1) rfl (by kernel_rfl) (Px.Op.slice (t := 80) (e := 132) (enc := DUndo.enc) (by kernel_rfl) (by kernel_rfl) (by decide) op132))))))
  · exact fun p => rfl
  · exact fun p h => h
theorem op134 : Px.Op Try.prog 134 4 DVersion.enc DVersion.wf := by
  refine Px.Op.struct (fs := #[{ name := "Txn", type := 2, offset := 0, embedded := false, tag := "", pkgPath := "", byteOffset := 0 }, { name := "At", type := 2, offset := 1, embedded := false, tag := "", pkgPath := "", byteOffset := 8 }, { name := "Gone", type := 4, offset := 2, embedded := false, tag := "", pkgPath := "", byteOffset := 16 }, { name := "Value", type := 2, offset := 3, embedded := false, tag := "", pkgPath := "", byteOffset := 24 }]) (fun p : (Int) × (Int) × (Bool) × (Int) => (⟨p.1, p.2.1, p.2.2.1, p.2.2.2⟩ : DVersion)) (by kernel_rfl) (by kernel_rfl) ?_ ?_ (OpF.cons (off := 0) (off' := 1) (n := 1) (n' := 3) rfl (by kernel_rfl) (Px.Op.int (t := 2) (k := .i64) (by kernel_rfl)) rfl (OpF.cons (off := 1) (off' := 2) (n := 1) (n' := 2) rfl (by kernel_rfl) (Px.Op.int (t := 2) (k := .i64) (by kernel_rfl)) rfl (OpF.cons (off := 2) (off' := 3) (n := 1) (n' := 1) rfl (by kernel_rfl) (Px.Op.bool (t := 4) (by kernel_rfl)) rfl (OpF.one (off := 3) (n := 1) rfl (by kernel_rfl) (Px.Op.int (t := 2) (k := .i64) (by kernel_rfl))))))
  · exact fun p => rfl
  · exact fun p h => h
theorem op86 : Px.Op Try.prog 86 2 DRow.enc DRow.wf := by
  refine Px.Op.struct (fs := #[{ name := "Key", type := 2, offset := 0, embedded := false, tag := "", pkgPath := "", byteOffset := 0 }, { name := "Chain", type := 84, offset := 1, embedded := false, tag := "", pkgPath := "", byteOffset := 8 }]) (fun p : (Int) × (List (DVersion)) => (⟨p.1, p.2⟩ : DRow)) (by kernel_rfl) (by kernel_rfl) ?_ ?_ (OpF.cons (off := 0) (off' := 1) (n := 1) (n' := 1) rfl (by kernel_rfl) (Px.Op.int (t := 2) (k := .i64) (by kernel_rfl)) rfl (OpF.one (off := 1) (n := 1) rfl (by kernel_rfl) (Px.Op.slice (t := 84) (e := 134) (enc := DVersion.enc) (by kernel_rfl) (by kernel_rfl) (by decide) op134)))
  · exact fun p => rfl
  · exact fun p h => h
theorem op25 : Px.Op Try.prog 25 4 DEngine.enc DEngine.wf := by
  refine Px.Op.struct (fs := #[{ name := "Next", type := 2, offset := 0, embedded := false, tag := "", pkgPath := "", byteOffset := 0 }, { name := "Clock", type := 2, offset := 1, embedded := false, tag := "", pkgPath := "", byteOffset := 8 }, { name := "Txns", type := 22, offset := 2, embedded := false, tag := "", pkgPath := "", byteOffset := 16 }, { name := "Rows", type := 23, offset := 3, embedded := false, tag := "", pkgPath := "", byteOffset := 40 }]) (fun p : (Int) × (Int) × (List (DTxn)) × (List (DRow)) => (⟨p.1, p.2.1, p.2.2.1, p.2.2.2⟩ : DEngine)) (by kernel_rfl) (by kernel_rfl) ?_ ?_ (OpF.cons (off := 0) (off' := 1) (n := 1) (n' := 3) rfl (by kernel_rfl) (Px.Op.int (t := 2) (k := .i64) (by kernel_rfl)) rfl (OpF.cons (off := 1) (off' := 2) (n := 1) (n' := 2) rfl (by kernel_rfl) (Px.Op.int (t := 2) (k := .i64) (by kernel_rfl)) rfl (OpF.cons (off := 2) (off' := 3) (n := 1) (n' := 1) rfl (by kernel_rfl) (Px.Op.slice (t := 22) (e := 82) (enc := DTxn.enc) (by kernel_rfl) (by kernel_rfl) (by decide) op82) rfl (OpF.one (off := 3) (n := 1) rfl (by kernel_rfl) (Px.Op.slice (t := 23) (e := 86) (enc := DRow.enc) (by kernel_rfl) (by kernel_rfl) (by decide) op86)))))
  · exact fun p => rfl
  · exact fun p h => h
end Go.Proofs.Ytnlbjfdmjlnlgaa


namespace Go.Proofs.Ytnlbjfdmjlnlgaa
open Go Go.Px Go.RowKit Go.Proofs
set_option linter.unnecessarySimpa false
set_option linter.unusedVariables false
set_option linter.unusedSimpArgs false
set_option maxRecDepth 100000
set_option maxHeartbeats 1000000
attribute [-simp] Int.not_le Int.not_lt
def inR (v lo hi : Int) : Bool := decide (lo ≤ v) && decide (v ≤ hi)
theorem spec_l1In (H : HH) (v lo hi : Int) : PFun Try.prog 47 [I v, I lo, I hi] H (B (inR v lo hi)) := by
  refine PFun.of [0, 1, 2, 6] Try.func47 rfl (by simp [Try.f47]) ?_
  intro d hd0 hfr hcl hout
  have hcd : ∀ n q, CleanH (hit [((d, n), q)]) H := fun n q => hcl.at
  simp (maxSteps := 4000000) [hd0, hfr, hout, hcl, hcd, delA_none, Try.f47]
  constructor <;> intros <;> simp_all [inR]
theorem impl_within (H : HH) (v lo hi : Int) : PFun Try.prog 68 [I v, I lo, I hi] H (B (inR v lo hi)) := by
  refine PFun.of [0, 1, 2, 6] Try.func68 rfl (by simp [Try.f68]) ?_
  intro d hd0 hfr hcl hout
  have hcd : ∀ n q, CleanH (hit [((d, n), q)]) H := fun n q => hcl.at
  simp (maxSteps := 4000000) [hd0, hfr, hout, hcl, hcd, delA_none, Try.f68]
  constructor <;> intros <;> simp_all [inR]
/-- the first place where a predicate holds, or -1 -/
def idxF {α : Type} (P : α → Bool) : List α → Int
  | [] => -1
  | x :: l => if P x then 0 else if idxF P l < 0 then -1 else idxF P l + 1
theorem idxF_ge {α : Type} {P : α → Bool} : ∀ {l : List α}, -1 ≤ idxF P l
  | [] => by simp [idxF]
  | x :: l => by
    have ih := idxF_ge (P := P) (l := l)
    simp only [idxF]; split <;> (try split) <;> omega
theorem idxF_any {α : Type} {P : α → Bool} : ∀ {l : List α}, decide (idxF P l ≥ 0) = l.any P
  | [] => by simp [idxF]
  | x :: l => by
    have ih := idxF_any (P := P) (l := l)
    simp only [idxF, List.any_cons, ← ih]
    by_cases h : P x = true
    · simp [h]
    · by_cases h2 : idxF P l < 0
      · simp [h, h2]; omega
      · simp [h, h2]; omega
theorem idxF_drop {α : Type} {P : α → Bool} {l : List α} {i : Nat} (h : ∀ x ∈ l.take i, P x = false) : idxF P l = if idxF P (l.drop i) < 0 then -1 else idxF P (l.drop i) + i := by
  induction l generalizing i with
  | nil => simp [idxF]
  | cons x l ih =>
    cases i with
    | zero => have := idxF_ge (P := P) (l := x :: l); simp; omega
    | succ i =>
      have hx : P x = false := h x (by simp)
      have := ih (i := i) (fun y hy => h y (by simp [hy]))
      simp only [idxF, hx, List.drop_succ_cons, Bool.false_eq_true, if_false]
      rw [this]
      by_cases h2 : idxF P (l.drop i) < 0
      · simp [h2]
      · simp only [h2, if_false]; rw [if_neg (by omega)]; push_cast; omega
end Go.Proofs.Ytnlbjfdmjlnlgaa

namespace Go.Proofs.Ytnlbjfdmjlnlgaa
open Go Go.Px Go.RowKit Go.Proofs
set_option linter.unnecessarySimpa false
set_option linter.unusedVariables false
set_option linter.unusedSimpArgs false
set_option maxRecDepth 100000
set_option maxHeartbeats 1000000
attribute [-simp] Int.not_le Int.not_lt
theorem impl_isTxn (H : HH) (v : Int) : PFun Try.prog 66 [I v] H (B (inR v 1 999)) := by
  refine PFun.of [0, 2] Try.func66 rfl (by simp [Try.f66]) ?_
  intro d hd0 hfr hcl hout
  have hcd : ∀ n q, CleanH (hit [((d, n), q)]) H := fun n q => hcl.at
  simp (maxSteps := 4000000) [hd0, hfr, hout, hcl, hcd, delA_none, Try.f66]
  refine (impl_within _ _ _ _).useCK ?_
  simp (maxSteps := 4000000) [hd0, hfr, hout, hcl, hcd, delA_none]
theorem impl_isLsn (H : HH) (v : Int) : PFun Try.prog 67 [I v] H (B (inR v 0 1000000)) := by
  refine PFun.of [0, 2] Try.func67 rfl (by simp [Try.f67]) ?_
  intro d hd0 hfr hcl hout
  have hcd : ∀ n q, CleanH (hit [((d, n), q)]) H := fun n q => hcl.at
  simp (maxSteps := 4000000) [hd0, hfr, hout, hcl, hcd, delA_none, Try.f67]
  refine (impl_within _ _ _ _).useCK ?_
  simp (maxSteps := 4000000) [hd0, hfr, hout, hcl, hcd, delA_none]
theorem impl_isKey (H : HH) (v : Int) : PFun Try.prog 70 [I v] H (B (inR v 0 31)) := by
  refine PFun.of [0, 2] Try.func70 rfl (by simp [Try.f70]) ?_
  intro d hd0 hfr hcl hout
  have hcd : ∀ n q, CleanH (hit [((d, n), q)]) H := fun n q => hcl.at
  simp (maxSteps := 4000000) [hd0, hfr, hout, hcl, hcd, delA_none, Try.f70]
  refine (impl_within _ _ _ _).useCK ?_
  simp (maxSteps := 4000000) [hd0, hfr, hout, hcl, hcd, delA_none]
theorem impl_isValue (H : HH) (v : Int) : PFun Try.prog 101 [I v] H (B (inR v 0 9999)) := by
  refine PFun.of [0, 2] Try.func101 rfl (by simp [Try.f101]) ?_
  intro d hd0 hfr hcl hout
  have hcd : ∀ n q, CleanH (hit [((d, n), q)]) H := fun n q => hcl.at
  simp (maxSteps := 4000000) [hd0, hfr, hout, hcl, hcd, delA_none, Try.f101]
  refine (impl_within _ _ _ _).useCK ?_
  simp (maxSteps := 4000000) [hd0, hfr, hout, hcl, hcd, delA_none]
theorem spec_l5Txn (H : HH) (v : Int) : PFun Try.prog 46 [I v] H (B (inR v 1 999)) := by
  refine PFun.of [0, 2] Try.func46 rfl (by simp [Try.f46]) ?_
  intro d hd0 hfr hcl hout
  have hcd : ∀ n q, CleanH (hit [((d, n), q)]) H := fun n q => hcl.at
  simp (maxSteps := 4000000) [hd0, hfr, hout, hcl, hcd, delA_none, Try.f46]
  refine (spec_l1In _ _ _ _).useCK ?_
  simp (maxSteps := 4000000) [hd0, hfr, hout, hcl, hcd, delA_none]
theorem spec_l1Key (H : HH) (v : Int) : PFun Try.prog 88 [I v] H (B (inR v 0 31)) := by
  refine PFun.of [0, 2] Try.func88 rfl (by simp [Try.f88]) ?_
  intro d hd0 hfr hcl hout
  have hcd : ∀ n q, CleanH (hit [((d, n), q)]) H := fun n q => hcl.at
  simp (maxSteps := 4000000) [hd0, hfr, hout, hcl, hcd, delA_none, Try.f88]
  refine (spec_l1In _ _ _ _).useCK ?_
  simp (maxSteps := 4000000) [hd0, hfr, hout, hcl, hcd, delA_none]
theorem spec_l1Value (H : HH) (v : Int) : PFun Try.prog 108 [I v] H (B (inR v 0 9999)) := by
  refine PFun.of [0, 2] Try.func108 rfl (by simp [Try.f108]) ?_
  intro d hd0 hfr hcl hout
  have hcd : ∀ n q, CleanH (hit [((d, n), q)]) H := fun n q => hcl.at
  simp (maxSteps := 4000000) [hd0, hfr, hout, hcl, hcd, delA_none, Try.f108]
  refine (spec_l1In _ _ _ _).useCK ?_
  simp (maxSteps := 4000000) [hd0, hfr, hout, hcl, hcd, delA_none]
/-- what stands ahead of the i-th -/
def prv {α : Type} (f : α → Int) (l : List α) (i : Nat) : Option Int := if i = 0 then none else l[i-1]?.map f
theorem prv_zero {α : Type} {f : α → Int} {l : List α} : prv f l 0 = none := rfl
theorem prv_succ {α : Type} {f : α → Int} {l : List α} {i : Nat} (h : i < l.length) : prv f l (i + 1) = some (f l[i]) := by simp [prv, h]
theorem prv_pos {α : Type} {f : α → Int} {l : List α} {i : Nat} (h0 : i ≠ 0) (h : i - 1 < l.length) : prv f l i = some (f l[i-1]) := by simp [prv, h0, h]
/-- not above what stands ahead -/
def nab (p : Option Int) (k : Int) : Bool := match p with | some j => decide (k ≤ j) | none => false
def riseF : Option Int → List Int → Bool
  | _, [] => true
  | p, c :: l => if nab p c then false else riseF (some c) l
theorem riseF_one {l : List Int} (h : l.length < 1) : riseF none l = true := by
  have : l = [] := List.eq_nil_of_length_eq_zero (by omega)
  subst this; rfl
theorem riseF_start {l : List Int} : riseF (prv id l 1) (l.drop 1) = riseF none l := by
  cases l with
  | nil => rfl
  | cons a l => simp [prv, riseF, nab]
end Go.Proofs.Ytnlbjfdmjlnlgaa

namespace Go.Proofs.Ytnlbjfdmjlnlgaa
open Go Go.Px Go.RowKit Go.Proofs
set_option linter.unnecessarySimpa false
set_option linter.unusedVariables false
set_option linter.unusedSimpArgs false
set_option maxRecDepth 100000
set_option maxHeartbeats 1000000
attribute [-simp] Int.not_le Int.not_lt
def badP : Option Int → Int → Bool
  | none, _ => false
  | some b, a => decide (a = 0) || (decide (b ≠ 0) && decide (b ≤ a))
def vRange (v : DVersion) : Bool := inR v.txn 1 999 && inR v.at_ 0 1000000 && inR v.value 0 9999
def chF : Option Int → List DVersion → Int
  | _, [] => 0
  | p, v :: l => if vRange v = false then 3 else if ((v.gone && decide (v.value ≠ 0)) || badP p v.at_) = true then 1 else chF (some v.at_) l
def chainF (l : List DVersion) : Int := if 12 < l.length then 2 else chF none l
theorem impl_ChainFault (H : HH) {r q} {l : List DVersion} (hb : l.length ≤ 1048576) (ha : arrAt H r q = some (4, l.map DVersion.enc)) : PFun Try.prog 71 [.c (.sl r q 4 0 l.length)] H (I (chainF l)) := by
  refine PFun.of [0, 2, 3, 4, 7, 8, 9, 10, 11, 15, 32] Try.func71 rfl (by simp [Try.f71]) ?_
  intro d hd0 hfr hcl hout
  have hcd : ∀ n q, CleanH (hit [((d, n), q)]) H := fun n q => hcl.at
  have ha_n : ∀ n, ¬ (d, n) = r := fun n => nm_ne (ne_of_arr hfr ha)
  have ha_d : ¬ r.1 = d := ne_of_arr hfr ha
  have ha_m : ∀ n, ¬ r = (d, n) := fun n => nm_ne' (ne_of_arr hfr ha)
  simp (maxSteps := 4000000) [hd0, hfr, hout, hcl, hcd, delA_none, ha, ha_n, ha_d, ha_m, Try.f71]
  by_cases h12 : 12 < l.length
  case pos => simp (maxSteps := 4000000) [hd0, hfr, hout, hcl, hcd, delA_none, ha, ha_n, ha_d, ha_m, show 12 < (l.length : Int) by omega, chainF, h12]
  have hF : chainF l = chF none l := by simp [chainF, h12]
  rw [hF]
  simp (maxSteps := 4000000) [hd0, hfr, hout, hcl, hcd, delA_none, ha, ha_n, ha_d, ha_m, show ¬ 12 < (l.length : Int) by omega]
  refine LoopK.intro (fun m s => ∃ i : Nat, i + m = l.length ∧ chF (prv DVersion.at_ l i) (l.drop i) = chF none l ∧ s = ⟨[(0, .c (.sl r q 4 0 l.length)), (8, .c (.sl r q 4 0 l.length)), (9, I l.length), (10, I i)], H, []⟩) (l.length + 1) (LK.intro l.length [0, 8, 9, 10] [] (by omega) (by decide) (by simp (maxSteps := 4000000) [hd0, hfr, hout, hcl, hcd, delA_none, ha, ha_n, ha_d, ha_m]) ⟨0, by simp [prv]⟩) ?_
  rintro m s ⟨i, him, hinv, rfl⟩
  by_cases hi' : i < l.length
  case neg =>
    rw [List.drop_eq_nil_of_le (by omega)] at hinv
    simp (maxSteps := 4000000) [hd0, hfr, hout, hcl, hcd, delA_none, ha, ha_n, ha_d, ha_m, show ¬ (i : Int) < l.length by omega]
    simpa [chF] using hinv
  rw [List.drop_eq_getElem_cons hi'] at hinv
  simp only [chF] at hinv
  have w1 : IntKind.i64.wrap ((i : Int) + 1) = i + 1 := w64 (by omega) (by omega)
  have hend := prv_succ (f := DVersion.at_) hi'
  simp (maxSteps := 4000000) [hd0, hfr, hout, hcl, hcd, delA_none, ha, ha_n, ha_d, ha_m, show (i : Int) < l.length by omega, hi', DVersion.enc]
  refine (impl_isTxn _ _).useCK ?_
  by_cases c1 : inR l[i].txn 1 999 = true
  case neg => simp only [Bool.not_eq_true] at c1; simp [vRange, c1] at hinv; simp (maxSteps := 4000000) [hd0, hfr, hout, hcl, hcd, delA_none, ha, ha_n, ha_d, ha_m, c1, hinv]
  simp (maxSteps := 4000000) [hd0, hfr, hout, hcl, hcd, delA_none, ha, ha_n, ha_d, ha_m, c1]
  refine (impl_isLsn _ _).useCK ?_
  by_cases c2 : inR l[i].at_ 0 1000000 = true
  case neg => simp only [Bool.not_eq_true] at c2; simp [vRange, c2] at hinv; simp (maxSteps := 4000000) [hd0, hfr, hout, hcl, hcd, delA_none, ha, ha_n, ha_d, ha_m, c2, hinv]
  simp (maxSteps := 4000000) [hd0, hfr, hout, hcl, hcd, delA_none, ha, ha_n, ha_d, ha_m, c2]
  refine (impl_isValue _ _).useCK ?_
  by_cases c3 : inR l[i].value 0 9999 = true
  case neg => simp only [Bool.not_eq_true] at c3; simp [vRange, c3] at hinv; simp (maxSteps := 4000000) [hd0, hfr, hout, hcl, hcd, delA_none, ha, ha_n, ha_d, ha_m, c3, hinv]
  have hv : vRange l[i] = true := by simp [vRange, c1, c2, c3]
  rw [hv, if_neg (by simp)] at hinv
  have w2 : i ≠ 0 → IntKind.i64.wrap ((i : Int) - 1) = (i - 1 : Nat) := fun h => by rw [w64 (by omega) (by omega)]; omega
  have hfin : badP (prv DVersion.at_ l i) l[i].at_ = false → (l[i].gone && decide (l[i].value ≠ 0)) = false → chF (some l[i].at_) (l.drop (i + 1)) = chF none l := fun h1 h2 => by rw [h1, h2] at hinv; simpa using hinv
  have hone : badP (prv DVersion.at_ l i) l[i].at_ = true → chF none l = 1 := fun h1 => by simpa [h1] using hinv.symm
  by_cases hg : l[i].gone = true
  case' pos =>
    by_cases hz : l[i].value = 0
    case neg =>
      have h1 : chF none l = 1 := by simpa [hg, hz] using hinv.symm
      simp (maxSteps := 4000000) [hd0, hfr, hout, hcl, hcd, delA_none, ha, ha_n, ha_d, ha_m, c3, hg, eq_false hz, h1]
    have hgv : (l[i].gone && decide (l[i].value ≠ 0)) = false := by simp [hz]
    simp (maxSteps := 4000000) [hd0, hfr, hout, hcl, hcd, delA_none, ha, ha_n, ha_d, ha_m, c3, hg, eq_true hz]
  case' neg =>
    simp only [Bool.not_eq_true] at hg
    have hgv : (l[i].gone && decide (l[i].value ≠ 0)) = false := by simp [hg]
    simp (maxSteps := 4000000) [hd0, hfr, hout, hcl, hcd, delA_none, ha, ha_n, ha_d, ha_m, c3, hg]
  all_goals
    by_cases ha0 : l[i].at_ = 0
    case pos =>
      by_cases hi0 : i = 0
      case neg =>
        have h1 := hone (by simp [prv_pos (f := DVersion.at_) hi0 (show i - 1 < l.length by omega), badP, ha0])
        simp (maxSteps := 4000000) [hd0, hfr, hout, hcl, hcd, delA_none, ha, ha_n, ha_d, ha_m, eq_true ha0, show (0 : Int) < (i : Int) by omega, show 0 < i by omega, hi0, h1]
      have hb2 := hfin (by simp [hi0, prv, badP]) hgv
      simp (maxSteps := 4000000) [hd0, hfr, hout, hcl, hcd, delA_none, ha, ha_n, ha_d, ha_m, eq_true ha0, eq_false (show ¬ (0 : Int) < (i : Int) by omega), eq_false (show ¬ 0 < i by omega), eq_true hi0]
      refine DrawK.intro 23 [0, 8, 9, 10, 32] rfl (by kernel_rfl) (by decide) ?_
      simp (maxSteps := 4000000) [hd0, hfr, hout, hcl, hcd, delA_none, ha, ha_n, ha_d, ha_m, eq_false (show ¬ (0 : Int) < (i : Int) by omega), eq_false (show ¬ 0 < i by omega), eq_true hi0, w1]
      refine LK.intro (m - 1) [0, 8, 9, 10] [4] (by omega) (by decide) (by simp (maxSteps := 4000000) [hd0, hfr, hout, hcl, hcd, delA_none, ha, ha_n, ha_d, ha_m]) ⟨i + 1, by omega, by rw [hend]; exact hb2, by simp⟩
    case neg =>
      simp (maxSteps := 4000000) [hd0, hfr, hout, hcl, hcd, delA_none, ha, ha_n, ha_d, ha_m, eq_false ha0]
      refine DrawK.intro 23 [0, 8, 9, 10, 32] rfl (by kernel_rfl) (by decide) ?_
      by_cases hi0 : i = 0
      · have hb2 := hfin (by simp [hi0, prv, badP]) hgv
        simp (maxSteps := 4000000) [hd0, hfr, hout, hcl, hcd, delA_none, ha, ha_n, ha_d, ha_m, eq_false (show ¬ (0 : Int) < (i : Int) by omega), eq_false (show ¬ 0 < i by omega), eq_true hi0, w1]
        refine LK.intro (m - 1) [0, 8, 9, 10] [4] (by omega) (by decide) (by simp (maxSteps := 4000000) [hd0, hfr, hout, hcl, hcd, delA_none, ha, ha_n, ha_d, ha_m]) ⟨i + 1, by omega, by rw [hend]; exact hb2, by simp⟩
      · have h3 : i - 1 < l.length := by omega
        have hp := prv_pos (f := DVersion.at_) hi0 h3
        by_cases hp0 : l[i-1].at_ = 0
        · have hb2 := hfin (by rw [hp]; simp [badP, hp0, ha0]) hgv
          simp (maxSteps := 4000000) [hd0, hfr, hout, hcl, hcd, delA_none, ha, ha_n, ha_d, ha_m, show (0 : Int) < (i : Int) by omega, show 0 < i by omega, hi0, w1, w2 hi0, h3, hi', DVersion.enc, hp0]
          refine LK.intro (m - 1) [0, 8, 9, 10] [4] (by omega) (by decide) (by simp (maxSteps := 4000000) [hd0, hfr, hout, hcl, hcd, delA_none, ha, ha_n, ha_d, ha_m]) ⟨i + 1, by omega, by rw [hend]; exact hb2, by simp⟩
        · by_cases hle : l[i-1].at_ ≤ l[i].at_
          · have h1 := hone (by rw [hp]; simp [badP, hp0, hle])
            simp (maxSteps := 4000000) [hd0, hfr, hout, hcl, hcd, delA_none, ha, ha_n, ha_d, ha_m, show (0 : Int) < (i : Int) by omega, show 0 < i by omega, hi0, w1, w2 hi0, h3, hi', DVersion.enc, hp0, hle, h1]
          · have hb2 := hfin (by rw [hp]; simp [badP, hle, ha0]) hgv
            simp (maxSteps := 4000000) [hd0, hfr, hout, hcl, hcd, delA_none, ha, ha_n, ha_d, ha_m, show (0 : Int) < (i : Int) by omega, show 0 < i by omega, hi0, w1, w2 hi0, h3, hi', DVersion.enc, hp0, hle]
            refine LK.intro (m - 1) [0, 8, 9, 10] [4] (by omega) (by decide) (by simp (maxSteps := 4000000) [hd0, hfr, hout, hcl, hcd, delA_none, ha, ha_n, ha_d, ha_m]) ⟨i + 1, by omega, by rw [hend]; exact hb2, by simp⟩
theorem spec_l5At (H : HH) (v : Int) : PFun Try.prog 109 [I v] H (B (inR v 1 1000000)) := by
  refine PFun.of [0, 2] Try.func109 rfl (by simp [Try.f109]) ?_
  intro d hd0 hfr hcl hout
  have hcd : ∀ n q, CleanH (hit [((d, n), q)]) H := fun n q => hcl.at
  simp (maxSteps := 4000000) [hd0, hfr, hout, hcl, hcd, delA_none, Try.f109]
  refine (spec_l1In _ _ _ _).useCK ?_
  simp (maxSteps := 4000000) [hd0, hfr, hout, hcl, hcd, delA_none]
theorem inR_at {a : Int} (h : ¬ a = 0) : inR a 1 1000000 = inR a 0 1000000 := by
  simp only [inR]
  congr 1
  simp; omega
set_option maxHeartbeats 2000000 in
theorem spec_ChainFault (H : HH) {r q} {l : List DVersion} (hb : l.length ≤ 1048576) (ha : arrAt H r q = some (4, l.map DVersion.enc)) : PFun Try.prog 89 [.c (.sl r q 4 0 l.length)] H (I (chainF l)) := by
  refine PFun.of [0, 2, 3, 4, 7, 11, 38, 78] Try.func89 rfl (by simp [Try.f89]) ?_
  intro d hd0 hfr hcl hout
  have hcd : ∀ n q, CleanH (hit [((d, n), q)]) H := fun n q => hcl.at
  have ha_n : ∀ n, ¬ (d, n) = r := fun n => nm_ne (ne_of_arr hfr ha)
  have ha_d : ¬ r.1 = d := ne_of_arr hfr ha
  have ha_m : ∀ n, ¬ r = (d, n) := fun n => nm_ne' (ne_of_arr hfr ha)
  simp (maxSteps := 4000000) [hd0, hfr, hout, hcl, hcd, delA_none, ha, ha_n, ha_d, ha_m, Try.f89]
  by_cases h12 : 12 < l.length
  case pos => simp (maxSteps := 4000000) [hd0, hfr, hout, hcl, hcd, delA_none, ha, ha_n, ha_d, ha_m, show 12 < (l.length : Int) by omega, chainF, h12]
  have hF : chainF l = chF none l := by simp [chainF, h12]
  rw [hF]
  simp (maxSteps := 4000000) [hd0, hfr, hout, hcl, hcd, delA_none, ha, ha_n, ha_d, ha_m, show ¬ 12 < (l.length : Int) by omega]
  refine LoopK.intro (fun m s => ∃ i : Nat, i + m = l.length ∧ chF (prv DVersion.at_ l i) (l.drop i) = chF none l ∧ s = ⟨[(0, .c (.sl r q 4 0 l.length)), (3, I i)], H, []⟩) (l.length + 1) (LK.intro l.length [0, 3] [] (by omega) (by decide) (by simp (maxSteps := 4000000) [hd0, hfr, hout, hcl, hcd, delA_none, ha, ha_n, ha_d, ha_m]) ⟨0, by simp [prv]⟩) ?_
  rintro m s ⟨i, him, hinv, rfl⟩
  by_cases hi' : i < l.length
  case neg =>
    rw [List.drop_eq_nil_of_le (by omega)] at hinv
    simp (maxSteps := 4000000) [hd0, hfr, hout, hcl, hcd, delA_none, ha, ha_n, ha_d, ha_m, show ¬ (i : Int) < l.length by omega]
    simpa [chF] using hinv
  rw [List.drop_eq_getElem_cons hi'] at hinv
  simp only [chF] at hinv
  have w1 : IntKind.i64.wrap ((i : Int) + 1) = i + 1 := w64 (by omega) (by omega)
  have hend := prv_succ (f := DVersion.at_) hi'
  simp (maxSteps := 4000000) [hd0, hfr, hout, hcl, hcd, delA_none, ha, ha_n, ha_d, ha_m, show (i : Int) < l.length by omega, hi', DVersion.enc]
  refine (spec_l5Txn _ _).useCK ?_
  by_cases c1 : inR l[i].txn 1 999 = true
  case neg => simp only [Bool.not_eq_true] at c1; simp [vRange, c1] at hinv; simp (maxSteps := 4000000) [hd0, hfr, hout, hcl, hcd, delA_none, ha, ha_n, ha_d, ha_m, c1, hinv]
  by_cases ha0 : l[i].at_ = 0
  case' pos =>
    have c2 : inR l[i].at_ 0 1000000 = true := by rw [ha0]; rfl
    simp (maxSteps := 4000000) [hd0, hfr, hout, hcl, hcd, delA_none, ha, ha_n, ha_d, ha_m, c1, eq_true ha0]
  case' neg =>
    simp (maxSteps := 4000000) [hd0, hfr, hout, hcl, hcd, delA_none, ha, ha_n, ha_d, ha_m, c1, eq_false ha0]
    refine (spec_l5At _ _).useCK ?_
    rw [inR_at ha0]
    by_cases c2 : inR l[i].at_ 0 1000000 = true
    case neg => simp only [Bool.not_eq_true] at c2; simp [vRange, c2] at hinv; simp (maxSteps := 4000000) [hd0, hfr, hout, hcl, hcd, delA_none, ha, ha_n, ha_d, ha_m, c2, hinv]
    simp (maxSteps := 4000000) [hd0, hfr, hout, hcl, hcd, delA_none, ha, ha_n, ha_d, ha_m, c2]
  all_goals
    refine (spec_l1Value _ _).useCK ?_
    by_cases c3 : inR l[i].value 0 9999 = true
    case neg => simp only [Bool.not_eq_true] at c3; simp [vRange, c3] at hinv; simp (maxSteps := 4000000) [hd0, hfr, hout, hcl, hcd, delA_none, ha, ha_n, ha_d, ha_m, c3, hinv]
    have hv : vRange l[i] = true := by simp [vRange, c1, c2, c3]
    rw [hv, if_neg (by simp)] at hinv
    have w2 : i ≠ 0 → IntKind.i64.wrap ((i : Int) - 1) = (i - 1 : Nat) := fun h => by rw [w64 (by omega) (by omega)]; omega
    have hfin : badP (prv DVersion.at_ l i) l[i].at_ = false → (l[i].gone && decide (l[i].value ≠ 0)) = false → chF (some l[i].at_) (l.drop (i + 1)) = chF none l := fun h1 h2 => by rw [h1, h2] at hinv; simpa using hinv
    have hone : badP (prv DVersion.at_ l i) l[i].at_ = true → chF none l = 1 := fun h1 => by simpa [h1] using hinv.symm
    simp (maxSteps := 4000000) [hd0, hfr, hout, hcl, hcd, delA_none, ha, ha_n, ha_d, ha_m, c3]
    refine DrawK.intro 40 [0, 3, 78] rfl (by kernel_rfl) (by decide) ?_
    by_cases hg : l[i].gone = true
    case' pos =>
      by_cases hz : l[i].value = 0
      case neg =>
        have h1 : chF none l = 1 := by simpa [hg, hz] using hinv.symm
        simp (maxSteps := 4000000) [hd0, hfr, hout, hcl, hcd, delA_none, ha, ha_n, ha_d, ha_m, hg, eq_false hz, h1]
      have hgv : (l[i].gone && decide (l[i].value ≠ 0)) = false := by simp [hz]
      have hgz : (!l[i].gone || decide (l[i].value = 0)) = true := by simp [hz]
    case' neg =>
      simp only [Bool.not_eq_true] at hg
      have hgv : (l[i].gone && decide (l[i].value ≠ 0)) = false := by simp [hg]
      have hz : True := trivial
    all_goals
      by_cases hi0 : i = 0
      · have hb2 := hfin (by simp [hi0, prv, badP]) hgv
        simp (maxSteps := 4000000) [hd0, hfr, hout, hcl, hcd, delA_none, ha, ha_n, ha_d, ha_m, hg, eq_true hz, eq_false (show ¬ (0 : Int) < (i : Int) by omega), eq_false (show ¬ 0 < i by omega), eq_true hi0, w1]
        refine LK.intro (m - 1) [0, 3] [4] (by omega) (by decide) (by simp (maxSteps := 4000000) [hd0, hfr, hout, hcl, hcd, delA_none, ha, ha_n, ha_d, ha_m]) ⟨i + 1, by omega, by rw [hend]; exact hb2, by simp⟩
      · have h3 : i - 1 < l.length := by omega
        have hp := prv_pos (f := DVersion.at_) hi0 h3
        by_cases ha0 : l[i].at_ = 0
        · have h1 := hone (by rw [hp]; simp [badP, ha0])
          simp (maxSteps := 4000000) [hd0, hfr, hout, hcl, hcd, delA_none, ha, ha_n, ha_d, ha_m, hg, eq_true hz, eq_true (show (0 : Int) < (i : Int) by omega), eq_true (show 0 < i by omega), hi0, w1, w2 hi0, h3, hi', DVersion.enc, eq_true ha0, h1]
        · by_cases hp0 : l[i-1].at_ = 0
          · have hb2 := hfin (by rw [hp]; simp [badP, hp0, ha0]) hgv
            simp (maxSteps := 4000000) [hd0, hfr, hout, hcl, hcd, delA_none, ha, ha_n, ha_d, ha_m, hg, eq_true hz, eq_true (show (0 : Int) < (i : Int) by omega), eq_true (show 0 < i by omega), hi0, w1, w2 hi0, h3, hi', DVersion.enc, eq_false ha0, eq_true hp0]
            refine LK.intro (m - 1) [0, 3] [4] (by omega) (by decide) (by simp (maxSteps := 4000000) [hd0, hfr, hout, hcl, hcd, delA_none, ha, ha_n, ha_d, ha_m]) ⟨i + 1, by omega, by rw [hend]; exact hb2, by simp⟩
          · by_cases hle : l[i-1].at_ ≤ l[i].at_
            · have h1 := hone (by rw [hp]; simp [badP, hp0, hle])
              simp (maxSteps := 4000000) [hd0, hfr, hout, hcl, hcd, delA_none, ha, ha_n, ha_d, ha_m, hg, eq_true hz, eq_true (show (0 : Int) < (i : Int) by omega), eq_true (show 0 < i by omega), hi0, w1, w2 hi0, h3, hi', DVersion.enc, eq_false ha0, eq_false hp0, hle, h1]
            · have hb2 := hfin (by rw [hp]; simp [badP, hle, ha0]) hgv
              simp (maxSteps := 4000000) [hd0, hfr, hout, hcl, hcd, delA_none, ha, ha_n, ha_d, ha_m, hg, eq_true hz, eq_true (show (0 : Int) < (i : Int) by omega), eq_true (show 0 < i by omega), hi0, w1, w2 hi0, h3, hi', DVersion.enc, eq_false ha0, eq_false hp0, hle]
              refine LK.intro (m - 1) [0, 3] [4] (by omega) (by decide) (by simp (maxSteps := 4000000) [hd0, hfr, hout, hcl, hcd, delA_none, ha, ha_n, ha_d, ha_m]) ⟨i + 1, by omega, by rw [hend]; exact hb2, by simp⟩
def uRange (u : DUndo) : Bool := inR u.key 0 31 && inR u.value 0 9999
def uForm (u : DUndo) : Bool := (u.had || (!u.gone && decide (u.value = 0))) && (!u.gone || decide (u.value = 0))
def unF : List DUndo → Int
  | [] => 0
  | u :: l => if uRange u = false then 3 else if uForm u = false then 1 else unF l
def undosF (l : List DUndo) : Int := if 60 < l.length then 2 else unF l
theorem impl_undosFault (H : HH) {r q} {l : List DUndo} (hb : l.length ≤ 1048576) (ha : arrAt H r q = some (4, l.map DUndo.enc)) : PFun Try.prog 69 [.c (.sl r q 4 0 l.length)] H (I (undosF l)) := by
  refine PFun.of [0, 2, 4, 7, 8, 9, 10, 11, 14, 25] Try.func69 rfl (by simp [Try.f69]) ?_
  intro d hd0 hfr hcl hout
  have hcd : ∀ n q, CleanH (hit [((d, n), q)]) H := fun n q => hcl.at
  have ha_n : ∀ n, ¬ (d, n) = r := fun n => nm_ne (ne_of_arr hfr ha)
  have ha_d : ¬ r.1 = d := ne_of_arr hfr ha
  have ha_m : ∀ n, ¬ r = (d, n) := fun n => nm_ne' (ne_of_arr hfr ha)
  simp (maxSteps := 4000000) [hd0, hfr, hout, hcl, hcd, delA_none, ha, ha_n, ha_d, ha_m, Try.f69]
  by_cases h12 : 60 < l.length
  case pos => simp (maxSteps := 4000000) [hd0, hfr, hout, hcl, hcd, delA_none, ha, ha_n, ha_d, ha_m, show 60 < (l.length : Int) by omega, undosF, h12]
  have hF : undosF l = unF l := by simp [undosF, h12]
  rw [hF]
  simp (maxSteps := 4000000) [hd0, hfr, hout, hcl, hcd, delA_none, ha, ha_n, ha_d, ha_m, show ¬ 60 < (l.length : Int) by omega]
  refine LoopK.intro (fun m s => ∃ i : Nat, i + m = l.length ∧ unF (l.drop i) = unF l ∧ s = ⟨[(8, .c (.sl r q 4 0 l.length)), (9, I l.length), (10, I i)], H, []⟩) (l.length + 1) (LK.intro l.length [8, 9, 10] [] (by omega) (by decide) (by simp (maxSteps := 4000000) [hd0, hfr, hout, hcl, hcd, delA_none, ha, ha_n, ha_d, ha_m]) ⟨0, by simp⟩) ?_
  rintro m s ⟨i, him, hinv, rfl⟩
  by_cases hi' : i < l.length
  case neg =>
    rw [List.drop_eq_nil_of_le (by omega)] at hinv
    simp (maxSteps := 4000000) [hd0, hfr, hout, hcl, hcd, delA_none, ha, ha_n, ha_d, ha_m, show ¬ (i : Int) < l.length by omega]
    simpa [unF] using hinv
  rw [List.drop_eq_getElem_cons hi'] at hinv
  simp only [unF] at hinv
  have w1 : IntKind.i64.wrap ((i : Int) + 1) = i + 1 := w64 (by omega) (by omega)
  simp (maxSteps := 4000000) [hd0, hfr, hout, hcl, hcd, delA_none, ha, ha_n, ha_d, ha_m, show (i : Int) < l.length by omega, hi', DUndo.enc]
  refine (impl_isKey _ _).useCK ?_
  by_cases c1 : inR l[i].key 0 31 = true
  case neg => simp only [Bool.not_eq_true] at c1; simp [uRange, c1] at hinv; simp (maxSteps := 4000000) [hd0, hfr, hout, hcl, hcd, delA_none, ha, ha_n, ha_d, ha_m, c1, hinv]
  simp (maxSteps := 4000000) [hd0, hfr, hout, hcl, hcd, delA_none, ha, ha_n, ha_d, ha_m, c1]
  refine (impl_isValue _ _).useCK ?_
  by_cases c3 : inR l[i].value 0 9999 = true
  case neg => simp only [Bool.not_eq_true] at c3; simp [uRange, c3] at hinv; simp (maxSteps := 4000000) [hd0, hfr, hout, hcl, hcd, delA_none, ha, ha_n, ha_d, ha_m, c3, hinv]
  have hv : uRange l[i] = true := by simp [uRange, c1, c3]
  rw [hv, if_neg (by simp)] at hinv
  rw [c3]
  cases hh : l[i].had <;> cases hg : l[i].gone <;> by_cases hz : l[i].value = 0 <;> simp [uForm, hh, hg, hz] at hinv <;> simp (maxSteps := 4000000) [hd0, hfr, hout, hcl, hcd, delA_none, ha, ha_n, ha_d, ha_m, hh, hg, hz, hinv, w1]
  all_goals refine LK.intro (m - 1) [8, 9, 10] [4] (by omega) (by decide) (by simp (maxSteps := 4000000) [hd0, hfr, hout, hcl, hcd, delA_none, ha, ha_n, ha_d, ha_m]) ⟨i + 1, by omega, hinv, by simp⟩
set_option maxHeartbeats 2000000 in
theorem spec_l6Undos (H : HH) {r q ix} {ts : List DTxn} (hix : ix < ts.length) (hb : ts[ix].undos.length ≤ 1048576) (ha : arrAt H r q = some (5, ts.map DTxn.enc)) : PFun Try.prog 87 [.c (.pt r q 5 ix 0)] H (I (undosF ts[ix].undos)) := by
  have hsub := arrAt_sub ha (i := ix) (f := 4) (row := ts[ix].enc) (by simp [hix]) rfl
  generalize hl : ts[ix].undos = l at *
  refine PFun.of [0, 2, 3, 4, 10, 17, 36, 57] Try.func87 rfl (by simp [Try.f87]) ?_
  intro d hd0 hfr hcl hout
  have hcd : ∀ n q, CleanH (hit [((d, n), q)]) H := fun n q => hcl.at
  have ha_n : ∀ n, ¬ (d, n) = r := fun n => nm_ne (ne_of_arr hfr ha)
  have ha_d : ¬ r.1 = d := ne_of_arr hfr ha
  have ha_m : ∀ n, ¬ r = (d, n) := fun n => nm_ne' (ne_of_arr hfr ha)
  simp (maxSteps := 4000000) [hd0, hfr, hout, hcl, hcd, delA_none, ha, ha_n, ha_d, ha_m, Try.f87]
  by_cases h12 : 60 < l.length
  case pos => simp (maxSteps := 4000000) [hd0, hfr, hout, hcl, hcd, delA_none, ha, ha_n, ha_d, ha_m, hix, DTxn.enc, hl, show 60 < (l.length : Int) by omega, undosF, h12]
  have hF : undosF l = unF l := by simp [undosF, h12]
  rw [hF]
  simp (maxSteps := 4000000) [hd0, hfr, hout, hcl, hcd, delA_none, ha, ha_n, ha_d, ha_m, hix, DTxn.enc, hl, show ¬ 60 < (l.length : Int) by omega]
  refine LoopK.intro (fun m s => ∃ i : Nat, i + m = l.length ∧ unF (l.drop i) = unF l ∧ s = ⟨[(0, .c (.pt r q 5 ix 0)), (3, I i)], H, []⟩) (l.length + 1) (LK.intro l.length [0, 3] [] (by omega) (by decide) (by simp (maxSteps := 4000000) [hd0, hfr, hout, hcl, hcd, delA_none, ha, ha_n, ha_d, ha_m]) ⟨0, by simp⟩) ?_
  rintro m s ⟨i, him, hinv, rfl⟩
  by_cases hi' : i < l.length
  case neg =>
    rw [List.drop_eq_nil_of_le (by omega)] at hinv
    simp (maxSteps := 4000000) [hd0, hfr, hout, hcl, hcd, delA_none, ha, ha_n, ha_d, ha_m, hix, DTxn.enc, hl, show ¬ (i : Int) < l.length by omega]
    simpa [unF] using hinv
  rw [List.drop_eq_getElem_cons hi'] at hinv
  simp only [unF] at hinv
  have w1 : IntKind.i64.wrap ((i : Int) + 1) = i + 1 := w64 (by omega) (by omega)
  simp (maxSteps := 4000000) [hd0, hfr, hout, hcl, hcd, delA_none, ha, ha_n, ha_d, ha_m, hix, DTxn.enc, hl, hsub, show (i : Int) < l.length by omega, hi', DUndo.enc]
  refine (spec_l1Key _ _).useCK ?_
  by_cases c1 : inR l[i].key 0 31 = true
  case neg => simp only [Bool.not_eq_true] at c1; simp [uRange, c1] at hinv; simp (maxSteps := 4000000) [hd0, hfr, hout, hcl, hcd, delA_none, ha, ha_n, ha_d, ha_m, c1, hinv]
  simp (maxSteps := 4000000) [hd0, hfr, hout, hcl, hcd, delA_none, ha, ha_n, ha_d, ha_m, c1]
  refine (spec_l1Value _ _).useCK ?_
  by_cases c3 : inR l[i].value 0 9999 = true
  case neg => simp only [Bool.not_eq_true] at c3; simp [uRange, c3] at hinv; simp (maxSteps := 4000000) [hd0, hfr, hout, hcl, hcd, delA_none, ha, ha_n, ha_d, ha_m, c3, hinv]
  have hv : uRange l[i] = true := by simp [uRange, c1, c3]
  rw [hv, if_neg (by simp)] at hinv
  rw [c3]
  cases hh : l[i].had <;> cases hg : l[i].gone <;> by_cases hz : l[i].value = 0 <;> simp [uForm, hh, hg, hz] at hinv <;> simp (maxSteps := 4000000) [hd0, hfr, hout, hcl, hcd, delA_none, ha, ha_n, ha_d, ha_m, hh, hg, hz, hinv, w1]
  all_goals refine LK.intro (m - 1) [0, 3] [4] (by omega) (by decide) (by simp (maxSteps := 4000000) [hd0, hfr, hout, hcl, hcd, delA_none, ha, ha_n, ha_d, ha_m]) ⟨i + 1, by omega, hinv, by simp⟩
end Go.Proofs.Ytnlbjfdmjlnlgaa

namespace Go.Proofs.Ytnlbjfdmjlnlgaa
open Go Go.Px Go.RowKit Go.Proofs
set_option linter.unnecessarySimpa false
set_option linter.unusedVariables false
set_option linter.unusedSimpArgs false
set_option maxRecDepth 100000
set_option maxHeartbeats 1000000
attribute [-simp] Int.not_le Int.not_lt

theorem slices_IndexFunc_Undo (H : HH) {r q n} {l : List DUndo} {g caps} {P : DUndo → Bool} (hb : l.length ≤ 1048576) (hn : n ≤ l.length) (ha : arrAt H r q = some (4, l.map DUndo.enc)) (hcaps : ∀ c ∈ caps, isRef c = true ∨ ∃ y, c = .v y ∧ flat y = true) (hg : tfunc Try.prog g = true)
    (hf : ∀ i (hi : i < l.length), PFun Try.prog g ([.a l[i].enc] ++ caps.map T.c) H (B (P l[i]))) : PFun Try.prog 104 [.c (.sl r q 4 0 n), .c (.fn g caps)] H (I (idxF P (l.take n))) := by
  refine PFun.of [0, 1, 4, 5, 7, 8, 9, 16] Try.func104 rfl (by simp [Try.f104]) ?_
  intro d hd0 hfr hcl hout
  have hcd : ∀ n q, CleanH (hit [((d, n), q)]) H := fun n q => hcl.at
  have ha_n : ∀ n, ¬ (d, n) = r := fun n => nm_ne (ne_of_arr hfr ha)
  have ha_d : ¬ r.1 = d := ne_of_arr hfr ha
  have ha_m : ∀ n, ¬ r = (d, n) := fun n => nm_ne' (ne_of_arr hfr ha)
  simp (maxSteps := 4000000) [hd0, hfr, hout, hcl, hcd, delA_none, ha, ha_n, ha_d, ha_m, Try.f104]
  refine LoopK.intro (fun m s => ∃ i : Nat, i + m = n ∧ (∀ x ∈ (l.take n).take i, P x = false) ∧ s = ⟨[(0, .c (.sl r q 4 0 n)), (1, .c (.fn g caps)), (7, I n), (8, I i)], H, []⟩) (n + 1)
    (LK.intro n [0, 1, 7, 8] [] (by omega) (by decide) (by simp (maxSteps := 4000000) [hd0, hfr, hout, hcl, hcd, delA_none, ha, ha_n, ha_d, ha_m]) ⟨0, by simp⟩) ?_
  rintro m s ⟨i, him, hP, rfl⟩
  have hd := idxF_drop hP
  by_cases hi0 : i < n
  · have hi' : i < l.length := by omega
    have w1 : IntKind.i64.wrap ((i : Int) + 1) = i + 1 := w64 (by omega) (by omega)
    have hget : (l.take n)[i]'(by simp; omega) = l[i] := by simp
    rw [List.drop_eq_getElem_cons (show i < (l.take n).length by simp; omega), hget] at hd
    simp (maxSteps := 4000000) [hd0, hfr, hout, hcl, hcd, delA_none, ha, ha_n, ha_d, ha_m, show (i : Int) < n by omega, hi', DUndo.enc]
    refine ⟨⟨hcaps, hg⟩, ?_⟩
    refine (hf i hi').useCK ?_
    by_cases hp : P l[i] = true
    · have hr : idxF P (l.take n) = i := by simp [idxF, hp] at hd; exact hd
      simp (maxSteps := 4000000) [hd0, hfr, hout, hcl, hcd, delA_none, ha, ha_n, ha_d, ha_m, hp, hr]
    · simp only [Bool.not_eq_true] at hp
      simp (maxSteps := 4000000) [hd0, hfr, hout, hcl, hcd, delA_none, ha, ha_n, ha_d, ha_m, hp, w1]
      refine LK.intro (m - 1) [0, 1, 7, 8] [] (by omega) (by decide) (by simp (maxSteps := 4000000) [hd0, hfr, hout, hcl, hcd, delA_none, ha, ha_n, ha_d, ha_m]) ⟨i + 1, by omega, fun x hx => ?_, by simp⟩
      rw [List.take_succ_eq_append_getElem (show i < (l.take n).length by simp; omega), hget] at hx
      rcases List.mem_append.1 hx with hx | hx
      · exact hP x hx
      · simp at hx; rw [hx]; exact hp
  · have : i = n := by omega
    subst this
    rw [List.drop_eq_nil_of_le (by simp; omega)] at hd
    have hr : idxF P (l.take i) = -1 := by simp [idxF] at hd; exact hd
    simp (maxSteps := 4000000) [hd0, hfr, hout, hcl, hcd, delA_none, ha, ha_n, ha_d, ha_m, hr]
theorem slices_ContainsFunc_Undo (H : HH) {r q n} {l : List DUndo} {g caps} {P : DUndo → Bool} (hb : l.length ≤ 1048576) (hn : n ≤ l.length) (ha : arrAt H r q = some (4, l.map DUndo.enc)) (hcaps : ∀ c ∈ caps, isRef c = true ∨ ∃ y, c = .v y ∧ flat y = true) (hg : tfunc Try.prog g = true)
    (hf : ∀ i (hi : i < l.length), PFun Try.prog g ([.a l[i].enc] ++ caps.map T.c) H (B (P l[i]))) : PFun Try.prog 77 [.c (.sl r q 4 0 n), .c (.fn g caps)] H (B ((l.take n).any P)) := by
  refine PFun.of [0, 1, 4] Try.func77 rfl (by simp [Try.f77]) ?_
  intro d hd0 hfr hcl hout
  have hcd : ∀ n q, CleanH (hit [((d, n), q)]) H := fun n q => hcl.at
  have ha_n : ∀ n, ¬ (d, n) = r := fun n => nm_ne (ne_of_arr hfr ha)
  have ha_d : ¬ r.1 = d := ne_of_arr hfr ha
  have ha_m : ∀ n, ¬ r = (d, n) := fun n => nm_ne' (ne_of_arr hfr ha)
  simp (maxSteps := 4000000) [hd0, hfr, hout, hcl, hcd, delA_none, ha, ha_n, ha_d, ha_m, Try.f77]
  refine (slices_IndexFunc_Undo _ hb hn ha hcaps hg hf).useCK ?_
  simp (maxSteps := 4000000) [hd0, hfr, hout, hcl, hcd, delA_none, ha, ha_n, ha_d, ha_m]
  exact idxF_any
theorem slices_IndexFunc_Version (H : HH) {r q n} {l : List DVersion} {g caps} {P : DVersion → Bool} (hb : l.length ≤ 1048576) (hn : n ≤ l.length) (ha : arrAt H r q = some (4, l.map DVersion.enc)) (hcaps : ∀ c ∈ caps, isRef c = true ∨ ∃ y, c = .v y ∧ flat y = true) (hg : tfunc Try.prog g = true)
    (hf : ∀ i (hi : i < l.length), PFun Try.prog g ([.a l[i].enc] ++ caps.map T.c) H (B (P l[i]))) : PFun Try.prog 102 [.c (.sl r q 4 0 n), .c (.fn g caps)] H (I (idxF P (l.take n))) := by
  refine PFun.of [0, 1, 4, 5, 7, 8, 9, 16] Try.func102 rfl (by simp [Try.f102]) ?_
  intro d hd0 hfr hcl hout
  have hcd : ∀ n q, CleanH (hit [((d, n), q)]) H := fun n q => hcl.at
  have ha_n : ∀ n, ¬ (d, n) = r := fun n => nm_ne (ne_of_arr hfr ha)
  have ha_d : ¬ r.1 = d := ne_of_arr hfr ha
  have ha_m : ∀ n, ¬ r = (d, n) := fun n => nm_ne' (ne_of_arr hfr ha)
  simp (maxSteps := 4000000) [hd0, hfr, hout, hcl, hcd, delA_none, ha, ha_n, ha_d, ha_m, Try.f102]
  refine LoopK.intro (fun m s => ∃ i : Nat, i + m = n ∧ (∀ x ∈ (l.take n).take i, P x = false) ∧ s = ⟨[(0, .c (.sl r q 4 0 n)), (1, .c (.fn g caps)), (7, I n), (8, I i)], H, []⟩) (n + 1)
    (LK.intro n [0, 1, 7, 8] [] (by omega) (by decide) (by simp (maxSteps := 4000000) [hd0, hfr, hout, hcl, hcd, delA_none, ha, ha_n, ha_d, ha_m]) ⟨0, by simp⟩) ?_
  rintro m s ⟨i, him, hP, rfl⟩
  have hd := idxF_drop hP
  by_cases hi0 : i < n
  · have hi' : i < l.length := by omega
    have w1 : IntKind.i64.wrap ((i : Int) + 1) = i + 1 := w64 (by omega) (by omega)
    have hget : (l.take n)[i]'(by simp; omega) = l[i] := by simp
    rw [List.drop_eq_getElem_cons (show i < (l.take n).length by simp; omega), hget] at hd
    simp (maxSteps := 4000000) [hd0, hfr, hout, hcl, hcd, delA_none, ha, ha_n, ha_d, ha_m, show (i : Int) < n by omega, hi', DVersion.enc]
    refine ⟨⟨hcaps, hg⟩, ?_⟩
    refine (hf i hi').useCK ?_
    by_cases hp : P l[i] = true
    · have hr : idxF P (l.take n) = i := by simp [idxF, hp] at hd; exact hd
      simp (maxSteps := 4000000) [hd0, hfr, hout, hcl, hcd, delA_none, ha, ha_n, ha_d, ha_m, hp, hr]
    · simp only [Bool.not_eq_true] at hp
      simp (maxSteps := 4000000) [hd0, hfr, hout, hcl, hcd, delA_none, ha, ha_n, ha_d, ha_m, hp, w1]
      refine LK.intro (m - 1) [0, 1, 7, 8] [] (by omega) (by decide) (by simp (maxSteps := 4000000) [hd0, hfr, hout, hcl, hcd, delA_none, ha, ha_n, ha_d, ha_m]) ⟨i + 1, by omega, fun x hx => ?_, by simp⟩
      rw [List.take_succ_eq_append_getElem (show i < (l.take n).length by simp; omega), hget] at hx
      rcases List.mem_append.1 hx with hx | hx
      · exact hP x hx
      · simp at hx; rw [hx]; exact hp
  · have : i = n := by omega
    subst this
    rw [List.drop_eq_nil_of_le (by simp; omega)] at hd
    have hr : idxF P (l.take i) = -1 := by simp [idxF] at hd; exact hd
    simp (maxSteps := 4000000) [hd0, hfr, hout, hcl, hcd, delA_none, ha, ha_n, ha_d, ha_m, hr]
theorem slices_ContainsFunc_Version (H : HH) {r q n} {l : List DVersion} {g caps} {P : DVersion → Bool} (hb : l.length ≤ 1048576) (hn : n ≤ l.length) (ha : arrAt H r q = some (4, l.map DVersion.enc)) (hcaps : ∀ c ∈ caps, isRef c = true ∨ ∃ y, c = .v y ∧ flat y = true) (hg : tfunc Try.prog g = true)
    (hf : ∀ i (hi : i < l.length), PFun Try.prog g ([.a l[i].enc] ++ caps.map T.c) H (B (P l[i]))) : PFun Try.prog 72 [.c (.sl r q 4 0 n), .c (.fn g caps)] H (B ((l.take n).any P)) := by
  refine PFun.of [0, 1, 4] Try.func72 rfl (by simp [Try.f72]) ?_
  intro d hd0 hfr hcl hout
  have hcd : ∀ n q, CleanH (hit [((d, n), q)]) H := fun n q => hcl.at
  have ha_n : ∀ n, ¬ (d, n) = r := fun n => nm_ne (ne_of_arr hfr ha)
  have ha_d : ¬ r.1 = d := ne_of_arr hfr ha
  have ha_m : ∀ n, ¬ r = (d, n) := fun n => nm_ne' (ne_of_arr hfr ha)
  simp (maxSteps := 4000000) [hd0, hfr, hout, hcl, hcd, delA_none, ha, ha_n, ha_d, ha_m, Try.f72]
  refine (slices_IndexFunc_Version _ hb hn ha hcaps hg hf).useCK ?_
  simp (maxSteps := 4000000) [hd0, hfr, hout, hcl, hcd, delA_none, ha, ha_n, ha_d, ha_m]
  exact idxF_any
theorem slices_IndexFunc_Txn (H : HH) {r q n} {l : List DTxn} {g caps} {P : DTxn → Bool} (hb : l.length ≤ 1048576) (hn : n ≤ l.length) (ha : arrAt H r q = some (5, l.map DTxn.enc)) (hcaps : ∀ c ∈ caps, isRef c = true ∨ ∃ y, c = .v y ∧ flat y = true) (hg : tfunc Try.prog g = true)
    (hf : ∀ i (hi : i < l.length), PFun Try.prog g ([.a [.v (.int .i64 l[i].id_), .v (.int .i64 l[i].at_), .v (.int .i64 l[i].state), .v (.int .i64 l[i].done), .sl r (q ++ [(i, 4)]) 4 0 l[i].undos.length]] ++ caps.map T.c) H (B (P l[i]))) : PFun Try.prog 62 [.c (.sl r q 5 0 n), .c (.fn g caps)] H (I (idxF P (l.take n))) := by
  refine PFun.of [0, 1, 4, 5, 7, 8, 9, 16] Try.func62 rfl (by simp [Try.f62]) ?_
  intro d hd0 hfr hcl hout
  have hcd : ∀ n q, CleanH (hit [((d, n), q)]) H := fun n q => hcl.at
  have ha_n : ∀ n, ¬ (d, n) = r := fun n => nm_ne (ne_of_arr hfr ha)
  have ha_d : ¬ r.1 = d := ne_of_arr hfr ha
  have ha_m : ∀ n, ¬ r = (d, n) := fun n => nm_ne' (ne_of_arr hfr ha)
  simp (maxSteps := 4000000) [hd0, hfr, hout, hcl, hcd, delA_none, ha, ha_n, ha_d, ha_m, Try.f62]
  refine LoopK.intro (fun m s => ∃ i : Nat, i + m = n ∧ (∀ x ∈ (l.take n).take i, P x = false) ∧ s = ⟨[(0, .c (.sl r q 5 0 n)), (1, .c (.fn g caps)), (7, I n), (8, I i)], H, []⟩) (n + 1)
    (LK.intro n [0, 1, 7, 8] [] (by omega) (by decide) (by simp (maxSteps := 4000000) [hd0, hfr, hout, hcl, hcd, delA_none, ha, ha_n, ha_d, ha_m]) ⟨0, by simp⟩) ?_
  rintro m s ⟨i, him, hP, rfl⟩
  have hd := idxF_drop hP
  by_cases hi0 : i < n
  · have hi' : i < l.length := by omega
    have w1 : IntKind.i64.wrap ((i : Int) + 1) = i + 1 := w64 (by omega) (by omega)
    have hget : (l.take n)[i]'(by simp; omega) = l[i] := by simp
    rw [List.drop_eq_getElem_cons (show i < (l.take n).length by simp; omega), hget] at hd
    simp (maxSteps := 4000000) [hd0, hfr, hout, hcl, hcd, delA_none, ha, ha_n, ha_d, ha_m, show (i : Int) < n by omega, hi', DTxn.enc]
    refine ⟨⟨hcaps, hg⟩, ?_⟩
    refine (hf i hi').useCK ?_
    by_cases hp : P l[i] = true
    · have hr : idxF P (l.take n) = i := by simp [idxF, hp] at hd; exact hd
      simp (maxSteps := 4000000) [hd0, hfr, hout, hcl, hcd, delA_none, ha, ha_n, ha_d, ha_m, hp, hr]
    · simp only [Bool.not_eq_true] at hp
      simp (maxSteps := 4000000) [hd0, hfr, hout, hcl, hcd, delA_none, ha, ha_n, ha_d, ha_m, hp, w1]
      refine LK.intro (m - 1) [0, 1, 7, 8] [] (by omega) (by decide) (by simp (maxSteps := 4000000) [hd0, hfr, hout, hcl, hcd, delA_none, ha, ha_n, ha_d, ha_m]) ⟨i + 1, by omega, fun x hx => ?_, by simp⟩
      rw [List.take_succ_eq_append_getElem (show i < (l.take n).length by simp; omega), hget] at hx
      rcases List.mem_append.1 hx with hx | hx
      · exact hP x hx
      · simp at hx; rw [hx]; exact hp
  · have : i = n := by omega
    subst this
    rw [List.drop_eq_nil_of_le (by simp; omega)] at hd
    have hr : idxF P (l.take i) = -1 := by simp [idxF] at hd; exact hd
    simp (maxSteps := 4000000) [hd0, hfr, hout, hcl, hcd, delA_none, ha, ha_n, ha_d, ha_m, hr]
theorem slices_ContainsFunc_Txn (H : HH) {r q n} {l : List DTxn} {g caps} {P : DTxn → Bool} (hb : l.length ≤ 1048576) (hn : n ≤ l.length) (ha : arrAt H r q = some (5, l.map DTxn.enc)) (hcaps : ∀ c ∈ caps, isRef c = true ∨ ∃ y, c = .v y ∧ flat y = true) (hg : tfunc Try.prog g = true)
    (hf : ∀ i (hi : i < l.length), PFun Try.prog g ([.a [.v (.int .i64 l[i].id_), .v (.int .i64 l[i].at_), .v (.int .i64 l[i].state), .v (.int .i64 l[i].done), .sl r (q ++ [(i, 4)]) 4 0 l[i].undos.length]] ++ caps.map T.c) H (B (P l[i]))) : PFun Try.prog 74 [.c (.sl r q 5 0 n), .c (.fn g caps)] H (B ((l.take n).any P)) := by
  refine PFun.of [0, 1, 4] Try.func74 rfl (by simp [Try.f74]) ?_
  intro d hd0 hfr hcl hout
  have hcd : ∀ n q, CleanH (hit [((d, n), q)]) H := fun n q => hcl.at
  have ha_n : ∀ n, ¬ (d, n) = r := fun n => nm_ne (ne_of_arr hfr ha)
  have ha_d : ¬ r.1 = d := ne_of_arr hfr ha
  have ha_m : ∀ n, ¬ r = (d, n) := fun n => nm_ne' (ne_of_arr hfr ha)
  simp (maxSteps := 4000000) [hd0, hfr, hout, hcl, hcd, delA_none, ha, ha_n, ha_d, ha_m, Try.f74]
  refine (slices_IndexFunc_Txn _ hb hn ha hcaps hg hf).useCK ?_
  simp (maxSteps := 4000000) [hd0, hfr, hout, hcl, hcd, delA_none, ha, ha_n, ha_d, ha_m]
  exact idxF_any
theorem impl_Txn_undoes_1 (H : HH) {r q k} {u : DUndo} (ha : arrAt H r q = some (1, [[.v (.int .i64 k)]])) : PFun Try.prog 103 [.a u.enc, .c (.pt r q 1 0 0)] H (B (decide (u.key = k))) := by
  refine PFun.of [1, 2, 3] Try.func103 rfl (by simp [Try.f103]) ?_
  intro d hd0 hfr hcl hout
  have hcd : ∀ n q, CleanH (hit [((d, n), q)]) H := fun n q => hcl.at
  have ha_n : ∀ n, ¬ (d, n) = r := fun n => nm_ne (ne_of_arr hfr ha)
  have ha_d : ¬ r.1 = d := ne_of_arr hfr ha
  have ha_m : ∀ n, ¬ r = (d, n) := fun n => nm_ne' (ne_of_arr hfr ha)
  simp (maxSteps := 4000000) [hd0, hfr, hout, hcl, hcd, delA_none, ha, ha_n, ha_d, ha_m, Try.f103, DUndo.enc]
def wroteF (l : List DUndo) (k : Int) : Bool := l.any fun u => decide (u.key = k)
def undoesF (t : DTxn) (k : Int) : Bool := decide (t.state = 1) && wroteF t.undos k
theorem impl_Txn_undoes (H : HH) {r q k} {t : DTxn} (hb : t.undos.length ≤ 1048576) (ha : arrAt H r q = some (4, t.undos.map DUndo.enc)) : PFun Try.prog 76 [.a [.v (.int .i64 t.id_), .v (.int .i64 t.at_), .v (.int .i64 t.state), .v (.int .i64 t.done), .sl r q 4 0 t.undos.length], I k] H (B (undoesF t k)) := by
  refine PFun.of [2, 3, 4] Try.func76 rfl (by simp [Try.f76]) ?_
  intro d hd0 hfr hcl hout
  have hcd : ∀ n q, CleanH (hit [((d, n), q)]) H := fun n q => hcl.at
  have ha_n : ∀ n, ¬ (d, n) = r := fun n => nm_ne (ne_of_arr hfr ha)
  have ha_d : ¬ r.1 = d := ne_of_arr hfr ha
  have ha_m : ∀ n, ¬ r = (d, n) := fun n => nm_ne' (ne_of_arr hfr ha)
  simp (maxSteps := 4000000) [hd0, hfr, hout, hcl, hcd, delA_none, ha, ha_n, ha_d, ha_m, Try.f76]
  by_cases hs : t.state = 1
  case neg => simp (maxSteps := 4000000) [hd0, hfr, hout, hcl, hcd, delA_none, ha, ha_n, ha_d, ha_m, hs, undoesF]
  have hC : ∀ H', arrAt H' (d, 3) [] = some (1, [[.v (.int .i64 k)]]) → arrAt H' r q = some (4, t.undos.map DUndo.enc) → PFun Try.prog 77 [.c (.sl r q 4 0 t.undos.length), .c (.fn 103 [.pt (d, 3) [] 1 0 0])] H' (B (wroteF t.undos k)) := fun H' h1 h2 => by
    have := slices_ContainsFunc_Undo H' (P := fun u => decide (u.key = k)) (g := 103) (caps := [.pt (d, 3) [] 1 0 0]) hb (Nat.le_refl _) h2 (by simp [isRef]) (by simp) (fun i hi => impl_Txn_undoes_1 H' h1)
    simpa [wroteF] using this
  simp (maxSteps := 4000000) [hd0, hfr, hout, hcl, hcd, delA_none, ha, ha_n, ha_d, ha_m, hs]
  refine (hC _ (by simp (maxSteps := 4000000) [hd0, hfr, hout, hcl, hcd, delA_none, ha, ha_n, ha_d, ha_m]) (by simp (maxSteps := 4000000) [hd0, hfr, hout, hcl, hcd, delA_none, ha, ha_n, ha_d, ha_m])).useCK ?_
  simp (maxSteps := 4000000) [hd0, hfr, hout, hcl, hcd, delA_none, ha, ha_n, ha_d, ha_m, hs, undoesF]
theorem impl_EngineFault_1 (H : HH) {r q cl c0 c2 c3} {v : DVersion} (ha : arrAt H r q = some (4, [[c0, .v (.int .i64 cl), c2, c3]])) : PFun Try.prog 73 [.a v.enc, .c (.pt r q 4 0 0)] H (B (decide (cl < v.at_))) := by
  refine PFun.of [1, 2, 3] Try.func73 rfl (by simp [Try.f73]) ?_
  intro d hd0 hfr hcl hout
  have hcd : ∀ n q, CleanH (hit [((d, n), q)]) H := fun n q => hcl.at
  have ha_n : ∀ n, ¬ (d, n) = r := fun n => nm_ne (ne_of_arr hfr ha)
  have ha_d : ¬ r.1 = d := ne_of_arr hfr ha
  have ha_m : ∀ n, ¬ r = (d, n) := fun n => nm_ne' (ne_of_arr hfr ha)
  simp (maxSteps := 4000000) [hd0, hfr, hout, hcl, hcd, delA_none, ha, ha_n, ha_d, ha_m, Try.f73, DVersion.enc]
theorem impl_EngineFault_3 (H : HH) {r q} {x u : DUndo} (ha : arrAt H r q = some (4, [u.enc])) : PFun Try.prog 78 [.a x.enc, .c (.pt r q 4 0 0)] H (B (decide (x.key = u.key))) := by
  refine PFun.of [1, 2, 3] Try.func78 rfl (by simp [Try.f78]) ?_
  intro d hd0 hfr hcl hout
  have hcd : ∀ n q, CleanH (hit [((d, n), q)]) H := fun n q => hcl.at
  have ha_n : ∀ n, ¬ (d, n) = r := fun n => nm_ne (ne_of_arr hfr ha)
  have ha_d : ¬ r.1 = d := ne_of_arr hfr ha
  have ha_m : ∀ n, ¬ r = (d, n) := fun n => nm_ne' (ne_of_arr hfr ha)
  simp (maxSteps := 4000000) [hd0, hfr, hout, hcl, hcd, delA_none, ha, ha_n, ha_d, ha_m, Try.f78, DUndo.enc]
theorem impl_EngineFault_2 (H : HH) {r q r1 q1 r2 q2 c} {t : DTxn} {f : DVersion} {k : Int} (hb : t.undos.length ≤ 1048576) (ha : arrAt H r q = some (4, t.undos.map DUndo.enc)) (hb1 : arrAt H r1 q1 = some (4, [f.enc])) (hb2 : arrAt H r2 q2 = some (2, [[.v (.int .i64 k), c]])) :
    PFun Try.prog 75 [.a [.v (.int .i64 t.id_), .v (.int .i64 t.at_), .v (.int .i64 t.state), .v (.int .i64 t.done), .sl r q 4 0 t.undos.length], .c (.pt r1 q1 4 0 0), .c (.pt r2 q2 2 0 0)] H (B (decide (t.id_ = f.txn) && undoesF t k)) := by
  refine PFun.of [1, 2, 3, 4] Try.func75 rfl (by simp [Try.f75]) ?_
  intro d hd0 hfr hcl hout
  have hcd : ∀ n q, CleanH (hit [((d, n), q)]) H := fun n q => hcl.at
  have ha_n : ∀ n, ¬ (d, n) = r := fun n => nm_ne (ne_of_arr hfr ha)
  have ha_d : ¬ r.1 = d := ne_of_arr hfr ha
  have ha_m : ∀ n, ¬ r = (d, n) := fun n => nm_ne' (ne_of_arr hfr ha)
  have hb1_n : ∀ n, ¬ (d, n) = r1 := fun n => nm_ne (ne_of_arr hfr hb1)
  have hb1_d : ¬ r1.1 = d := ne_of_arr hfr hb1
  have hb1_m : ∀ n, ¬ r1 = (d, n) := fun n => nm_ne' (ne_of_arr hfr hb1)
  have hb2_n : ∀ n, ¬ (d, n) = r2 := fun n => nm_ne (ne_of_arr hfr hb2)
  have hb2_d : ¬ r2.1 = d := ne_of_arr hfr hb2
  have hb2_m : ∀ n, ¬ r2 = (d, n) := fun n => nm_ne' (ne_of_arr hfr hb2)
  simp (maxSteps := 4000000) [hd0, hfr, hout, hcl, hcd, delA_none, ha, ha_n, ha_d, ha_m, hb1, hb1_n, hb1_d, hb1_m, hb2, hb2_n, hb2_d, hb2_m, Try.f75]
  by_cases hi : t.id_ = f.txn
  case neg => simp (maxSteps := 4000000) [hd0, hfr, hout, hcl, hcd, delA_none, ha, ha_n, ha_d, ha_m, hb1, hb1_n, hb1_d, hb1_m, hb2, hb2_n, hb2_d, hb2_m, hi, DVersion.enc]
  simp (maxSteps := 4000000) [hd0, hfr, hout, hcl, hcd, delA_none, ha, ha_n, ha_d, ha_m, hb1, hb1_n, hb1_d, hb1_m, hb2, hb2_n, hb2_d, hb2_m, eq_true hi, DVersion.enc]
  refine (impl_Txn_undoes _ (t := t) hb (by simp (maxSteps := 4000000) [hd0, hfr, hout, hcl, hcd, delA_none, ha, ha_n, ha_d, ha_m, hb1, hb1_n, hb1_d, hb1_m, hb2, hb2_n, hb2_d, hb2_m])).useCK ?_
  simp (maxSteps := 4000000) [hd0, hfr, hout, hcl, hcd, delA_none, ha, ha_n, ha_d, ha_m, hb1, hb1_n, hb1_d, hb1_m, hb2, hb2_n, hb2_d, hb2_m, eq_true hi, DVersion.enc]
def openF (l : List DVersion) (id : Int) : Bool := match l with | [] => false | v :: _ => decide (v.at_ = 0) && decide (v.txn = id)
theorem impl_isOpenOf (H : HH) {r q id} {l : List DVersion} (ha : arrAt H r q = some (4, l.map DVersion.enc)) : PFun Try.prog 38 [.c (.sl r q 4 0 l.length), I id] H (B (openF l id)) := by
  refine PFun.of [0, 1, 4] Try.func38 rfl (by simp [Try.f38]) ?_
  intro d hd0 hfr hcl hout
  have hcd : ∀ n q, CleanH (hit [((d, n), q)]) H := fun n q => hcl.at
  have ha_n : ∀ n, ¬ (d, n) = r := fun n => nm_ne (ne_of_arr hfr ha)
  have ha_d : ¬ r.1 = d := ne_of_arr hfr ha
  have ha_m : ∀ n, ¬ r = (d, n) := fun n => nm_ne' (ne_of_arr hfr ha)
  simp (maxSteps := 4000000) [hd0, hfr, hout, hcl, hcd, delA_none, ha, ha_n, ha_d, ha_m, Try.f38]
  cases l with
  | nil => simp (maxSteps := 4000000) [hd0, hfr, hout, hcl, hcd, delA_none, ha, ha_n, ha_d, ha_m, openF]
  | cons v l =>
    by_cases hz : v.at_ = 0
    · simp (maxSteps := 4000000) [hd0, hfr, hout, hcl, hcd, delA_none, ha, ha_n, ha_d, ha_m, openF, DVersion.enc, eq_true hz]
    · simp (maxSteps := 4000000) [hd0, hfr, hout, hcl, hcd, delA_none, ha, ha_n, ha_d, ha_m, openF, DVersion.enc, eq_false hz]
end Go.Proofs.Ytnlbjfdmjlnlgaa

namespace Go.Px
open Go.RowKit
/-- ahead of a loop: a temporary that owns gets a name -/
theorem LoopK.bind {cx kv c t H lg K i z els} (hi : getT t i = some (.c (.own z els))) (hl : Px.look H (cx.d, i) = none) (h : LoopK cx kv c ⟨setT t i (.c (.sl (cx.d, i) [] z 0 els.length)), ((cx.d, i), .own z els) :: H, lg⟩ K) : LoopK cx kv c ⟨t, H, lg⟩ K :=
  SCode.ghost (fun e a w hd hr => by rw [← hd] at hl ⊢; exact Rel.bind hr hi hl) h
theorem wU8 {x : Int} : IntKind.u8.wrap x = x % 256 := by
  have e1 : (2 : Int) ^ 8 = 256 := rfl
  simp [IntKind.wrap, IntKind.bits, IntKind.signed, e1]
theorem wU64 {x : Int} (h1 : 0 ≤ x) (h2 : x ≤ 9223372036854775807) : IntKind.u64.wrap x = x := by
  have e1 : (2 : Int) ^ 64 = 18446744073709551616 := rfl
  simp only [IntKind.wrap, IntKind.bits, IntKind.signed, Bool.false_and, e1]
  simp
  omega
theorem or256 {n b : Int} (h1 : 0 ≤ n) (h2 : n < 1099511627776) (h3 : 0 ≤ b) (h4 : b < 256) : (((BitVec.ofInt 64 (n * 256) ||| BitVec.ofInt 64 b).toNat : Nat) : Int) = n * 256 + b := by
  obtain ⟨n, rfl⟩ := Int.eq_ofNat_of_zero_le h1
  obtain ⟨b, rfl⟩ := Int.eq_ofNat_of_zero_le h3
  have e1 : ((n : Int) * 256) = ((n * 256 : Nat) : Int) := by simp
  rw [e1, BitVec.ofInt_natCast, BitVec.ofInt_natCast, BitVec.toNat_or, BitVec.toNat_ofNat, BitVec.toNat_ofNat, Nat.mod_eq_of_lt (by omega), Nat.mod_eq_of_lt (by omega)]
  have := Nat.two_pow_add_eq_or_of_lt (i := 8) (b := b) (by omega) n
  rw [Nat.mul_comm n 256]
  have e2 : (2 : Nat) ^ 8 = 256 := rfl
  rw [e2] at this
  rw [← this]
  simp
end Go.Px

namespace Go.Px
open Go.RowKit
set_option linter.unusedVariables false
set_option linter.unusedSimpArgs false
set_option linter.constructorNameAsVariable false
/-- one argument of a list stands for another -/
theorem TReps.swap {R R' : Cell → Value → Prop} {w : World} {K : Cell → Prop} {x y : T} {Fy} (hR : ∀ c x, isRef c = true → ¬ K c → R c x → R' c x) (hxy : ∀ v F, TRep R w x v F → F = [] ∧ ∃ F1, TRep R' w y v F1 ∧ F1.Sublist Fy) :
    ∀ {l vs F} {i : Nat}, TReps R w l vs F → l[i]? = some x → (∀ j z, j ≠ i → l[j]? = some z → z.clean K) → ∃ F' F1, TReps R' w (l.set i y) vs F' ∧ F'.Perm (F1 ++ F) ∧ F1.Sublist Fy
  | [], _, _, i, _, hi, _ => by simp at hi
  | z :: l, _, _, 0, .cons (v := v) (F := F) (vs := vs) (G := G) h1 h2, hi, hc => by
    simp at hi
    subst hi
    obtain ⟨rfl, F1, h3, h4⟩ := hxy _ _ h1
    have : TReps R' w l vs G := by
      have hall : T.cleans K l := by
        have : ∀ (l : List T), (∀ z ∈ l, z.clean K) → T.cleans K l := by
          intro l; induction l with
          | nil => intro _; trivial
          | cons a t ih => intro h; exact ⟨h a (by simp), ih (fun z hz => h z (by simp [hz]))⟩
        refine this l (fun z hz => ?_)
        obtain ⟨j, hj⟩ := List.mem_iff_getElem?.1 hz
        exact hc (j + 1) z (by omega) (by simpa using hj)
      cases (TRep.t h2).mono (R' := R') (w' := w) (K := K) hall hR (fun _ _ => rfl) with
      | t h => exact h
    exact ⟨F1 ++ G, F1, .cons h3 this, by simp, h4⟩
  | z :: l, _, _, i + 1, .cons (v := v) (F := F) (vs := vs) (G := G) h1 h2, hi, hc => by
    obtain ⟨F', F1, k1, k2, k3⟩ := TReps.swap hR hxy h2 (by simpa using hi) (fun j z' hj hz => hc (j + 1) z' (by omega) (by simpa using hz))
    refine ⟨F ++ F', F1, .cons (h1.mono (hc 0 z (by omega) (by simp)) hR (fun _ _ => rfl)) k1, ?_, k3⟩
    refine (List.Perm.append_left F k2).trans ?_
    rw [← List.append_assoc, ← List.append_assoc]
    exact List.Perm.append_right G List.perm_append_comm

theorem cleans_get {K : Cell → Prop} : ∀ {l : List T} {i : Nat}, T.cleans K (l.set i .u) → ∀ (j : Nat) y, j ≠ i → l[j]? = some y → y.clean K
  | [], _, _, j, y, _, h => by simp at h
  | z :: l, 0, hc, j, y, hj, h => by
    cases j with
    | zero => omega
    | succ j =>
      simp only [List.set_cons_zero, T.cleans] at hc
      have : ∀ {l : List T}, T.cleans K l → ∀ z ∈ l, z.clean K := by
        intro l; induction l with
        | nil => simp
        | cons a t ih => intro h z hz; rcases List.mem_cons.1 hz with rfl | hz; exact h.1; exact ih h.2 z hz
      exact this hc.2 y (List.mem_of_getElem? (by simpa using h))
  | z :: l, i + 1, hc, j, y, hj, h => by
    simp only [List.set_cons_succ, T.cleans] at hc
    cases j with
    | zero => simp at h; subst h; exact hc.1
    | succ j => exact cleans_get hc.2 j y (by omega) (by simpa using h)
/-- a call that takes over a local array of the caller's -/
theorem PUpd.takeCK {P f args H x H' d} {KP : St → Prop} {t' o lg0 i r z els} (h : PUpd P f (args.set i (.c (.own z els))) (delH H r) x H') (hd : d ≠ 0) (hi : args[i]? = some (.c (.sl r [] z 0 els.length))) (hr : r.1 = d) (hl : look H r = some (.own z els))
    (hcl : CleanH (hit [(r, [])]) H) (hot : T.cleans (hit [(r, [])]) (args.set i .u)) (hoc : OcleanT (hit [(r, [])]) t') (hq : KP ⟨putD (t'.filter (fun en => en.2.keep r [])) o x, H', lg0⟩) : PCalls P f args H (CK d KP t' o lg0) := by
  intro g w β F FA vs hg hh ha hn hlow
  have h0 : r.1 ≠ 0 := by rw [hr]; exact hd
  obtain ⟨Fr, G0, h1, h2, h3⟩ := hh.del h0 hl
  have hK : ∀ y x, isRef y = true → ¬ hit [(r, [])] y → VP w β H y x → VP w β (delH H r) y x := VP.map VP1.del
  have hcd : Clean (hit [(r, [])]) (.own z els) := hcl _ (look_mem hl)
  have hxy : ∀ v F, TRep (VP w β H) w (.c (.sl r [] z 0 els.length)) v F → F = [] ∧ ∃ F1, TRep (VP w β (delH H r)) w (.c (.own z els)) v F1 ∧ F1.Sublist Fr := by
    intro v F hv
    have hF : F = [] := hv.bare rfl
    subst hF
    refine ⟨rfl, ?_⟩
    have hv := trep_ref hv rfl
    obtain ⟨c', els', hd', e1, e2, e3, e4, e5⟩ := hv
    rw [hl] at e1; cases e1
    simp [Cell.get] at e2; subst e2
    simp [hdr] at e3; subst e3
    obtain ⟨F0', r1, r2⟩ := rep_drop h2 e5 (by omega)
    rw [List.drop_zero] at r1
    exact ⟨F0', .c (r1.mono hcd hK (fun _ _ => rfl)), r2⟩
  obtain ⟨F', F1', k1, k2, k3⟩ := TReps.swap hK hxy ha hi (cleans_get hot)
  have h4 := h3.mono (fun _ _ => rfl) (fun en he => hcl en (mem_delH he)) hK (fun _ _ => rfl) (fun _ _ => rfl)
  have hsub : ∀ b ∈ G0 ++ F', b ∈ F ++ FA := by
    intro b hb
    rcases List.mem_append.1 hb with hb | hb
    · exact List.mem_append.2 (.inl (h1.symm.subset (by simp [hb])))
    · rcases List.mem_append.1 (k2.subset hb) with hb | hb
      · exact List.mem_append.2 (.inl (h1.symm.subset (by simp [k3.subset hb])))
      · exact List.mem_append.2 (.inr hb)
  have hnd : (G0 ++ F').Nodup := by
    have e1 : (G0 ++ F').Perm ((F1' ++ G0) ++ FA) := by
      refine (List.Perm.append_left G0 k2).trans ?_
      rw [← List.append_assoc]
      exact List.Perm.append_right FA List.perm_append_comm
    have e2 : ((F1' ++ G0) ++ FA).Sublist ((Fr ++ G0) ++ FA) := List.Sublist.append (List.Sublist.append k3 (.refl _)) (.refl _)
    exact e1.nodup_iff.2 (List.Nodup.sublist e2 ((List.Perm.append_right FA h1).nodup_iff.1 hn))
  refine (h g w β G0 F' vs hg h4 k1 hnd (fun b hb => hlow b (hsub b hb))).mono ?_
  rintro en w' ⟨y, T, H1, lg, F1, FT, rfl, ⟨rfl, rfl, rfl⟩, m1, m2, m3, m4, m5⟩
  refine ⟨y, T, H1, [(r, [])], F1, FT, rfl, ?_, m1, m2, m3, ?_, fun y x hy hv => m5 y x (by intro hh; cases y <;> simp [hit1] at hh) (VP1.del y x hy hv)⟩
  · rw [CK_mk]
    refine ⟨by simpa using hoc, ?_⟩
    have : [(r, ([] : Path))].filter (fun e => decide (e.1.1 ≠ d)) = [] := by simp [hr]
    rw [this, List.nil_append]
    simpa [keepL] using hq
  · exact ⟨m4.os, m4.tape, m4.output, m4.size, fun b hb hm => m4.same b hb (fun h' => hm (hsub _ h')), fun b hb => (m4.new b hb).imp (fun h' => hsub _ h') id⟩
theorem PFun.takeCK {P f args H x d} {KP : St → Prop} {t' o lg0 i r z els} (h : PFun P f (args.set i (.c (.own z els))) (delH H r) x) (hd : d ≠ 0) (hi : args[i]? = some (.c (.sl r [] z 0 els.length))) (hr : r.1 = d) (hl : look H r = some (.own z els))
    (hcl : CleanH (hit [(r, [])]) H) (hot : T.cleans (hit [(r, [])]) (args.set i .u)) (hoc : OcleanT (hit [(r, [])]) t') (hq : KP ⟨putD (t'.filter (fun en => en.2.keep r [])) o x, delH H r, lg0⟩) : PCalls P f args H (CK d KP t' o lg0) :=
  PUpd.takeCK h.upd hd hi hr hl hcl hot hoc hq
theorem PFun.own0 {P f rest H x z} (h : PFun P f (.c (.own z []) :: rest) H x) : PFun P f (.c (.own 0 []) :: rest) H x := by
  intro g w β F FA vs hg hh ha hn hlow
  refine h g w β F FA vs hg hh ?_ hn hlow
  cases ha with
  | cons h1 h2 =>
    refine .cons ?_ h2
    cases h1 with
    | c hr =>
      rcases own_inv hr with ⟨-, rfl, A, rfl⟩ | ⟨b, off, cap, arr, el, F1, vs, fr, rfl, rfl, hz, -⟩
      · exact .c (.nil z A)
      · omega
/-- ahead of a drawn region: a temporary takes over the local array that it refers to -/
theorem DrawK.take {cx kv id ops s K} (i : Nat) (h : takeK cx.d s i (fun s' => DrawK cx kv id ops s' K)) : DrawK cx kv id ops s K := by
  obtain ⟨s', hk, hg⟩ := takeK_ghost h
  exact SCode.ghost (fun e a w hd hr => hg e a w hd hr) hk
def allocAt (ops : Array Oper) (m : Nat) : Option (Nat × Nat) :=
  match ops[m]? with
  | some o => (match o.op, o.guard, o.dst with | .alloc el, none, some da => some (el, da) | _, _, _ => none)
  | none => none
theorem allocAt_iff {ops m el da} (h : allocAt ops m = some (el, da)) : ∃ o, ops[m]? = some o ∧ o.op = .alloc el ∧ o.guard = none ∧ o.dst = some da := by
  unfold allocAt at h
  split at h
  · rename_i o ho
    split at h
    · rename_i h1 h2 h3
      cases h
      exact ⟨o, ho, h1, h2, h3⟩
    · cases h
  · cases h
def FTailA (cx : Cx) (ops : Array Oper) (m da : Nat) (zl : List Cell) (keep : List Nat) (H : HH) (lg : List (Nm × Path)) (KS : St → Prop) (val : List (Nat × T)) (cs : List Nat) : Prop :=
  (∀ j ∈ da :: keep, j ∉ cs) ∧ POps' cx ops (List.range' (m + 1) (ops.size - (m + 1))) KS ⟨(da, .c (.pt (cx.d, da) [] zl.length 0 0)) :: live keep val, ((cx.d, da), .own zl.length [zl]) :: H, lg⟩
theorem FTailA_mk {cx ops m da zl keep H lg KS val cs} : FTailA cx ops m da zl keep H lg KS val cs = ((∀ j ∈ da :: keep, j ∉ cs) ∧ POps' cx ops (List.range' (m + 1) (ops.size - (m + 1))) KS ⟨(da, .c (.pt (cx.d, da) [] zl.length 0 0)) :: live keep val, ((cx.d, da), .own zl.length [zl]) :: H, lg⟩) := rfl
attribute [simp] FTailA_mk
/-- a drawn region in which an object is made, behind the free operations in the text -/
theorem DrawK.introA {cx kv id ops t H lg K el da zl} (m : Nat) (keep : List Nat) (hmx : cx.P.follows .mixedOrders = true) (hoa : allocAt ops m = some (el, da)) (hchk : drawChkA ops m da = true) (hkeep : keep.Nodup) (hdk : da ∉ keep) (hdaN : da < cx.N) (hz : tzc cx.P el = some zl) (hl0 : 0 < zl.length)
    (hla : look H (cx.d, da) = none) (h : FRun' cx ops m H (FTailA cx ops m da zl keep H lg (kvK kv K)) m 0 t []) : DrawK cx kv id ops ⟨t, H, lg⟩ K := by
  obtain ⟨oa, h1, h2, h3, h4⟩ := allocAt_iff hoa
  refine SCode.drawA m keep hmx h1 h2 h3 h4 hz hl0 hla hdaN hchk hkeep hdk ?_
  refine FRun'.to (FRun'.mono (fun val cs hv => ?_) h)
  exact ⟨hv.1, SOps.mono (POps.sound hv.2) fun s' hs => by
    refine SOps.ghost (Ghost.keep (fun e => kv.contains e.1)) (SOps.nil ?_)
    rw [← keepV_filter]; exact hs⟩
/-- behind a round: a temporary that owns gets a name -/
theorem LK.bind {d I n t H lg i z els} (hi : getT t i = some (.c (.own z els))) (hl : Px.look H (d, i) = none) (h : LK d I n ⟨setT t i (.c (.sl (d, i) [] z 0 els.length)), ((d, i), .own z els) :: H, lg⟩) : LK d I n ⟨t, H, lg⟩ := by
  obtain ⟨m, s', h1, h2, h3⟩ := h
  exact ⟨m, s', h1, Ghost.trans (fun e a w hd hr => by rw [← hd] at hl ⊢; exact Rel.bind hr hi hl) h2, h3⟩
end Go.Px

namespace Go.Proofs.Ytnlbjfdmjlnlgaa
open Go Go.Px Go.RowKit Go.Proofs
set_option linter.unnecessarySimpa false
set_option linter.unusedVariables false
set_option linter.unusedSimpArgs false
set_option maxRecDepth 100000
set_option maxHeartbeats 1000000
attribute [-simp] Int.not_le Int.not_lt
def rowP (l : List DRow) (k : Int) : Nat := (l.takeWhile fun r => decide (r.key < k)).length
def sortedR (l : List DRow) : Prop := ∀ i j (hij : i < j) (hj : j < l.length), l[i].key < l[j].key
theorem rowP_spec {k : Int} : ∀ (l : List DRow), rowP l k ≤ l.length ∧ (∀ j (hj : j < l.length), j < rowP l k → l[j].key < k) ∧ (∀ h : rowP l k < l.length, k ≤ l[rowP l k].key)
  | [] => ⟨by simp [rowP], fun j hj => by simp at hj, fun h => by simp [rowP] at h⟩
  | r :: l => by
    obtain ⟨h1, h2, h3⟩ := rowP_spec (k := k) l
    by_cases hr : r.key < k
    · have e : rowP (r :: l) k = rowP l k + 1 := by simp [rowP, hr]
      refine ⟨by simp [e]; omega, fun j hj hlt => ?_, fun h => ?_⟩
      · cases j with
        | zero => exact hr
        | succ j => simp at hj; exact h2 j hj (by omega)
      · simp only [e] at h ⊢
        simp at h
        simpa using h3 h
    · have e : rowP (r :: l) k = 0 := by simp [rowP, hr]
      refine ⟨by simp [e], fun j hj hlt => by omega, fun h => ?_⟩
      simp only [e]
      show k ≤ r.key
      omega
theorem rowP_high {l : List DRow} {k : Int} (hs : sortedR l) {j : Nat} (hj : j < l.length) (h : rowP l k ≤ j) : k ≤ l[j].key := by
  obtain ⟨h1, h2, h3⟩ := rowP_spec (k := k) l
  have h4 := h3 (by omega)
  rcases Nat.eq_or_lt_of_le h with e | e
  · simp only [e] at h4; exact h4
  · have := hs _ _ e hj; omega
def foundR (l : List DRow) (k : Int) : Bool := match l[rowP l k]? with | some r => decide (r.key = k) | none => false
theorem impl_Engine_row_1 (H : HH) {r q n} {k1 k2 : Int} : PFun Try.prog 116 [.a [.v (.int .i64 k1), .sl r q 4 0 n], I k2] H (I (IntKind.i64.wrap (k1 - k2))) := by
  refine PFun.of [1, 2, 4] Try.func116 rfl (by simp [Try.f116]) ?_
  intro d hd0 hfr hcl hout
  have hcd : ∀ n q, CleanH (hit [((d, n), q)]) H := fun n q => hcl.at
  simp (maxSteps := 4000000) [hd0, hfr, hout, hcl, hcd, delA_none, Try.f116]
def kOk (k : Int) : Prop := 0 ≤ k ∧ k ≤ 31
def keysOk (l : List DRow) : Prop := ∀ r ∈ l, kOk r.key
theorem slices_BinarySearchFunc_Row (H : HH) {r q} {l : List DRow} {k : Int} (hb : l.length ≤ 1048576) (hs : sortedR l) (hk : kOk k) (hks : keysOk l) (ha : arrAt H r q = some (2, l.map DRow.enc)) :
    PFun Try.prog 115 [.c (.sl r q 2 0 l.length), I k, .c (.fn 116 [])] H (.t [I (rowP l k), B (foundR l k)]) := by
  obtain ⟨hp1, hp2, hp3⟩ := rowP_spec (k := k) l
  have hhigh : ∀ j (hj : j < l.length), rowP l k ≤ j → k ≤ l[j].key := fun j hj h => rowP_high hs hj h
  have hf1 : ∀ h : rowP l k < l.length, foundR l k = decide (l[rowP l k].key = k) := fun h => by simp [foundR, h]
  have hf2 : ¬ rowP l k < l.length → foundR l k = false := fun h => by simp [foundR, show l[rowP l k]? = none by simp; omega]
  generalize rowP l k = p at *
  have hcmp : ∀ j (hj : j < l.length), IntKind.i64.wrap (l[j].key - k) = l[j].key - k := fun j hj => by
    have h1 := hks _ (List.getElem_mem hj); unfold kOk at h1 hk
    exact w64 (by omega) (by omega)
  refine PFun.of [0, 1, 2, 6, 7, 8, 9, 10, 11, 17, 31] Try.func115 rfl (by simp [Try.f115]) ?_
  intro d hd0 hfr hcl hout
  have hcd : ∀ n q, CleanH (hit [((d, n), q)]) H := fun n q => hcl.at
  have ha_n : ∀ n, ¬ (d, n) = r := fun n => nm_ne (ne_of_arr hfr ha)
  have ha_d : ¬ r.1 = d := ne_of_arr hfr ha
  have ha_m : ∀ n, ¬ r = (d, n) := fun n => nm_ne' (ne_of_arr hfr ha)
  simp (maxSteps := 4000000) [hd0, hfr, hout, hcl, hcd, delA_none, ha, ha_n, ha_d, ha_m, Try.f115]
  refine LoopK.intro (fun m s => ∃ lo : Nat, lo + m ≤ l.length ∧ lo ≤ p ∧ p ≤ lo + m ∧ s = ⟨[(0, .c (.sl r q 2 0 l.length)), (1, I k), (2, .c (.fn 116 [])), (8, I l.length), (9, I lo), (10, I ((lo + m : Nat) : Int))], H, []⟩) (l.length + 1)
    (LK.intro l.length [0, 1, 2, 8, 9, 10] [] (by omega) (by decide) (by simp (maxSteps := 4000000) [hd0, hfr, hout, hcl, hcd, delA_none, ha, ha_n, ha_d, ha_m]) ⟨0, by omega, by omega, by omega, by simp⟩) ?_
  rintro m s ⟨lo, h1, h2, h3, rfl⟩
  obtain ⟨hi, hhi⟩ : ∃ hi : Nat, hi = lo + m := ⟨_, rfl⟩
  rw [← hhi] at h1 h3 ⊢
  by_cases hlt : lo < hi
  · obtain ⟨mid, hmid⟩ : ∃ mid : Nat, mid = (lo + hi) / 2 := ⟨_, rfl⟩
    have w1 : IntKind.i64.wrap ((lo : Int) + hi) = lo + hi := w64 (by omega) (by omega)
    have w2 : IntKind.u64.wrap ((lo : Int) + hi) = lo + hi := wU64 (by omega) (by omega)
    have w3 : ((lo : Int) + hi).fdiv 2 = mid := by rw [Int.fdiv_eq_ediv_of_nonneg _ (by omega)]; omega
    have w4 : IntKind.i64.wrap (mid : Int) = mid := w64 (by omega) (by omega)
    have w5 : IntKind.i64.wrap ((mid : Int) + 1) = mid + 1 := w64 (by omega) (by omega)
    have hml : mid < l.length := by omega
    simp (maxSteps := 4000000) [hd0, hfr, hout, hcl, hcd, delA_none, ha, ha_n, ha_d, ha_m, show (lo : Int) < hi by omega, w1, w2, w3, w4, IntKind.bits, hml, DRow.enc]
    refine (impl_Engine_row_1 _).useCK ?_
    rw [hcmp mid hml]
    by_cases hc : l[mid].key < k
    · have hlt2 : mid < p := by
        rcases Nat.lt_or_ge mid (p) with h | h
        · exact h
        · have := hhigh mid hml h; omega
      simp (maxSteps := 4000000) [hd0, hfr, hout, hcl, hcd, delA_none, ha, ha_n, ha_d, ha_m, eq_true (show l[mid].key - k < 0 by omega), w5]
      refine LK.intro (hi - (mid + 1)) [0, 1, 2, 8, 9, 10] [] (by omega) (by decide) (by simp (maxSteps := 4000000) [hd0, hfr, hout, hcl, hcd, delA_none, ha, ha_n, ha_d, ha_m]) ⟨mid + 1, by omega, by omega, by omega, by simp; omega⟩
    · have hlt2 : p ≤ mid := by
        rcases Nat.lt_or_ge mid (p) with h | h
        · have := hp2 mid hml h; omega
        · exact h
      simp (maxSteps := 4000000) [hd0, hfr, hout, hcl, hcd, delA_none, ha, ha_n, ha_d, ha_m, eq_false (show ¬ l[mid].key - k < 0 by omega)]
      refine LK.intro (mid - lo) [0, 1, 2, 8, 9, 10] [] (by omega) (by decide) (by simp (maxSteps := 4000000) [hd0, hfr, hout, hcl, hcd, delA_none, ha, ha_n, ha_d, ha_m]) ⟨lo, by omega, by omega, by omega, by simp; omega⟩
  · have e1 : lo = p := by omega
    subst e1
    by_cases hpl : lo < l.length
    · have hf := hf1 hpl
      simp (maxSteps := 4000000) [hd0, hfr, hout, hcl, hcd, delA_none, ha, ha_n, ha_d, ha_m, eq_false (show ¬ (lo : Int) < hi by omega), eq_false hlt, eq_true (show (lo : Int) < l.length by omega), hpl, DRow.enc]
      refine (impl_Engine_row_1 _).useCK ?_
      rw [hcmp _ hpl]
      have hz : (l[lo].key - k = 0) = (l[lo].key = k) := by simp; omega
      simp (maxSteps := 4000000) [hd0, hfr, hout, hcl, hcd, delA_none, ha, ha_n, ha_d, ha_m, hf, hz]
    · have hf := hf2 hpl
      simp (maxSteps := 4000000) [hd0, hfr, hout, hcl, hcd, delA_none, ha, ha_n, ha_d, ha_m, eq_false (show ¬ (lo : Int) < hi by omega), eq_false hlt, eq_false (show ¬ (lo : Int) < l.length by omega), eq_false hpl, hf]
theorem impl_Engine_row (H : HH) {r1 q1 r2 q2 rows2 c0 c1 n1} {l : List DRow} {k : Int} (hb : l.length ≤ 1048576) (hs : sortedR l) (hk : kOk k) (hks : keysOk l) (ha : arrAt H r1 q1 = some (2, l.map DRow.enc)) (hb2 : arrAt H r2 q2 = some (5, rows2)) :
    PFun Try.prog 105 [.a [.v (.int .i64 c0), .v (.int .i64 c1), .sl r2 q2 5 0 n1, .sl r1 q1 2 0 l.length], I k] H (.t [I (rowP l k), B (foundR l k)]) := by
  refine PFun.of [1, 2, 4, 5] Try.func105 rfl (by simp [Try.f105]) ?_
  intro d hd0 hfr hcl hout
  have hcd : ∀ n q, CleanH (hit [((d, n), q)]) H := fun n q => hcl.at
  have ha_n : ∀ n, ¬ (d, n) = r1 := fun n => nm_ne (ne_of_arr hfr ha)
  have ha_d : ¬ r1.1 = d := ne_of_arr hfr ha
  have ha_m : ∀ n, ¬ r1 = (d, n) := fun n => nm_ne' (ne_of_arr hfr ha)
  have hb2_n : ∀ n, ¬ (d, n) = r2 := fun n => nm_ne (ne_of_arr hfr hb2)
  have hb2_d : ¬ r2.1 = d := ne_of_arr hfr hb2
  have hb2_m : ∀ n, ¬ r2 = (d, n) := fun n => nm_ne' (ne_of_arr hfr hb2)
  simp (maxSteps := 4000000) [hd0, hfr, hout, hcl, hcd, delA_none, ha, ha_n, ha_d, ha_m, hb2, hb2_n, hb2_d, hb2_m, Try.f105]
  refine (slices_BinarySearchFunc_Row _ hb hs hk hks (by simp (maxSteps := 4000000) [hd0, hfr, hout, hcl, hcd, delA_none, ha, ha_n, ha_d, ha_m, hb2, hb2_n, hb2_d, hb2_m])).useCK ?_
  simp (maxSteps := 4000000) [hd0, hfr, hout, hcl, hcd, delA_none, ha, ha_n, ha_d, ha_m, hb2, hb2_n, hb2_d, hb2_m]
def chainR (l : List DRow) (k : Int) : List DVersion := if foundR l k then (l.getD (rowP l k) ⟨0, []⟩).chain else []
/-- the chain of a key, as it is handed back -/
def chainT (r : Nm) (q : Path) (l : List DRow) (k : Int) : T := if foundR l k then .c (.sl r (q ++ [(rowP l k, 1)]) 4 0 (chainR l k).length) else .c (.own 4 [])
theorem foundR_lt {l : List DRow} {k : Int} (h : foundR l k = true) : rowP l k < l.length := by
  unfold foundR at h
  split at h
  · rename_i r hr; exact (List.getElem?_eq_some_iff.1 hr).1
  · cases h
theorem impl_Engine_chain (H : HH) {r1 q1 r2 q2 rows2 c0 c1 n1} {l : List DRow} {k : Int} (hb : l.length ≤ 1048576) (hs : sortedR l) (hk : kOk k) (hks : keysOk l) (ha : arrAt H r1 q1 = some (2, l.map DRow.enc)) (hb2 : arrAt H r2 q2 = some (5, rows2)) :
    PFun Try.prog 79 [.a [.v (.int .i64 c0), .v (.int .i64 c1), .sl r2 q2 5 0 n1, .sl r1 q1 2 0 l.length], I k] H (chainT r1 q1 l k) := by
  refine PFun.of [1, 2, 4, 5, 6, 13] Try.func79 rfl (by simp [Try.f79]) ?_
  intro d hd0 hfr hcl hout
  have hcd : ∀ n q, CleanH (hit [((d, n), q)]) H := fun n q => hcl.at
  have ha_n : ∀ n, ¬ (d, n) = r1 := fun n => nm_ne (ne_of_arr hfr ha)
  have ha_d : ¬ r1.1 = d := ne_of_arr hfr ha
  have ha_m : ∀ n, ¬ r1 = (d, n) := fun n => nm_ne' (ne_of_arr hfr ha)
  have hb2_n : ∀ n, ¬ (d, n) = r2 := fun n => nm_ne (ne_of_arr hfr hb2)
  have hb2_d : ¬ r2.1 = d := ne_of_arr hfr hb2
  have hb2_m : ∀ n, ¬ r2 = (d, n) := fun n => nm_ne' (ne_of_arr hfr hb2)
  simp (maxSteps := 4000000) [hd0, hfr, hout, hcl, hcd, delA_none, ha, ha_n, ha_d, ha_m, hb2, hb2_n, hb2_d, hb2_m, Try.f79]
  refine (impl_Engine_row _ (rows2 := rows2) hb hs hk hks (by simp (maxSteps := 4000000) [hd0, hfr, hout, hcl, hcd, delA_none, ha, ha_n, ha_d, ha_m, hb2, hb2_n, hb2_d, hb2_m]) (by simp (maxSteps := 4000000) [hd0, hfr, hout, hcl, hcd, delA_none, ha, ha_n, ha_d, ha_m, hb2, hb2_n, hb2_d, hb2_m])).useCK ?_
  by_cases hf : foundR l k = true
  · have hlt := foundR_lt hf
    have hc : chainR l k = l[rowP l k].chain := by simp [chainR, hf, List.getD_eq_getElem?_getD, hlt]
    have hT : chainT r1 q1 l k = .c (.sl r1 (q1 ++ [(rowP l k, 1)]) 4 0 l[rowP l k].chain.length) := by simp [chainT, hf, hc]
    rw [hT]
    generalize rowP l k = p at *
    simp (maxSteps := 4000000) [hd0, hfr, hout, hcl, hcd, delA_none, ha, ha_n, ha_d, ha_m, hb2, hb2_n, hb2_d, hb2_m, hf, hlt, DRow.enc]
  · simp only [Bool.not_eq_true] at hf
    have hT : chainT r1 q1 l k = .c (.own 4 []) := by simp [chainT, hf]
    rw [hT]
    simp (maxSteps := 4000000) [hd0, hfr, hout, hcl, hcd, delA_none, ha, ha_n, ha_d, ha_m, hb2, hb2_n, hb2_d, hb2_m, hf]
end Go.Proofs.Ytnlbjfdmjlnlgaa

namespace Go.Px
open Go.RowKit
set_option linter.unusedVariables false
set_option linter.unusedSimpArgs false
set_option linter.constructorNameAsVariable false
/-- what is owned in hand gets a name of its own -/
def refsD (d : Nat) : Nat → List Cell → List Cell
  | _, [] => []
  | k, .own z els :: t => .sl (d, k) [] z 0 els.length :: refsD d (k + 1) t
  | k, c :: t => c :: refsD d (k + 1) t
def rootsD (d : Nat) : Nat → List Cell → HH
  | _, [] => []
  | k, .own z els :: t => ((d, k), .own z els) :: rootsD d (k + 1) t
  | k, c :: t => rootsD d (k + 1) t
def cellsA : List T → List Cell
  | [] => []
  | .a l :: t => l ++ cellsA t
  | .c c :: t => c :: cellsA t
  | _ :: t => cellsA t
def refsA (d : Nat) : Nat → List T → List T
  | _, [] => []
  | k, .a l :: t => .a (refsD d k l) :: refsA d (k + l.length) t
  | k, .c (.own z els) :: t => .c (.sl (d, k) [] z 0 els.length) :: refsA d (k + 1) t
  | k, .c c :: t => .c c :: refsA d (k + 1) t
  | k, x :: t => x :: refsA d k t
def rootable : List T → Bool
  | [] => true
  | .a _ :: t => rootable t
  | .c _ :: t => rootable t
  | _ :: _ => false
theorem Holds.append {g R w β} : ∀ {H1 F1 H2 F2}, Holds g R w β H1 F1 → Holds g R w β H2 F2 → Holds g R w β (H1 ++ H2) (F1 ++ F2)
  | _, _, _, _, .nil, h => h
  | _, _, _, _, .sh h0 hr hb ht, h => .sh h0 hr hb (ht.append h)
  | _, _, _, _, .ow h0 hr ht, h => by rw [List.append_assoc]; exact .ow h0 hr (ht.append h)
theorem Holds.split {g R w β} : ∀ {H1 H2 F}, Holds g R w β (H1 ++ H2) F → ∃ F1 F2, F = F1 ++ F2 ∧ Holds g R w β H1 F1 ∧ Holds g R w β H2 F2
  | [], H2, F, h => ⟨[], F, rfl, .nil, h⟩
  | e :: H1, H2, F, h => by
    cases h with
    | sh h0 hr hb ht =>
      obtain ⟨F1, F2, rfl, h1, h2⟩ := ht.split
      exact ⟨F1, F2, rfl, .sh h0 hr hb h1, h2⟩
    | ow h0 hr ht =>
      obtain ⟨F1, F2, rfl, h1, h2⟩ := ht.split
      exact ⟨_, F2, by rw [← List.append_assoc], .ow h0 hr h1, h2⟩
theorem rootsD_holds {g : Nat} {R : Cell → Value → Prop} {w : World} {β : Nm → Value} {d : Nat} (hd : d ≠ 0) : ∀ {l : List Cell} {vs : List Value} {F : List Nat} {k : Nat}, VRep R w l vs F → (∀ j v, vs[j]? = some v → β (d, k + j) = v) → Holds g R w β (rootsD d k l) F
  | _, _, _, k, .nil, hβ => .nil
  | c :: t, _, _, k, @VRep.cons _ _ _ x F1 _ xs G hc ht, hβ => by
    have hx : β (d, k) = x := by simpa using hβ 0 x (by simp)
    have ih := rootsD_holds (g := g) hd (k := k + 1) ht (fun j v hj => by rw [← hβ (j + 1) v (by simpa using hj)]; congr 2; omega)
    by_cases ho : isOwn c = true
    · cases c with
      | own z els =>
        simp only [rootsD]
        exact .ow hd (by rw [hx]; exact hc) ih
      | _ => simp [isOwn] at ho
    · have hF := hc.bare (by simpa using ho)
      subst hF
      cases c with
      | own z els => simp [isOwn] at ho
      | _ => simpa [rootsD] using ih
theorem refsD_rep {R R' : Cell → Value → Prop} {w : World} {d : Nat} : ∀ {l : List Cell} {vs : List Value} {F : List Nat} {k : Nat}, VRep R w l vs F → (∀ c x, isRef c = true → R c x → R' c x) → (∀ (j : Nat) z els v, l[j]? = some (.own z els) → vs[j]? = some v → R' (.sl (d, k + j) [] z 0 els.length) v) →
    VRep R' w (refsD d k l) vs []
  | _, _, _, k, .nil, hR, hO => .nil
  | c :: t, _, _, k, @VRep.cons _ _ _ x F1 _ xs G hc ht, hR, hO => by
    have ih := refsD_rep (d := d) (k := k + 1) ht hR (fun j z els v hj hv => by have := hO (j + 1) z els v (by simpa using hj) (by simpa using hv); rwa [show k + 1 + j = k + (j + 1) by omega])
    cases c with
    | own z els =>
      simp only [refsD]
      exact VRep.cons (F := []) (.ref rfl hc.flat (by simpa using hO 0 z els x rfl rfl)) ih
    | v y => cases hc with
      | v _ h => simpa [refsD] using VRep.cons (.v _ h) ih
      | ref hi => simp [isRef] at hi
    | x => cases hc with
      | x _ h => simpa [refsD] using VRep.cons (.x _ h) ih
      | ref hi => simp [isRef] at hi
    | sl r q z i n => cases hc with
      | ref hi hf hv => simpa [refsD] using VRep.cons (.ref rfl hf (hR _ _ rfl hv)) ih
    | pt r q z i f => cases hc with
      | ref hi hf hv => simpa [refsD] using VRep.cons (.ref rfl hf (hR _ _ rfl hv)) ih
    | fn f cs => cases hc with
      | ref hi hf hv => simpa [refsD] using VRep.cons (.ref rfl hf (hR _ _ rfl hv)) ih
theorem refsA_rep {R : Cell → Value → Prop} {w : World} {d : Nat} : ∀ {args : List T} {vs : List Value} {FA : List Nat} {k : Nat}, rootable args = true → TReps R w args vs FA → ∃ V, VRep R w (cellsA args) V FA ∧
    ∀ R' : Cell → Value → Prop, (∀ c x, isRef c = true → R c x → R' c x) → (∀ (j : Nat) z els v, (cellsA args)[j]? = some (.own z els) → V[j]? = some v → R' (.sl (d, k + j) [] z 0 els.length) v) → TReps R' w (refsA d k args) vs []
  | [], _, _, k, _, .nil => ⟨[], .nil, fun _ _ _ => .nil⟩
  | .a l :: t, _, _, k, hr, @TReps.cons _ _ _ v F _ vs' G hx ht => by
    obtain ⟨vs, rfl, hl⟩ := trep_a hx
    obtain ⟨V, h1, h2⟩ := refsA_rep (d := d) (k := k + l.length) (by simpa [rootable] using hr) ht
    have hll := hl.length
    refine ⟨vs ++ V, hl.append h1, fun R' hR hO => ?_⟩
    simp only [refsA]
    have e1 := refsD_rep (d := d) (k := k) hl hR (fun j z els v hj hv => by
      have hlt := (List.getElem?_eq_some_iff.1 hj).1
      exact hO j z els v (by simp only [cellsA]; rw [List.getElem?_append_left hlt]; exact hj) (by rw [List.getElem?_append_left (by omega)]; exact hv))
    have e2 := h2 R' hR (fun j z els v hj hv => by
      have := hO (l.length + j) z els v (by simp only [cellsA]; rw [List.getElem?_append_right (by omega)]; simpa using hj) (by rw [List.getElem?_append_right (by omega), hll]; simpa using hv)
      rwa [show k + l.length + j = k + (l.length + j) by omega])
    exact TReps.cons (F := []) (.a e1) e2
  | .c c :: t, _, _, k, hr, @TReps.cons _ _ _ v F _ vs' G hx ht => by
    cases hx with
    | c hx =>
      obtain ⟨V, h1, h2⟩ := refsA_rep (d := d) (k := k + 1) (by simpa [rootable] using hr) ht
      have h0 : VRep R w [c] [v] F := by simpa using VRep.cons hx .nil
      refine ⟨v :: V, .cons hx h1, fun R' hR hO => ?_⟩
      have e1 := refsD_rep (d := d) (k := k) h0 hR (fun j z els u hj hv => by
        cases j with
        | zero => simp at hj hv; subst hj hv; exact hO 0 z els _ rfl rfl
        | succ j => simp at hj)
      have e2 := h2 R' hR (fun j z els u hj hv => by
        have := hO (j + 1) z els u (by simpa [cellsA] using hj) (by simpa using hv)
        rwa [show k + 1 + j = k + (j + 1) by omega])
      have key : ∀ c', refsD d k [c] = [c'] → TReps R' w (.c c' :: refsA d (k + 1) t) (v :: vs') [] := fun c' hc' => by
        rw [hc'] at e1
        obtain ⟨v', F1, k1, k2, k3⟩ := e1.nth (j := 0) rfl
        simp at k1 k3; subst k1; subst k3
        exact TReps.cons (F := []) (.c k2) e2
      cases c <;> exact key _ rfl
  | .t l :: t, _, _, k, hr, h => by simp [rootable] at hr
  | .u :: t, _, _, k, hr, h => by simp [rootable] at hr
theorem look_append {r : Nm} : ∀ {H1 H2 : HH}, look (H1 ++ H2) r = match look H1 r with | some c => some c | none => look H2 r
  | [], H2 => rfl
  | (s, c) :: t, H2 => by
    by_cases e : s = r
    · simp [look, e]
    · simp only [List.cons_append, look, e, if_false]; exact look_append
theorem look_rootsD_ne {d : Nat} {r : Nm} (hr : r.1 ≠ d) : ∀ {l : List Cell} {k : Nat}, look (rootsD d k l) r = none
  | [], k => rfl
  | c :: t, k => by
    have ih := look_rootsD_ne hr (l := t) (k := k + 1)
    cases c with
    | own z els => simp only [rootsD, look]; rw [if_neg (fun e => hr (by rw [← e])), ih]
    | _ => simpa [rootsD] using ih
theorem look_rootsD {d : Nat} : ∀ {l : List Cell} {k j : Nat} {z els}, l[j]? = some (.own z els) → look (rootsD d k l) (d, k + j) = some (.own z els)
  | [], k, j, z, els, h => by simp at h
  | c :: t, k, 0, z, els, h => by simp at h; subst h; simp [rootsD, look]
  | c :: t, k, j + 1, z, els, h => by
    have ih := look_rootsD (d := d) (l := t) (k := k + 1) (j := j) (by simpa using h)
    rw [show k + 1 + j = k + (j + 1) by omega] at ih
    cases c with
    | own z' els' =>
      simp only [rootsD, look]
      rw [if_neg (fun e => by have := (Prod.mk.injEq _ _ _ _ ▸ e : d = d ∧ k = k + (j + 1)).2; omega)]
      exact ih
    | _ => simpa [rootsD] using ih
theorem vp1_out {w : World} {β β' : Nm → Value} {H H' : HH} {d : Nat} (hβ : ∀ r, r.1 ≠ d → β' r = β r) (hl : ∀ r, r.1 ≠ d → look H' r = look H r) : ∀ c x, ¬ atD1 d c → VP1 w β H c x → VP1 w β' H' c x := by
  intro c x hn h
  cases c with
  | sl r q z i n => obtain ⟨c, els, hd, e1, e2, e3, e4⟩ := h; exact ⟨c, els, hd, (hl r hn).trans e1, e2, by rw [hβ r hn]; exact e3, e4⟩
  | pt r q z i f => obtain ⟨c, els, hd, e1, e2, e3, e4⟩ := h; exact ⟨c, els, hd, (hl r hn).trans e1, e2, by rw [hβ r hn]; exact e3, e4⟩
  | v y => exact h
  | own z els => exact h.elim
  | fn f cs => exact h.elim
  | x => exact h.elim
theorem vp_named {R : Cell → Value → Prop} {w : World} {β : Nm → Value} {H : HH} {nm : Nm} {z : Nat} {els : List (List Cell)} {v : Value} {F : List Nat} (h : Rep R w (.own z els) v F) (hl : look H nm = some (.own z els)) (hβ : β nm = v) : VP w β H (.sl nm [] z 0 els.length) v := by
  refine ⟨.own z els, els, v, hl, rfl, by simp [hdr, hβ], by simp, ?_⟩
  cases h with
  | ref hi => simp [isRef] at hi
  | nil z A => exact .inr ⟨rfl, A, rfl, _, _, rfl⟩
  | @own _ b off cap _ arr el fr F hz hb hfr hr hl hs hreps => exact .inl ⟨b, off, _, cap, cap, rfl, by simp, hl, by omega⟩
/-- A contract over references serves for what is owned in hand. -/
theorem PFun.root {P : Program} {f : FuncId} {args : List T} {H : HH} {x : T} (hr : rootable args = true) (hx : ∀ d, x.clean (atD d))
    (h : ∀ d, d ≠ 0 → (∀ n, look H (d, n) = none) → PFun P f (refsA d 0 args) (rootsD d 0 (cellsA args) ++ H) x) : PFun P f args H x := by
  intro g w β F FA vs hgl hh ht hn hlow
  obtain ⟨d, hd0, hfr⟩ := exists_fresh H
  have hfr' : ∀ n, look H (d, n) = none := fun n => by
    cases hl : look H (d, n) with
    | none => rfl
    | some c => exact absurd rfl (hfr _ (look_mem hl))
  obtain ⟨V, hV, hmk⟩ := refsA_rep (d := d) (k := 0) hr ht
  let β' : Nm → Value := fun r => if r.1 = d then V.getD r.2 undef else β r
  have hβd : ∀ (j : Nat) v, V[j]? = some v → β' (d, 0 + j) = v := fun j v hj => by
    show (if (d, 0 + j).1 = d then V.getD (0 + j) undef else _) = v
    rw [if_pos rfl, Nat.zero_add, List.getD_eq_getElem?_getD, hj]; rfl
  have hβ : ∀ r : Nm, r.1 ≠ d → β' r = β r := fun r hr => by show (if r.1 = d then _ else _) = _; rw [if_neg hr]
  have hlk : ∀ r : Nm, r.1 ≠ d → look (rootsD d 0 (cellsA args) ++ H) r = look H r := fun r hr => by rw [look_append, look_rootsD_ne hr]
  have hvp : ∀ c x, isRef c = true → VP w β H c x → VP w β' (rootsD d 0 (cellsA args) ++ H) c x := fun c x hc hv => vp_out hβ hlk c x hc (vp_fresh hfr c x hc hv) hv
  have hO : ∀ (j : Nat) z els v, (cellsA args)[j]? = some (.own z els) → V[j]? = some v → VP w β' (rootsD d 0 (cellsA args) ++ H) (.sl (d, 0 + j) [] z 0 els.length) v := fun j z els v hj hv => by
    obtain ⟨v', F1, k1, k2, k3⟩ := hV.nth hj
    rw [hv] at k1; cases k1
    exact vp_named k2 (by rw [look_append, look_rootsD hj]) (hβd j v hv)
  have hV' : VRep (VP w β' (rootsD d 0 (cellsA args) ++ H)) w (cellsA args) V FA := hV.mono (K := fun _ => False) (fun c _ => clean_false c) (fun c x hc _ hv => hvp c x hc hv) (fun _ _ => rfl)
  have hHo : Holds g (VP w β' (rootsD d 0 (cellsA args) ++ H)) w β' H F := hh.mono (K := fun _ => False) (fun en he => hβ en.1 (hfr en he)) (fun en _ => clean_false en.2) (fun c x hc _ hv => hvp c x hc hv) (fun _ _ => rfl) (fun _ _ => rfl)
  have hHold : Holds g (VP w β' (rootsD d 0 (cellsA args) ++ H)) w β' (rootsD d 0 (cellsA args) ++ H) (FA ++ F) := (rootsD_holds hd0 hV' hβd).append hHo
  have hargs := hmk _ hvp hO
  refine (h d hd0 hfr' g w β' (FA ++ F) [] vs hgl hHold hargs ?_ ?_).mono fun en w' hres => ?_
  · rw [List.append_nil]; exact (List.perm_append_comm.nodup_iff).1 hn
  · intro b hb
    rw [List.append_nil] at hb
    exact hlow b (List.perm_append_comm.subset hb)
  · obtain ⟨y, T1, H', lg, F', FT, rfl, ⟨rfl, rfl, rfl⟩, k1, k2, k3, k4, k5⟩ := hres
    obtain ⟨F1, F2, rfl, m1, m2⟩ := k1.split
    have hlk2 : ∀ r : Nm, r.1 ≠ d → look H r = look (rootsD d 0 (cellsA args) ++ H) r := fun r hr => (hlk r hr).symm
    have hβ2 : ∀ r : Nm, r.1 ≠ d → β r = β' r := fun r hr => (hβ r hr).symm
    have hback := vp_out (w := w') hβ2 hlk2
    have m3 : Holds g (VP w' β H) w' β H F2 := m2.mono (K := atD d) (fun en he => hβ2 en.1 (hfr en he)) (hh.cleans (vp_fresh hfr)) (fun c x hc hk hv => hback c x hc hk hv) (fun _ _ => rfl) (fun _ _ => rfl)
    have m4 : TRep (VP w' β H) w' T1 y FT := k2.mono (hx d) (fun c x hc hk hv => hback c x hc hk hv) (fun _ _ => rfl)
    refine ⟨y, T1, H, [], F2, FT, rfl, ⟨rfl, rfl, rfl⟩, m3, m4, ?_, ?_, fun c x hc hv => ?_⟩
    · exact List.Nodup.sublist (List.Sublist.append (List.sublist_append_right F1 F2) (.refl _)) k3
    · have := k4.sub (B' := F2 ++ FT) (fun b hb => by
        rcases List.mem_append.1 hb with hb | hb
        · simp [hb]
        · simp [hb])
      exact { this with same := fun b hb hnb => this.same b hb (fun hm => hnb (by rw [List.append_nil] at hm; exact List.perm_append_comm.subset hm)), new := fun b hb => (this.new b hb).imp (fun hm => by rw [List.append_nil] at hm; exact List.perm_append_comm.subset hm) id }
    · have hnD := out_notD hv hfr
      have h1 := vp1_out hβ hlk c x hnD hv
      exact vp1_out hβ2 hlk2 c x hnD (k5 c x hc h1)
theorem CleanRows_mk {K : Cell → Prop} {k : Int} {rows : List (List Cell)} (h : CleanRows K rows) : CleanRows K (mkRs k rows) ↔ True := iff_true_intro (mkRs_clean h)
attribute [simp] CleanRows_mk refsA refsD rootsD cellsA rootable
end Go.Px

namespace Go.Proofs.Ytnlbjfdmjlnlgaa
open Go Go.Px Go.RowKit Go.Proofs
set_option linter.unnecessarySimpa false
set_option linter.unusedVariables false
set_option linter.unusedSimpArgs false
set_option maxRecDepth 100000
set_option maxHeartbeats 1000000
attribute [-simp] Int.not_le Int.not_lt
def tRange (next clock : Int) (t : DTxn) : Bool := inR t.id_ 1 (next - 1) && inR t.at_ 0 clock && inR t.state 1 3 && inR t.done 0 clock
def tForm (p : Option Int) (t : DTxn) : Bool := !nab p t.id_ && (decide (t.done = 0) || (decide (t.state = 2) && decide (t.at_ < t.done))) && (decide (t.undos.length = 0) || decide (t.state = 1))
def txsF (next clock : Int) : Option Int → List DTxn → Int
  | _, [] => 0
  | p, t :: l => if tRange next clock t = false then 3 else if tForm p t = false then 1 else if undosF t.undos ≠ 0 then undosF t.undos else txsF next clock (some t.id_) l
def rowOpenF (txns : List DTxn) (r : DRow) : Bool := match r.chain with
  | [] => true
  | v :: _ => decide (v.at_ ≠ 0) || txns.any fun t => decide (t.id_ = v.txn) && undoesF t r.key
def rowsF (clock : Int) (txns : List DTxn) : Option Int → List DRow → Int
  | _, [] => 0
  | p, r :: l => if inR r.key 0 31 = false then 3 else if (nab p r.key || decide (r.chain.length = 0)) = true then 1 else if chainF r.chain ≠ 0 then chainF r.chain else if ((r.chain.any fun v => decide (clock < v.at_)) || !rowOpenF txns r) = true then 1 else rowsF clock txns (some r.key) l
def ownI (rows : List DRow) (id : Int) (us : List DUndo) (i : Nat) : Bool := match us[i]? with
  | some u => openF (chainR rows u.key) id && ((us.take i).any (fun x => decide (x.key = u.key)) == u.had)
  | none => true
def ownsF (rows : List DRow) (t : DTxn) : Bool := (List.range t.undos.length).all fun i => ownI rows t.id_ t.undos i
def engF (x : DEngine) : Int :=
  if (!inR x.next 1 999 || !inR x.clock 0 1000000) = true then 3 else if 20 < x.txns.length ∨ 32 < x.rows.length then 2
  else if txsF x.next x.clock none x.txns ≠ 0 then txsF x.next x.clock none x.txns
  else if rowsF x.clock x.txns none x.rows ≠ 0 then rowsF x.clock x.txns none x.rows
  else if (x.txns.all fun t => ownsF x.rows t) = false then 1 else 0
theorem txsF_get {next clock : Int} : ∀ {l : List DTxn} {p}, txsF next clock p l = 0 → ∀ t ∈ l, tRange next clock t = true ∧ undosF t.undos = 0 ∧ (decide (t.undos.length = 0) || decide (t.state = 1)) = true
  | [], _, _, t, ht => by simp at ht
  | t0 :: l, p, h, t, ht => by
    simp only [txsF] at h
    split at h
    · omega
    · rename_i h1
      split at h
      · omega
      · rename_i h2
        split at h
        · rename_i h3; exact absurd h h3
        · rename_i h3
          rcases List.mem_cons.1 ht with rfl | ht
          · refine ⟨by simpa using h1, by simpa using h3, ?_⟩
            simp only [Bool.not_eq_false] at h2
            unfold tForm at h2
            exact (Bool.and_eq_true_iff.1 h2).2
          · exact txsF_get h t ht
theorem unF_key : ∀ {l : List DUndo}, unF l = 0 → ∀ u ∈ l, kOk u.key
  | [], _, u, hu => by simp at hu
  | u0 :: l, h, u, hu => by
    simp only [unF] at h
    split at h
    · omega
    · rename_i h1
      split at h
      · omega
      · rcases List.mem_cons.1 hu with rfl | hu
        · simp only [Bool.not_eq_false] at h1
          unfold uRange inR at h1
          simp at h1
          unfold kOk; omega
        · exact unF_key h u hu
theorem undosF_key {l : List DUndo} (h : undosF l = 0) : ∀ u ∈ l, kOk u.key := by
  unfold undosF at h
  split at h
  · omega
  · exact unF_key h
theorem rowsF_sorted {clock : Int} {txns : List DTxn} : ∀ {l : List DRow} {p}, rowsF clock txns p l = 0 → keysOk l ∧ sortedR l ∧ ∀ b, p = some b → ∀ r ∈ l, b < r.key
  | [], _, _ => ⟨fun r hr => by simp at hr, fun i j _ hj => by simp at hj, fun b _ r hr => by simp at hr⟩
  | r :: l, p, h => by
    simp only [rowsF] at h
    split at h
    · omega
    · rename_i h1
      split at h
      · omega
      · rename_i h2
        split at h
        · rename_i h3; exact absurd h h3
        · split at h
          · omega
          · obtain ⟨k1, k2, k3⟩ := rowsF_sorted h
            have hk : kOk r.key := by
              simp only [Bool.not_eq_false] at h1
              unfold inR at h1; simp at h1; unfold kOk; omega
            have hp : ∀ b, p = some b → b < r.key := by
              intro b hb
              subst hb
              simp [nab] at h2
              have := h2.1
              omega
            refine ⟨fun x hx => ?_, fun i j hij hj => ?_, fun b hb x hx => ?_⟩
            · rcases List.mem_cons.1 hx with rfl | hx
              · exact hk
              · exact k1 x hx
            · cases j with
              | zero => omega
              | succ j =>
                cases i with
                | zero => simp at hj; simpa using k3 r.key rfl _ (List.getElem_mem hj)
                | succ i => simp at hj; simpa using k2 i j (by omega) hj
            · rcases List.mem_cons.1 hx with rfl | hx
              · exact hp b hb
              · have := hp b hb; have := k3 r.key rfl x hx; omega
theorem impl_isOpenOf_own (H : HH) {id} : PFun Try.prog 38 [.c (.own 4 []), I id] H (B false) := by
  refine PFun.root rfl (fun d => by simp [T.clean, Clean.v]) (fun d hd hf => ?_)
  have := impl_isOpenOf (((d, 0), .own 4 []) :: H) (r := (d, 0)) (q := []) (id := id) (l := []) (by simp)
  simpa [openF] using this
end Go.Proofs.Ytnlbjfdmjlnlgaa

namespace Go.Proofs.Ytnlbjfdmjlnlgaa
open Go Go.Px Go.RowKit Go.Proofs
set_option linter.unnecessarySimpa false
set_option linter.unusedVariables false
set_option linter.unusedSimpArgs false
set_option maxRecDepth 100000
set_option maxHeartbeats 1000000
attribute [-simp] Int.not_le Int.not_lt
def eRow (x : DEngine) (r1 : Nm) (q1 : Path) (r2 : Nm) (q2 : Path) : List Cell := [.v (.int .i64 x.next), .v (.int .i64 x.clock), .sl r1 q1 5 0 x.txns.length, .sl r2 q2 2 0 x.rows.length]
theorem nab_some {b k : Int} : nab (some b) k = decide (k ≤ b) := rfl
set_option maxHeartbeats 16000000 in
theorem spec_l6Txns (H : HH) {r0 q0 r1 q1 r2 q2} {x : DEngine} (hnx : 1 ≤ x.next ∧ x.next ≤ 999) (hl : x.le 1048576) (a0 : arrAt H r0 q0 = some (4, [eRow x r1 q1 r2 q2])) (a1 : arrAt H r1 q1 = some (5, x.txns.map DTxn.enc)) :
    PFun Try.prog 48 [.c (.pt r0 q0 4 0 0)] H (I (txsF x.next x.clock none x.txns)) := by
  obtain ⟨⟨b1, b1p⟩, b2, b2p⟩ := hl
  have wn : IntKind.i64.wrap (x.next - 1) = x.next - 1 := w64 (by omega) (by omega)
  obtain ⟨R, hR⟩ : ∃ R, R = txsF x.next x.clock none x.txns := ⟨_, rfl⟩
  rw [← hR]
  refine PFun.of [0, 2, 3, 4, 5, 12, 63, 121, 125] Try.func48 rfl (by simp [Try.f48]) ?_
  intro d hd0 hfr hcl hout
  have hcd : ∀ n q, CleanH (hit [((d, n), q)]) H := fun n q => hcl.at
  have a0_n : ∀ n, ¬ (d, n) = r0 := fun n => nm_ne (ne_of_arr hfr a0)
  have a0_d : ¬ r0.1 = d := ne_of_arr hfr a0
  have a0_m : ∀ n, ¬ r0 = (d, n) := fun n => nm_ne' (ne_of_arr hfr a0)
  have a1_n : ∀ n, ¬ (d, n) = r1 := fun n => nm_ne (ne_of_arr hfr a1)
  have a1_d : ¬ r1.1 = d := ne_of_arr hfr a1
  have a1_m : ∀ n, ¬ r1 = (d, n) := fun n => nm_ne' (ne_of_arr hfr a1)
  simp (maxSteps := 4000000) [hd0, hfr, hout, hcl, hcd, delA_none, a0, a0_n, a0_d, a0_m, a1, a1_n, a1_d, a1_m, Try.f48]
  refine LoopK.intro (fun m s => ∃ i : Nat, i + m = x.txns.length ∧ txsF x.next x.clock (prv DTxn.id_ x.txns i) (x.txns.drop i) = R ∧ s = ⟨[(0, .c (.pt r0 q0 4 0 0)), (3, I i)], H, []⟩) (x.txns.length + 1)
    (LK.intro x.txns.length [0, 3] [] (by omega) (by decide) (by simp (maxSteps := 4000000) [hd0, hfr, hout, hcl, hcd, delA_none, a0, a0_n, a0_d, a0_m, a1, a1_n, a1_d, a1_m]) ⟨0, by simp [prv, hR]⟩) ?_
  rintro m s ⟨i, him, hinv, rfl⟩
  by_cases hi' : i < x.txns.length
  case neg =>
    rw [List.drop_eq_nil_of_le (by omega)] at hinv
    simp only [txsF] at hinv
    simp (maxSteps := 4000000) [hd0, hfr, hout, hcl, hcd, delA_none, a0, a0_n, a0_d, a0_m, a1, a1_n, a1_d, a1_m, eRow, eq_false (show ¬ (i : Int) < x.txns.length by omega), hinv.symm]
  rw [List.drop_eq_getElem_cons hi'] at hinv
  simp only [txsF] at hinv
  have w1 : IntKind.i64.wrap ((i : Int) + 1) = i + 1 := w64 (by omega) (by omega)
  have w2 : i ≠ 0 → IntKind.i64.wrap ((i : Int) - 1) = (i - 1 : Nat) := fun h => by rw [w64 (by omega) (by omega)]; omega
  have hend := prv_succ (f := DTxn.id_) hi'
  have hbu : x.txns[i].undos.length ≤ 1048576 := b1p _ (List.getElem_mem hi')
  simp (maxSteps := 4000000) [hd0, hfr, hout, hcl, hcd, delA_none, a0, a0_n, a0_d, a0_m, a1, a1_n, a1_d, a1_m, eRow, eq_true (show (i : Int) < x.txns.length by omega)]
  refine DrawK.intro 43 [0, 3, 4, 63] rfl (by kernel_rfl) (by decide) ?_
  simp (maxSteps := 4000000) [hd0, hfr, hout, hcl, hcd, delA_none, a0, a0_n, a0_d, a0_m, a1, a1_n, a1_d, a1_m, eRow, hi', DTxn.enc, wn]
  refine ⟨_, spec_l1In _ _ _ _, ?_⟩
  by_cases d1 : inR x.txns[i].id_ 1 (x.next - 1) = true
  case neg => simp only [Bool.not_eq_true] at d1; simp [tRange, d1] at hinv; simp (maxSteps := 4000000) [hd0, hfr, hout, hcl, hcd, delA_none, a0, a0_n, a0_d, a0_m, a1, a1_n, a1_d, a1_m, d1, hinv.symm]
  simp (maxSteps := 4000000) [hd0, hfr, hout, hcl, hcd, delA_none, a0, a0_n, a0_d, a0_m, a1, a1_n, a1_d, a1_m, d1, eRow, hi', DTxn.enc]
  refine ⟨_, spec_l1In _ _ _ _, ?_⟩
  by_cases d2 : inR x.txns[i].at_ 0 x.clock = true
  case neg => simp only [Bool.not_eq_true] at d2; simp [tRange, d2] at hinv; simp (maxSteps := 4000000) [hd0, hfr, hout, hcl, hcd, delA_none, a0, a0_n, a0_d, a0_m, a1, a1_n, a1_d, a1_m, d2, hinv.symm]
  simp (maxSteps := 4000000) [hd0, hfr, hout, hcl, hcd, delA_none, a0, a0_n, a0_d, a0_m, a1, a1_n, a1_d, a1_m, d2, eRow, hi', DTxn.enc]
  refine ⟨_, spec_l1In _ _ _ _, ?_⟩
  by_cases d3 : inR x.txns[i].state 1 3 = true
  case neg => simp only [Bool.not_eq_true] at d3; simp [tRange, d3] at hinv; simp (maxSteps := 4000000) [hd0, hfr, hout, hcl, hcd, delA_none, a0, a0_n, a0_d, a0_m, a1, a1_n, a1_d, a1_m, d3, hinv.symm]
  simp (maxSteps := 4000000) [hd0, hfr, hout, hcl, hcd, delA_none, a0, a0_n, a0_d, a0_m, a1, a1_n, a1_d, a1_m, d3, eRow, hi', DTxn.enc]
  refine ⟨_, spec_l1In _ _ _ _, ?_⟩
  by_cases d4 : inR x.txns[i].done 0 x.clock = true
  case neg => simp only [Bool.not_eq_true] at d4; simp [tRange, d4] at hinv; simp (maxSteps := 4000000) [hd0, hfr, hout, hcl, hcd, delA_none, a0, a0_n, a0_d, a0_m, a1, a1_n, a1_d, a1_m, d4, hinv.symm]
  have hv : tRange x.next x.clock x.txns[i] = true := by simp [tRange, d1, d2, d3, d4]
  rw [hv, if_neg (by simp)] at hinv
  have hone : tForm (prv DTxn.id_ x.txns i) x.txns[i] = false → R = 1 := fun h => by rw [if_pos h] at hinv; exact hinv.symm
  have hfin : tForm (prv DTxn.id_ x.txns i) x.txns[i] = true → (if undosF x.txns[i].undos ≠ 0 then undosF x.txns[i].undos else txsF x.next x.clock (some x.txns[i].id_) (x.txns.drop (i + 1))) = R := fun h => by rw [h] at hinv; simpa using hinv
  clear hinv
  simp (maxSteps := 4000000) [hd0, hfr, hout, hcl, hcd, delA_none, a0, a0_n, a0_d, a0_m, a1, a1_n, a1_d, a1_m, d4]
  refine DrawK.intro 58 [0, 3, 4, 121] rfl (by kernel_rfl) (by decide) ?_
  by_cases hi0 : i = 0
  · have hnab : (!nab (prv DTxn.id_ x.txns i) x.txns[i].id_) = true := by simp [hi0, prv, nab]
    by_cases e1 : x.txns[i].done = 0
    · have hdn : (decide (x.txns[i].done = 0) || (decide (x.txns[i].state = 2) && decide (x.txns[i].at_ < x.txns[i].done))) = true := by simp [e1]
      by_cases e4 : x.txns[i].undos.length = 0
      · have hun : (decide (x.txns[i].undos.length = 0) || decide (x.txns[i].state = 1)) = true := by simp [e4]
        have hf := hfin (by unfold tForm; rw [hnab, hdn, hun]; rfl)
        simp (maxSteps := 4000000) [hd0, hfr, hout, hcl, hcd, delA_none, a0, a0_n, a0_d, a0_m, a1, a1_n, a1_d, a1_m, eq_false (show ¬ (0 : Int) < (i : Int) by omega), eq_false (show ¬ 0 < i by omega), eq_true hi0, eq_true e1, eq_false (show ¬ (0 : Int) < (x.txns[i].undos.length : Int) by omega), eq_false (show ¬ 0 < x.txns[i].undos.length by omega), eq_true (show x.txns[i].undos = [] from List.eq_nil_of_length_eq_zero e4), eRow, hi', DTxn.enc]
        refine (spec_l6Undos _ hi' hbu (by simp (maxSteps := 4000000) [hd0, hfr, hout, hcl, hcd, delA_none, a0, a0_n, a0_d, a0_m, a1, a1_n, a1_d, a1_m])).useCK ?_
        by_cases e6 : undosF x.txns[i].undos = 0
        · rw [if_neg (by simp [e6])] at hf
          simp (maxSteps := 4000000) [hd0, hfr, hout, hcl, hcd, delA_none, a0, a0_n, a0_d, a0_m, a1, a1_n, a1_d, a1_m, e6, w1]
          refine LK.intro (m - 1) [0, 3] [] (by omega) (by decide) (by simp (maxSteps := 4000000) [hd0, hfr, hout, hcl, hcd, delA_none, a0, a0_n, a0_d, a0_m, a1, a1_n, a1_d, a1_m]) ⟨i + 1, by omega, by rw [hend]; exact hf, by simp⟩
        · rw [if_pos e6] at hf
          have hRne : ¬ R = 0 := by rw [← hf]; exact e6
          simp (maxSteps := 4000000) [hd0, hfr, hout, hcl, hcd, delA_none, a0, a0_n, a0_d, a0_m, a1, a1_n, a1_d, a1_m, hf, eq_false hRne]
      · by_cases e5 : x.txns[i].state = 1
        · have hun : (decide (x.txns[i].undos.length = 0) || decide (x.txns[i].state = 1)) = true := by simp [e5]
          have hf := hfin (by unfold tForm; rw [hnab, hdn, hun]; rfl)
          simp (maxSteps := 4000000) [hd0, hfr, hout, hcl, hcd, delA_none, a0, a0_n, a0_d, a0_m, a1, a1_n, a1_d, a1_m, eq_false (show ¬ (0 : Int) < (i : Int) by omega), eq_false (show ¬ 0 < i by omega), eq_true hi0, eq_true e1, eq_true (show (0 : Int) < (x.txns[i].undos.length : Int) by omega), eq_true (show 0 < x.txns[i].undos.length by omega), eq_false (show ¬ x.txns[i].undos = [] from fun h => e4 (by rw [h]; rfl)), eq_true e5, eRow, hi', DTxn.enc]
          refine (spec_l6Undos _ hi' hbu (by simp (maxSteps := 4000000) [hd0, hfr, hout, hcl, hcd, delA_none, a0, a0_n, a0_d, a0_m, a1, a1_n, a1_d, a1_m])).useCK ?_
          by_cases e6 : undosF x.txns[i].undos = 0
          · rw [if_neg (by simp [e6])] at hf
            simp (maxSteps := 4000000) [hd0, hfr, hout, hcl, hcd, delA_none, a0, a0_n, a0_d, a0_m, a1, a1_n, a1_d, a1_m, e6, w1]
            refine LK.intro (m - 1) [0, 3] [] (by omega) (by decide) (by simp (maxSteps := 4000000) [hd0, hfr, hout, hcl, hcd, delA_none, a0, a0_n, a0_d, a0_m, a1, a1_n, a1_d, a1_m]) ⟨i + 1, by omega, by rw [hend]; exact hf, by simp⟩
          · rw [if_pos e6] at hf
            have hRne : ¬ R = 0 := by rw [← hf]; exact e6
            simp (maxSteps := 4000000) [hd0, hfr, hout, hcl, hcd, delA_none, a0, a0_n, a0_d, a0_m, a1, a1_n, a1_d, a1_m, hf, eq_false hRne]
        · have h1 := hone (by simp [tForm, e4, e5])
          simp (maxSteps := 4000000) [hd0, hfr, hout, hcl, hcd, delA_none, a0, a0_n, a0_d, a0_m, a1, a1_n, a1_d, a1_m, eq_false (show ¬ (0 : Int) < (i : Int) by omega), eq_false (show ¬ 0 < i by omega), eq_true hi0, eq_true e1, eq_true (show (0 : Int) < (x.txns[i].undos.length : Int) by omega), eq_true (show 0 < x.txns[i].undos.length by omega), eq_false (show ¬ x.txns[i].undos = [] from fun h => e4 (by rw [h]; rfl)), eq_false e5, h1, eRow, hi', DTxn.enc]
    · by_cases e2 : x.txns[i].state = 2
      · by_cases e3 : x.txns[i].done ≤ x.txns[i].at_
        · have h1 := hone (by simp [tForm, e1, show ¬ x.txns[i].at_ < x.txns[i].done by omega])
          simp (maxSteps := 4000000) [hd0, hfr, hout, hcl, hcd, delA_none, a0, a0_n, a0_d, a0_m, a1, a1_n, a1_d, a1_m, eq_false (show ¬ (0 : Int) < (i : Int) by omega), eq_false (show ¬ 0 < i by omega), eq_true hi0, eq_false e1, eq_true e2, eq_true e3, h1, eRow, hi', DTxn.enc]
        · have hdn : (decide (x.txns[i].done = 0) || (decide (x.txns[i].state = 2) && decide (x.txns[i].at_ < x.txns[i].done))) = true := by simp [e2, show x.txns[i].at_ < x.txns[i].done by omega]
          by_cases e4 : x.txns[i].undos.length = 0
          · have hun : (decide (x.txns[i].undos.length = 0) || decide (x.txns[i].state = 1)) = true := by simp [e4]
            have hf := hfin (by unfold tForm; rw [hnab, hdn, hun]; rfl)
            simp (maxSteps := 4000000) [hd0, hfr, hout, hcl, hcd, delA_none, a0, a0_n, a0_d, a0_m, a1, a1_n, a1_d, a1_m, eq_false (show ¬ (0 : Int) < (i : Int) by omega), eq_false (show ¬ 0 < i by omega), eq_true hi0, eq_false e1, eq_true e2, eq_false e3, eq_false (show ¬ (0 : Int) < (x.txns[i].undos.length : Int) by omega), eq_false (show ¬ 0 < x.txns[i].undos.length by omega), eq_true (show x.txns[i].undos = [] from List.eq_nil_of_length_eq_zero e4), eRow, hi', DTxn.enc]
            refine (spec_l6Undos _ hi' hbu (by simp (maxSteps := 4000000) [hd0, hfr, hout, hcl, hcd, delA_none, a0, a0_n, a0_d, a0_m, a1, a1_n, a1_d, a1_m])).useCK ?_
            by_cases e6 : undosF x.txns[i].undos = 0
            · rw [if_neg (by simp [e6])] at hf
              simp (maxSteps := 4000000) [hd0, hfr, hout, hcl, hcd, delA_none, a0, a0_n, a0_d, a0_m, a1, a1_n, a1_d, a1_m, e6, w1]
              refine LK.intro (m - 1) [0, 3] [] (by omega) (by decide) (by simp (maxSteps := 4000000) [hd0, hfr, hout, hcl, hcd, delA_none, a0, a0_n, a0_d, a0_m, a1, a1_n, a1_d, a1_m]) ⟨i + 1, by omega, by rw [hend]; exact hf, by simp⟩
            · rw [if_pos e6] at hf
              have hRne : ¬ R = 0 := by rw [← hf]; exact e6
              simp (maxSteps := 4000000) [hd0, hfr, hout, hcl, hcd, delA_none, a0, a0_n, a0_d, a0_m, a1, a1_n, a1_d, a1_m, hf, eq_false hRne]
          · by_cases e5 : x.txns[i].state = 1
            · have hun : (decide (x.txns[i].undos.length = 0) || decide (x.txns[i].state = 1)) = true := by simp [e5]
              have hf := hfin (by unfold tForm; rw [hnab, hdn, hun]; rfl)
              simp (maxSteps := 4000000) [hd0, hfr, hout, hcl, hcd, delA_none, a0, a0_n, a0_d, a0_m, a1, a1_n, a1_d, a1_m, eq_false (show ¬ (0 : Int) < (i : Int) by omega), eq_false (show ¬ 0 < i by omega), eq_true hi0, eq_false e1, eq_true e2, eq_false e3, eq_true (show (0 : Int) < (x.txns[i].undos.length : Int) by omega), eq_true (show 0 < x.txns[i].undos.length by omega), eq_false (show ¬ x.txns[i].undos = [] from fun h => e4 (by rw [h]; rfl)), eq_true e5, eRow, hi', DTxn.enc]
              refine (spec_l6Undos _ hi' hbu (by simp (maxSteps := 4000000) [hd0, hfr, hout, hcl, hcd, delA_none, a0, a0_n, a0_d, a0_m, a1, a1_n, a1_d, a1_m])).useCK ?_
              by_cases e6 : undosF x.txns[i].undos = 0
              · rw [if_neg (by simp [e6])] at hf
                simp (maxSteps := 4000000) [hd0, hfr, hout, hcl, hcd, delA_none, a0, a0_n, a0_d, a0_m, a1, a1_n, a1_d, a1_m, e6, w1]
                refine LK.intro (m - 1) [0, 3] [] (by omega) (by decide) (by simp (maxSteps := 4000000) [hd0, hfr, hout, hcl, hcd, delA_none, a0, a0_n, a0_d, a0_m, a1, a1_n, a1_d, a1_m]) ⟨i + 1, by omega, by rw [hend]; exact hf, by simp⟩
              · rw [if_pos e6] at hf
                have hRne : ¬ R = 0 := by rw [← hf]; exact e6
                simp (maxSteps := 4000000) [hd0, hfr, hout, hcl, hcd, delA_none, a0, a0_n, a0_d, a0_m, a1, a1_n, a1_d, a1_m, hf, eq_false hRne]
            · have h1 := hone (by simp [tForm, e4, e5])
              simp (maxSteps := 4000000) [hd0, hfr, hout, hcl, hcd, delA_none, a0, a0_n, a0_d, a0_m, a1, a1_n, a1_d, a1_m, eq_false (show ¬ (0 : Int) < (i : Int) by omega), eq_false (show ¬ 0 < i by omega), eq_true hi0, eq_false e1, eq_true e2, eq_false e3, eq_true (show (0 : Int) < (x.txns[i].undos.length : Int) by omega), eq_true (show 0 < x.txns[i].undos.length by omega), eq_false (show ¬ x.txns[i].undos = [] from fun h => e4 (by rw [h]; rfl)), eq_false e5, h1, eRow, hi', DTxn.enc]
      · have h1 := hone (by simp [tForm, e1, e2])
        simp (maxSteps := 4000000) [hd0, hfr, hout, hcl, hcd, delA_none, a0, a0_n, a0_d, a0_m, a1, a1_n, a1_d, a1_m, eq_false (show ¬ (0 : Int) < (i : Int) by omega), eq_false (show ¬ 0 < i by omega), eq_true hi0, eq_false e1, eq_false e2, h1, eRow, hi', DTxn.enc]
  · have h3 : i - 1 < x.txns.length := by omega
    have hp := prv_pos (f := DTxn.id_) hi0 h3
    by_cases h4 : x.txns[i].id_ ≤ x.txns[i-1].id_
    · have h1 := hone (by simp [tForm, hp, nab, h4])
      simp (maxSteps := 4000000) [hd0, hfr, hout, hcl, hcd, delA_none, a0, a0_n, a0_d, a0_m, a1, a1_n, a1_d, a1_m, eq_true (show (0 : Int) < (i : Int) by omega), eq_true (show 0 < i by omega), hi0, w2 hi0, h3, eq_true h4, h1, eRow, hi', DTxn.enc]
    · have hnab : (!nab (prv DTxn.id_ x.txns i) x.txns[i].id_) = true := by rw [hp]; simp [nab]; omega
      by_cases e1 : x.txns[i].done = 0
      · have hdn : (decide (x.txns[i].done = 0) || (decide (x.txns[i].state = 2) && decide (x.txns[i].at_ < x.txns[i].done))) = true := by simp [e1]
        by_cases e4 : x.txns[i].undos.length = 0
        · have hun : (decide (x.txns[i].undos.length = 0) || decide (x.txns[i].state = 1)) = true := by simp [e4]
          have hf := hfin (by unfold tForm; rw [hnab, hdn, hun]; rfl)
          simp (maxSteps := 4000000) [hd0, hfr, hout, hcl, hcd, delA_none, a0, a0_n, a0_d, a0_m, a1, a1_n, a1_d, a1_m, eq_true (show (0 : Int) < (i : Int) by omega), eq_true (show 0 < i by omega), hi0, w2 hi0, h3, eq_false h4, eq_true e1, eq_false (show ¬ (0 : Int) < (x.txns[i].undos.length : Int) by omega), eq_false (show ¬ 0 < x.txns[i].undos.length by omega), eq_true (show x.txns[i].undos = [] from List.eq_nil_of_length_eq_zero e4), eRow, hi', DTxn.enc]
          refine (spec_l6Undos _ hi' hbu (by simp (maxSteps := 4000000) [hd0, hfr, hout, hcl, hcd, delA_none, a0, a0_n, a0_d, a0_m, a1, a1_n, a1_d, a1_m])).useCK ?_
          by_cases e6 : undosF x.txns[i].undos = 0
          · rw [if_neg (by simp [e6])] at hf
            simp (maxSteps := 4000000) [hd0, hfr, hout, hcl, hcd, delA_none, a0, a0_n, a0_d, a0_m, a1, a1_n, a1_d, a1_m, e6, w1]
            refine LK.intro (m - 1) [0, 3] [] (by omega) (by decide) (by simp (maxSteps := 4000000) [hd0, hfr, hout, hcl, hcd, delA_none, a0, a0_n, a0_d, a0_m, a1, a1_n, a1_d, a1_m]) ⟨i + 1, by omega, by rw [hend]; exact hf, by simp⟩
          · rw [if_pos e6] at hf
            have hRne : ¬ R = 0 := by rw [← hf]; exact e6
            simp (maxSteps := 4000000) [hd0, hfr, hout, hcl, hcd, delA_none, a0, a0_n, a0_d, a0_m, a1, a1_n, a1_d, a1_m, hf, eq_false hRne]
        · by_cases e5 : x.txns[i].state = 1
          · have hun : (decide (x.txns[i].undos.length = 0) || decide (x.txns[i].state = 1)) = true := by simp [e5]
            have hf := hfin (by unfold tForm; rw [hnab, hdn, hun]; rfl)
            simp (maxSteps := 4000000) [hd0, hfr, hout, hcl, hcd, delA_none, a0, a0_n, a0_d, a0_m, a1, a1_n, a1_d, a1_m, eq_true (show (0 : Int) < (i : Int) by omega), eq_true (show 0 < i by omega), hi0, w2 hi0, h3, eq_false h4, eq_true e1, eq_true (show (0 : Int) < (x.txns[i].undos.length : Int) by omega), eq_true (show 0 < x.txns[i].undos.length by omega), eq_false (show ¬ x.txns[i].undos = [] from fun h => e4 (by rw [h]; rfl)), eq_true e5, eRow, hi', DTxn.enc]
            refine (spec_l6Undos _ hi' hbu (by simp (maxSteps := 4000000) [hd0, hfr, hout, hcl, hcd, delA_none, a0, a0_n, a0_d, a0_m, a1, a1_n, a1_d, a1_m])).useCK ?_
            by_cases e6 : undosF x.txns[i].undos = 0
            · rw [if_neg (by simp [e6])] at hf
              simp (maxSteps := 4000000) [hd0, hfr, hout, hcl, hcd, delA_none, a0, a0_n, a0_d, a0_m, a1, a1_n, a1_d, a1_m, e6, w1]
              refine LK.intro (m - 1) [0, 3] [] (by omega) (by decide) (by simp (maxSteps := 4000000) [hd0, hfr, hout, hcl, hcd, delA_none, a0, a0_n, a0_d, a0_m, a1, a1_n, a1_d, a1_m]) ⟨i + 1, by omega, by rw [hend]; exact hf, by simp⟩
            · rw [if_pos e6] at hf
              have hRne : ¬ R = 0 := by rw [← hf]; exact e6
              simp (maxSteps := 4000000) [hd0, hfr, hout, hcl, hcd, delA_none, a0, a0_n, a0_d, a0_m, a1, a1_n, a1_d, a1_m, hf, eq_false hRne]
          · have h1 := hone (by simp [tForm, e4, e5])
            simp (maxSteps := 4000000) [hd0, hfr, hout, hcl, hcd, delA_none, a0, a0_n, a0_d, a0_m, a1, a1_n, a1_d, a1_m, eq_true (show (0 : Int) < (i : Int) by omega), eq_true (show 0 < i by omega), hi0, w2 hi0, h3, eq_false h4, eq_true e1, eq_true (show (0 : Int) < (x.txns[i].undos.length : Int) by omega), eq_true (show 0 < x.txns[i].undos.length by omega), eq_false (show ¬ x.txns[i].undos = [] from fun h => e4 (by rw [h]; rfl)), eq_false e5, h1, eRow, hi', DTxn.enc]
      · by_cases e2 : x.txns[i].state = 2
        · by_cases e3 : x.txns[i].done ≤ x.txns[i].at_
          · have h1 := hone (by simp [tForm, e1, show ¬ x.txns[i].at_ < x.txns[i].done by omega])
            simp (maxSteps := 4000000) [hd0, hfr, hout, hcl, hcd, delA_none, a0, a0_n, a0_d, a0_m, a1, a1_n, a1_d, a1_m, eq_true (show (0 : Int) < (i : Int) by omega), eq_true (show 0 < i by omega), hi0, w2 hi0, h3, eq_false h4, eq_false e1, eq_true e2, eq_true e3, h1, eRow, hi', DTxn.enc]
          · have hdn : (decide (x.txns[i].done = 0) || (decide (x.txns[i].state = 2) && decide (x.txns[i].at_ < x.txns[i].done))) = true := by simp [e2, show x.txns[i].at_ < x.txns[i].done by omega]
            by_cases e4 : x.txns[i].undos.length = 0
            · have hun : (decide (x.txns[i].undos.length = 0) || decide (x.txns[i].state = 1)) = true := by simp [e4]
              have hf := hfin (by unfold tForm; rw [hnab, hdn, hun]; rfl)
              simp (maxSteps := 4000000) [hd0, hfr, hout, hcl, hcd, delA_none, a0, a0_n, a0_d, a0_m, a1, a1_n, a1_d, a1_m, eq_true (show (0 : Int) < (i : Int) by omega), eq_true (show 0 < i by omega), hi0, w2 hi0, h3, eq_false h4, eq_false e1, eq_true e2, eq_false e3, eq_false (show ¬ (0 : Int) < (x.txns[i].undos.length : Int) by omega), eq_false (show ¬ 0 < x.txns[i].undos.length by omega), eq_true (show x.txns[i].undos = [] from List.eq_nil_of_length_eq_zero e4), eRow, hi', DTxn.enc]
              refine (spec_l6Undos _ hi' hbu (by simp (maxSteps := 4000000) [hd0, hfr, hout, hcl, hcd, delA_none, a0, a0_n, a0_d, a0_m, a1, a1_n, a1_d, a1_m])).useCK ?_
              by_cases e6 : undosF x.txns[i].undos = 0
              · rw [if_neg (by simp [e6])] at hf
                simp (maxSteps := 4000000) [hd0, hfr, hout, hcl, hcd, delA_none, a0, a0_n, a0_d, a0_m, a1, a1_n, a1_d, a1_m, e6, w1]
                refine LK.intro (m - 1) [0, 3] [] (by omega) (by decide) (by simp (maxSteps := 4000000) [hd0, hfr, hout, hcl, hcd, delA_none, a0, a0_n, a0_d, a0_m, a1, a1_n, a1_d, a1_m]) ⟨i + 1, by omega, by rw [hend]; exact hf, by simp⟩
              · rw [if_pos e6] at hf
                have hRne : ¬ R = 0 := by rw [← hf]; exact e6
                simp (maxSteps := 4000000) [hd0, hfr, hout, hcl, hcd, delA_none, a0, a0_n, a0_d, a0_m, a1, a1_n, a1_d, a1_m, hf, eq_false hRne]
            · by_cases e5 : x.txns[i].state = 1
              · have hun : (decide (x.txns[i].undos.length = 0) || decide (x.txns[i].state = 1)) = true := by simp [e5]
                have hf := hfin (by unfold tForm; rw [hnab, hdn, hun]; rfl)
                simp (maxSteps := 4000000) [hd0, hfr, hout, hcl, hcd, delA_none, a0, a0_n, a0_d, a0_m, a1, a1_n, a1_d, a1_m, eq_true (show (0 : Int) < (i : Int) by omega), eq_true (show 0 < i by omega), hi0, w2 hi0, h3, eq_false h4, eq_false e1, eq_true e2, eq_false e3, eq_true (show (0 : Int) < (x.txns[i].undos.length : Int) by omega), eq_true (show 0 < x.txns[i].undos.length by omega), eq_false (show ¬ x.txns[i].undos = [] from fun h => e4 (by rw [h]; rfl)), eq_true e5, eRow, hi', DTxn.enc]
                refine (spec_l6Undos _ hi' hbu (by simp (maxSteps := 4000000) [hd0, hfr, hout, hcl, hcd, delA_none, a0, a0_n, a0_d, a0_m, a1, a1_n, a1_d, a1_m])).useCK ?_
                by_cases e6 : undosF x.txns[i].undos = 0
                · rw [if_neg (by simp [e6])] at hf
                  simp (maxSteps := 4000000) [hd0, hfr, hout, hcl, hcd, delA_none, a0, a0_n, a0_d, a0_m, a1, a1_n, a1_d, a1_m, e6, w1]
                  refine LK.intro (m - 1) [0, 3] [] (by omega) (by decide) (by simp (maxSteps := 4000000) [hd0, hfr, hout, hcl, hcd, delA_none, a0, a0_n, a0_d, a0_m, a1, a1_n, a1_d, a1_m]) ⟨i + 1, by omega, by rw [hend]; exact hf, by simp⟩
                · rw [if_pos e6] at hf
                  have hRne : ¬ R = 0 := by rw [← hf]; exact e6
                  simp (maxSteps := 4000000) [hd0, hfr, hout, hcl, hcd, delA_none, a0, a0_n, a0_d, a0_m, a1, a1_n, a1_d, a1_m, hf, eq_false hRne]
              · have h1 := hone (by simp [tForm, e4, e5])
                simp (maxSteps := 4000000) [hd0, hfr, hout, hcl, hcd, delA_none, a0, a0_n, a0_d, a0_m, a1, a1_n, a1_d, a1_m, eq_true (show (0 : Int) < (i : Int) by omega), eq_true (show 0 < i by omega), hi0, w2 hi0, h3, eq_false h4, eq_false e1, eq_true e2, eq_false e3, eq_true (show (0 : Int) < (x.txns[i].undos.length : Int) by omega), eq_true (show 0 < x.txns[i].undos.length by omega), eq_false (show ¬ x.txns[i].undos = [] from fun h => e4 (by rw [h]; rfl)), eq_false e5, h1, eRow, hi', DTxn.enc]
        · have h1 := hone (by simp [tForm, e1, e2])
          simp (maxSteps := 4000000) [hd0, hfr, hout, hcl, hcd, delA_none, a0, a0_n, a0_d, a0_m, a1, a1_n, a1_d, a1_m, eq_true (show (0 : Int) < (i : Int) by omega), eq_true (show 0 < i by omega), hi0, w2 hi0, h3, eq_false h4, eq_false e1, eq_false e2, h1, eRow, hi', DTxn.enc]
end Go.Proofs.Ytnlbjfdmjlnlgaa

namespace Go.Proofs.Ytnlbjfdmjlnlgaa
open Go Go.Px Go.RowKit Go.Proofs
set_option linter.unnecessarySimpa false
set_option linter.unusedVariables false
set_option linter.unusedSimpArgs false
set_option maxRecDepth 100000
set_option maxHeartbeats 1000000
attribute [-simp] Int.not_le Int.not_lt
def writF (l : List DVersion) : Int := match l with | [] => 0 | v :: _ => if v.at_ = 0 then v.txn else 0
def ixF {α : Type} (p : α → Bool) : Nat → List α → Int
  | _, [] => -1
  | n, a :: l => if p a = true then n else ixF p (n + 1) l
theorem ixF_none {α : Type} {p : α → Bool} : ∀ {l : List α} {n : Nat}, (∀ x ∈ l, p x = false) → ixF p n l = -1
  | [], _, _ => rfl
  | a :: l, n, h => by
    have h1 := h a (by simp)
    simp only [ixF, h1]
    exact ixF_none (fun x hx => h x (by simp [hx]))
theorem ixF_some {α : Type} {p : α → Bool} : ∀ {l : List α} {n : Nat}, ixF p n l = -1 ∧ (∀ x ∈ l, p x = false) ∨ ∃ i, ∃ h : i < l.length, ixF p n l = n + i ∧ p l[i] = true
  | [], _ => .inl ⟨rfl, by simp⟩
  | a :: l, n => by
    by_cases h1 : p a = true
    · exact .inr ⟨0, by simp, by simp [ixF, h1], by simpa using h1⟩
    · simp only [Bool.not_eq_true] at h1
      rcases ixF_some (p := p) (l := l) (n := n + 1) with ⟨h2, h3⟩ | ⟨i, hi, h2, h3⟩
      · refine .inl ⟨by simp [ixF, h1, h2], ?_⟩
        intro x hx
        rcases List.mem_cons.1 hx with rfl | hx
        · exact h1
        · exact h3 x hx
      · refine .inr ⟨i + 1, by simpa using hi, by simp [ixF, h1, h2]; omega, by simpa using h3⟩
theorem spec_l5Writer (H : HH) {r q} {l : List DVersion} (ha : arrAt H r q = some (4, l.map DVersion.enc)) : PFun Try.prog 35 [.c (.sl r q 4 0 l.length)] H (I (writF l)) := by
  refine PFun.of [0, 2, 12] Try.func35 rfl (by simp [Try.f35]) ?_
  intro d hd0 hfr hcl hout
  have hcd : ∀ n q, CleanH (hit [((d, n), q)]) H := fun n q => hcl.at
  have ha_n : ∀ n, ¬ (d, n) = r := fun n => nm_ne (ne_of_arr hfr ha)
  have ha_d : ¬ r.1 = d := ne_of_arr hfr ha
  have ha_m : ∀ n, ¬ r = (d, n) := fun n => nm_ne' (ne_of_arr hfr ha)
  simp (maxSteps := 4000000) [hd0, hfr, hout, hcl, hcd, delA_none, ha, ha_n, ha_d, ha_m, Try.f35]
  cases l with
  | nil => simp (maxSteps := 4000000) [hd0, hfr, hout, hcl, hcd, delA_none, ha, ha_n, ha_d, ha_m, writF]
  | cons v l =>
    by_cases hz : v.at_ = 0
    · simp (maxSteps := 4000000) [hd0, hfr, hout, hcl, hcd, delA_none, ha, ha_n, ha_d, ha_m, eq_true (show (0 : Int) < (l.length : Int) + 1 by omega), DVersion.enc, hz, writF]
    · simp (maxSteps := 4000000) [hd0, hfr, hout, hcl, hcd, delA_none, ha, ha_n, ha_d, ha_m, eq_true (show (0 : Int) < (l.length : Int) + 1 by omega), DVersion.enc, hz, writF]
theorem spec_l6Txn (H : HH) {r0 q0 r1 q1 r2 q2} {x : DEngine} {id : Int} (hl : x.le 1048576) (a0 : arrAt H r0 q0 = some (4, [eRow x r1 q1 r2 q2])) (a1 : arrAt H r1 q1 = some (5, x.txns.map DTxn.enc)) :
    PFun Try.prog 61 [.c (.pt r0 q0 4 0 0), I id] H (I (ixF (fun t : DTxn => decide (t.id_ = id)) 0 x.txns)) := by
  obtain ⟨⟨b1, b1p⟩, b2, b2p⟩ := hl
  obtain ⟨R, hR⟩ : ∃ R, R = ixF (fun t : DTxn => decide (t.id_ = id)) 0 x.txns := ⟨_, rfl⟩
  rw [← hR]
  refine PFun.of [0, 1, 4, 5, 12, 24] Try.func61 rfl (by simp [Try.f61]) ?_
  intro d hd0 hfr hcl hout
  have hcd : ∀ n q, CleanH (hit [((d, n), q)]) H := fun n q => hcl.at
  have a0_n : ∀ n, ¬ (d, n) = r0 := fun n => nm_ne (ne_of_arr hfr a0)
  have a0_d : ¬ r0.1 = d := ne_of_arr hfr a0
  have a0_m : ∀ n, ¬ r0 = (d, n) := fun n => nm_ne' (ne_of_arr hfr a0)
  have a1_n : ∀ n, ¬ (d, n) = r1 := fun n => nm_ne (ne_of_arr hfr a1)
  have a1_d : ¬ r1.1 = d := ne_of_arr hfr a1
  have a1_m : ∀ n, ¬ r1 = (d, n) := fun n => nm_ne' (ne_of_arr hfr a1)
  simp (maxSteps := 4000000) [hd0, hfr, hout, hcl, hcd, delA_none, a0, a0_n, a0_d, a0_m, a1, a1_n, a1_d, a1_m, Try.f61]
  refine LoopK.intro (fun m s => ∃ i : Nat, i + m = x.txns.length ∧ ixF (fun t : DTxn => decide (t.id_ = id)) i (x.txns.drop i) = R ∧ s = ⟨[(0, .c (.pt r0 q0 4 0 0)), (1, I id), (5, I i)], H, []⟩) (x.txns.length + 1)
    (LK.intro x.txns.length [0, 1, 5] [] (by omega) (by decide) (by simp (maxSteps := 4000000) [hd0, hfr, hout, hcl, hcd, delA_none, a0, a0_n, a0_d, a0_m, a1, a1_n, a1_d, a1_m]) ⟨0, by simp [hR]⟩) ?_
  rintro m s ⟨i, him, hinv, rfl⟩
  by_cases hi' : i < x.txns.length
  case neg =>
    rw [List.drop_eq_nil_of_le (by omega)] at hinv
    simp only [ixF] at hinv
    simp (maxSteps := 4000000) [hd0, hfr, hout, hcl, hcd, delA_none, a0, a0_n, a0_d, a0_m, a1, a1_n, a1_d, a1_m, eRow, eq_false (show ¬ (i : Int) < x.txns.length by omega), hinv.symm]
  rw [List.drop_eq_getElem_cons hi'] at hinv
  simp only [ixF] at hinv
  have w1 : IntKind.i64.wrap ((i : Int) + 1) = i + 1 := w64 (by omega) (by omega)
  by_cases he : x.txns[i].id_ = id
  · rw [if_pos (by simp [he])] at hinv
    simp (maxSteps := 4000000) [hd0, hfr, hout, hcl, hcd, delA_none, a0, a0_n, a0_d, a0_m, a1, a1_n, a1_d, a1_m, eRow, eq_true (show (i : Int) < x.txns.length by omega), hi', DTxn.enc, eq_true he, hinv.symm]
  · rw [if_neg (by simp [he])] at hinv
    simp (maxSteps := 4000000) [hd0, hfr, hout, hcl, hcd, delA_none, a0, a0_n, a0_d, a0_m, a1, a1_n, a1_d, a1_m, eRow, eq_true (show (i : Int) < x.txns.length by omega), hi', DTxn.enc, eq_false he, w1]
    refine LK.intro (m - 1) [0, 1, 5] [] (by omega) (by decide) (by simp (maxSteps := 4000000) [hd0, hfr, hout, hcl, hcd, delA_none, a0, a0_n, a0_d, a0_m, a1, a1_n, a1_d, a1_m]) ⟨i + 1, by omega, hinv, by simp⟩
theorem spec_l6Row (H : HH) {r0 q0 r1 q1 r2 q2} {x : DEngine} {k : Int} (hl : x.le 1048576) (a0 : arrAt H r0 q0 = some (4, [eRow x r1 q1 r2 q2])) (a1 : arrAt H r2 q2 = some (2, x.rows.map DRow.enc)) :
    PFun Try.prog 91 [.c (.pt r0 q0 4 0 0), I k] H (I (ixF (fun t : DRow => decide (t.key = k)) 0 x.rows)) := by
  obtain ⟨⟨b1, b1p⟩, b2, b2p⟩ := hl
  obtain ⟨R, hR⟩ : ∃ R, R = ixF (fun t : DRow => decide (t.key = k)) 0 x.rows := ⟨_, rfl⟩
  rw [← hR]
  refine PFun.of [0, 1, 4, 5, 12, 24] Try.func91 rfl (by simp [Try.f91]) ?_
  intro d hd0 hfr hcl hout
  have hcd : ∀ n q, CleanH (hit [((d, n), q)]) H := fun n q => hcl.at
  have a0_n : ∀ n, ¬ (d, n) = r0 := fun n => nm_ne (ne_of_arr hfr a0)
  have a0_d : ¬ r0.1 = d := ne_of_arr hfr a0
  have a0_m : ∀ n, ¬ r0 = (d, n) := fun n => nm_ne' (ne_of_arr hfr a0)
  have a1_n : ∀ n, ¬ (d, n) = r2 := fun n => nm_ne (ne_of_arr hfr a1)
  have a1_d : ¬ r2.1 = d := ne_of_arr hfr a1
  have a1_m : ∀ n, ¬ r2 = (d, n) := fun n => nm_ne' (ne_of_arr hfr a1)
  simp (maxSteps := 4000000) [hd0, hfr, hout, hcl, hcd, delA_none, a0, a0_n, a0_d, a0_m, a1, a1_n, a1_d, a1_m, Try.f91]
  refine LoopK.intro (fun m s => ∃ i : Nat, i + m = x.rows.length ∧ ixF (fun t : DRow => decide (t.key = k)) i (x.rows.drop i) = R ∧ s = ⟨[(0, .c (.pt r0 q0 4 0 0)), (1, I k), (5, I i)], H, []⟩) (x.rows.length + 1)
    (LK.intro x.rows.length [0, 1, 5] [] (by omega) (by decide) (by simp (maxSteps := 4000000) [hd0, hfr, hout, hcl, hcd, delA_none, a0, a0_n, a0_d, a0_m, a1, a1_n, a1_d, a1_m]) ⟨0, by simp [hR]⟩) ?_
  rintro m s ⟨i, him, hinv, rfl⟩
  by_cases hi' : i < x.rows.length
  case neg =>
    rw [List.drop_eq_nil_of_le (by omega)] at hinv
    simp only [ixF] at hinv
    simp (maxSteps := 4000000) [hd0, hfr, hout, hcl, hcd, delA_none, a0, a0_n, a0_d, a0_m, a1, a1_n, a1_d, a1_m, eRow, eq_false (show ¬ (i : Int) < x.rows.length by omega), hinv.symm]
  rw [List.drop_eq_getElem_cons hi'] at hinv
  simp only [ixF] at hinv
  have w1 : IntKind.i64.wrap ((i : Int) + 1) = i + 1 := w64 (by omega) (by omega)
  by_cases he : x.rows[i].key = k
  · rw [if_pos (by simp [he])] at hinv
    simp (maxSteps := 4000000) [hd0, hfr, hout, hcl, hcd, delA_none, a0, a0_n, a0_d, a0_m, a1, a1_n, a1_d, a1_m, eRow, eq_true (show (i : Int) < x.rows.length by omega), hi', DRow.enc, eq_true he, hinv.symm]
  · rw [if_neg (by simp [he])] at hinv
    simp (maxSteps := 4000000) [hd0, hfr, hout, hcl, hcd, delA_none, a0, a0_n, a0_d, a0_m, a1, a1_n, a1_d, a1_m, eRow, eq_true (show (i : Int) < x.rows.length by omega), hi', DRow.enc, eq_false he, w1]
    refine LK.intro (m - 1) [0, 1, 5] [] (by omega) (by decide) (by simp (maxSteps := 4000000) [hd0, hfr, hout, hcl, hcd, delA_none, a0, a0_n, a0_d, a0_m, a1, a1_n, a1_d, a1_m]) ⟨i + 1, by omega, hinv, by simp⟩
theorem spec_l6Wrote (H : HH) {r q ix} {ts : List DTxn} {k : Int} (hix : ix < ts.length) (hb : ts[ix].undos.length ≤ 1048576) (ha : arrAt H r q = some (5, ts.map DTxn.enc)) :
    PFun Try.prog 110 [.c (.pt r q 5 ix 0), I k] H (B (wroteF ts[ix].undos k)) := by
  have hsub := arrAt_sub ha (i := ix) (f := 4) (row := ts[ix].enc) (by simp [hix]) rfl
  generalize hl : ts[ix].undos = l at *
  obtain ⟨R, hR⟩ : ∃ R, R = wroteF l k := ⟨_, rfl⟩
  rw [← hR]
  refine PFun.of [0, 1, 4, 5, 12, 24] Try.func110 rfl (by simp [Try.f110]) ?_
  intro d hd0 hfr hcl hout
  have hcd : ∀ n q, CleanH (hit [((d, n), q)]) H := fun n q => hcl.at
  have ha_n : ∀ n, ¬ (d, n) = r := fun n => nm_ne (ne_of_arr hfr ha)
  have ha_d : ¬ r.1 = d := ne_of_arr hfr ha
  have ha_m : ∀ n, ¬ r = (d, n) := fun n => nm_ne' (ne_of_arr hfr ha)
  simp (maxSteps := 4000000) [hd0, hfr, hout, hcl, hcd, delA_none, ha, ha_n, ha_d, ha_m, Try.f110]
  refine LoopK.intro (fun m s => ∃ i : Nat, i + m = l.length ∧ wroteF (l.drop i) k = R ∧ s = ⟨[(0, .c (.pt r q 5 ix 0)), (1, I k), (5, I i)], H, []⟩) (l.length + 1) (LK.intro l.length [0, 1, 5] [] (by omega) (by decide) (by simp (maxSteps := 4000000) [hd0, hfr, hout, hcl, hcd, delA_none, ha, ha_n, ha_d, ha_m]) ⟨0, by simp [hR]⟩) ?_
  rintro m s ⟨i, him, hinv, rfl⟩
  by_cases hi' : i < l.length
  case neg =>
    rw [List.drop_eq_nil_of_le (by omega)] at hinv
    simp only [wroteF, List.any_nil] at hinv
    simp (maxSteps := 4000000) [hd0, hfr, hout, hcl, hcd, delA_none, ha, ha_n, ha_d, ha_m, hix, DTxn.enc, hl, eq_false (show ¬ (i : Int) < l.length by omega), hinv.symm]
  rw [List.drop_eq_getElem_cons hi'] at hinv
  simp only [wroteF, List.any_cons] at hinv
  have w1 : IntKind.i64.wrap ((i : Int) + 1) = i + 1 := w64 (by omega) (by omega)
  by_cases he : l[i].key = k
  · simp only [he, decide_true, Bool.true_or] at hinv
    simp (maxSteps := 4000000) [hd0, hfr, hout, hcl, hcd, delA_none, ha, ha_n, ha_d, ha_m, hix, DTxn.enc, hl, hsub, eq_true (show (i : Int) < l.length by omega), hi', DUndo.enc, eq_true he, hinv.symm]
  · simp only [he, decide_false, Bool.false_or] at hinv
    simp (maxSteps := 4000000) [hd0, hfr, hout, hcl, hcd, delA_none, ha, ha_n, ha_d, ha_m, hix, DTxn.enc, hl, hsub, eq_true (show (i : Int) < l.length by omega), hi', DUndo.enc, eq_false he, w1]
    refine LK.intro (m - 1) [0, 1, 5] [] (by omega) (by decide) (by simp (maxSteps := 4000000) [hd0, hfr, hout, hcl, hcd, delA_none, ha, ha_n, ha_d, ha_m]) ⟨i + 1, by omega, hinv, by simp⟩
theorem txsF_rise {next clock : Int} : ∀ {l : List DTxn} {p}, txsF next clock p l = 0 → (∀ b, p = some b → ∀ t ∈ l, b < t.id_) ∧ (∀ t ∈ l, 1 ≤ t.id_) ∧ ∀ (i j : Nat) (hi : i < l.length) (hj : j < l.length), i < j → l[i].id_ < l[j].id_
  | [], _, _ => ⟨by simp, by simp, fun i j hi => by simp at hi⟩
  | t0 :: l, p, h => by
    simp only [txsF] at h
    split at h
    · omega
    · rename_i h1
      split at h
      · omega
      · rename_i h2
        split at h
        · rename_i h3; exact absurd h h3
        · obtain ⟨k1, k2, k3⟩ := txsF_rise h
          have hk : 1 ≤ t0.id_ := by
            simp only [Bool.not_eq_false] at h1
            unfold tRange inR at h1
            simp only [Bool.and_eq_true, decide_eq_true_eq] at h1
            omega
          have hp : ∀ b, p = some b → b < t0.id_ := by
            intro b hb
            subst hb
            simp only [Bool.not_eq_false] at h2
            simp only [tForm, nab, Bool.and_eq_true, Bool.not_eq_true', decide_eq_false_iff_not] at h2
            omega
          refine ⟨fun b hb x hx => ?_, fun x hx => ?_, fun i j hi hj hij => ?_⟩
          · rcases List.mem_cons.1 hx with rfl | hx
            · exact hp b hb
            · have := hp b hb; have := k1 t0.id_ rfl x hx; omega
          · rcases List.mem_cons.1 hx with rfl | hx
            · exact hk
            · exact k2 x hx
          · cases j with
            | zero => omega
            | succ j =>
              cases i with
              | zero => simpa using k1 t0.id_ rfl _ (List.getElem_mem (by simpa using hj))
              | succ i => simpa using k3 i j (by simpa using hi) (by simpa using hj) (by omega)
theorem any_at {next clock id k : Int} {l : List DTxn} {i : Nat} (h : txsF next clock none l = 0) (hi : i < l.length) (he : l[i].id_ = id) :
    (l.any fun t => decide (t.id_ = id) && undoesF t k) = undoesF l[i] k := by
  obtain ⟨-, -, h3⟩ := txsF_rise h
  rw [Bool.eq_iff_iff, List.any_eq_true]
  constructor
  · rintro ⟨t, ht, h4⟩
    obtain ⟨j, hj, rfl⟩ := List.getElem_of_mem ht
    simp only [Bool.and_eq_true, decide_eq_true_eq] at h4
    have : i = j := by
      rcases Nat.lt_trichotomy i j with h5 | h5 | h5
      · have := h3 i j hi hj h5; omega
      · exact h5
      · have := h3 j i hj hi h5; omega
    subst this
    exact h4.2
  · intro h4
    exact ⟨l[i], List.getElem_mem hi, by simp [he, h4]⟩
end Go.Proofs.Ytnlbjfdmjlnlgaa

namespace Go.Proofs.Ytnlbjfdmjlnlgaa
open Go Go.Px Go.RowKit Go.Proofs
set_option linter.unnecessarySimpa false
set_option linter.unusedVariables false
set_option linter.unusedSimpArgs false
set_option maxRecDepth 100000
set_option maxHeartbeats 1000000
attribute [-simp] Int.not_le Int.not_lt
theorem rowOpen_zero {txns : List DTxn} {r : DRow} (hv : ∀ v ∈ r.chain, v.txn ≠ 0) (h : writF r.chain = 0) : rowOpenF txns r = true := by
  unfold rowOpenF
  cases hc : r.chain with
  | nil => rfl
  | cons v l =>
    rw [hc] at h
    have h1 := hv v (by rw [hc]; simp)
    simp only [writF] at h
    split at h
    · exact absurd h h1
    · rename_i h2; simp [h2]
theorem rowOpen_some {txns : List DTxn} {r : DRow} (h : writF r.chain ≠ 0) : rowOpenF txns r = txns.any fun t => decide (t.id_ = writF r.chain) && undoesF t r.key := by
  unfold rowOpenF
  cases hc : r.chain with
  | nil => rw [hc] at h; simp [writF] at h
  | cons v l =>
    rw [hc] at h
    simp only [writF] at h ⊢
    split at h
    · rename_i h2; simp [h2]
    · simp at h
theorem spec_l6Open (H : HH) {r0 q0 r1 q1 r2 q2 ix} {x : DEngine} (hix : ix < x.rows.length) (hl : x.le 1048576) (ht : txsF x.next x.clock none x.txns = 0) (hv : ∀ v ∈ x.rows[ix].chain, v.txn ≠ 0)
    (a0 : arrAt H r0 q0 = some (4, [eRow x r1 q1 r2 q2])) (a1 : arrAt H r1 q1 = some (5, x.txns.map DTxn.enc)) (a2 : arrAt H r2 q2 = some (2, x.rows.map DRow.enc)) :
    PFun Try.prog 90 [.c (.pt r0 q0 4 0 0), .c (.pt r2 q2 2 ix 0)] H (B (rowOpenF x.txns x.rows[ix])) := by
  have hsub := arrAt_sub a2 (i := ix) (f := 1) (row := x.rows[ix].enc) (by simp [hix]) rfl
  refine PFun.of [0, 1, 4, 5, 6, 13] Try.func90 rfl (by simp [Try.f90]) ?_
  intro d hd0 hfr hcl hout
  have hcd : ∀ n q, CleanH (hit [((d, n), q)]) H := fun n q => hcl.at
  have a0_n : ∀ n, ¬ (d, n) = r0 := fun n => nm_ne (ne_of_arr hfr a0)
  have a0_d : ¬ r0.1 = d := ne_of_arr hfr a0
  have a0_m : ∀ n, ¬ r0 = (d, n) := fun n => nm_ne' (ne_of_arr hfr a0)
  have a1_n : ∀ n, ¬ (d, n) = r1 := fun n => nm_ne (ne_of_arr hfr a1)
  have a1_d : ¬ r1.1 = d := ne_of_arr hfr a1
  have a1_m : ∀ n, ¬ r1 = (d, n) := fun n => nm_ne' (ne_of_arr hfr a1)
  have a2_n : ∀ n, ¬ (d, n) = r2 := fun n => nm_ne (ne_of_arr hfr a2)
  have a2_d : ¬ r2.1 = d := ne_of_arr hfr a2
  have a2_m : ∀ n, ¬ r2 = (d, n) := fun n => nm_ne' (ne_of_arr hfr a2)
  simp (maxSteps := 4000000) [hd0, hfr, hout, hcl, hcd, delA_none, a0, a0_n, a0_d, a0_m, a1, a1_n, a1_d, a1_m, a2, a2_n, a2_d, a2_m, Try.f90]
  simp (maxSteps := 4000000) [hd0, hfr, hout, hcl, hcd, delA_none, a0, a0_n, a0_d, a0_m, a1, a1_n, a1_d, a1_m, a2, a2_n, a2_d, a2_m, hix, DRow.enc]
  refine (spec_l5Writer _ (l := x.rows[ix].chain) (by simp (maxSteps := 4000000) [hd0, hfr, hout, hcl, hcd, delA_none, a0, a0_n, a0_d, a0_m, a1, a1_n, a1_d, a1_m, a2, a2_n, a2_d, a2_m, hsub])).useCK ?_
  have hz := rowOpen_zero (txns := x.txns) hv
  have hs := rowOpen_some (txns := x.txns) (r := x.rows[ix])
  obtain ⟨b1, b1p⟩ := hl.1
  generalize writF x.rows[ix].chain = w at *
  generalize rowOpenF x.txns x.rows[ix] = R at *
  by_cases hw : w = 0
  case pos => simp (maxSteps := 4000000) [hd0, hfr, hout, hcl, hcd, delA_none, a0, a0_n, a0_d, a0_m, a1, a1_n, a1_d, a1_m, a2, a2_n, a2_d, a2_m, eq_true hw, hz hw]
  simp (maxSteps := 4000000) [hd0, hfr, hout, hcl, hcd, delA_none, a0, a0_n, a0_d, a0_m, a1, a1_n, a1_d, a1_m, a2, a2_n, a2_d, a2_m, eq_false hw]
  refine (spec_l6Txn _ (r1 := r1) (q1 := q1) (r2 := r2) (q2 := q2) hl (by simp (maxSteps := 4000000) [hd0, hfr, hout, hcl, hcd, delA_none, a0, a0_n, a0_d, a0_m, a1, a1_n, a1_d, a1_m, a2, a2_n, a2_d, a2_m]) (by simp (maxSteps := 4000000) [hd0, hfr, hout, hcl, hcd, delA_none, a0, a0_n, a0_d, a0_m, a1, a1_n, a1_d, a1_m, a2, a2_n, a2_d, a2_m])).useCK ?_
  have hR := hs hw
  clear hs hz
  simp (maxSteps := 4000000) [hd0, hfr, hout, hcl, hcd, delA_none, a0, a0_n, a0_d, a0_m, a1, a1_n, a1_d, a1_m, a2, a2_n, a2_d, a2_m]
  refine DrawK.intro 27 [4] rfl (by kernel_rfl) (by decide) ?_
  rcases ixF_some (p := fun t : DTxn => decide (t.id_ = w)) (l := x.txns) (n := 0) with ⟨h2, h3⟩ | ⟨i, hi, h2, h3⟩
  · have hR0 : R = false := by
      rw [hR, List.any_eq_false]
      intro t htm
      have := h3 t htm
      simp only [decide_eq_false_iff_not] at this
      simp [this]
    rw [h2]
    simp (maxSteps := 4000000) [hd0, hfr, hout, hcl, hcd, delA_none, a0, a0_n, a0_d, a0_m, a1, a1_n, a1_d, a1_m, a2, a2_n, a2_d, a2_m, hR0]
  · rw [h2]
    simp only [decide_eq_true_eq] at h3
    rw [any_at ht hi h3] at hR
    subst hR
    by_cases h5 : x.txns[i].state = 1
    · simp (maxSteps := 4000000) [hd0, hfr, hout, hcl, hcd, delA_none, a0, a0_n, a0_d, a0_m, a1, a1_n, a1_d, a1_m, a2, a2_n, a2_d, a2_m, eRow, hi, DTxn.enc, eq_true h5, hix, DRow.enc, eq_true (show (0 : Int) ≤ (i : Int) by omega), eq_true (show (0 : Int) ≤ 0 + (i : Int) by omega), Int.zero_add]
      refine ⟨_, spec_l6Wrote _ hi (b1p _ (List.getElem_mem hi)) (by simp (maxSteps := 4000000) [hd0, hfr, hout, hcl, hcd, delA_none, a0, a0_n, a0_d, a0_m, a1, a1_n, a1_d, a1_m, a2, a2_n, a2_d, a2_m]), ?_⟩
      simp (maxSteps := 4000000) [hd0, hfr, hout, hcl, hcd, delA_none, a0, a0_n, a0_d, a0_m, a1, a1_n, a1_d, a1_m, a2, a2_n, a2_d, a2_m, undoesF, eq_true h5]
    · simp (maxSteps := 4000000) [hd0, hfr, hout, hcl, hcd, delA_none, a0, a0_n, a0_d, a0_m, a1, a1_n, a1_d, a1_m, a2, a2_n, a2_d, a2_m, eRow, hi, DTxn.enc, eq_false h5, undoesF, eq_true (show (0 : Int) ≤ (i : Int) by omega), eq_true (show (0 : Int) ≤ 0 + (i : Int) by omega), Int.zero_add]
end Go.Proofs.Ytnlbjfdmjlnlgaa

namespace Go.Proofs.Ytnlbjfdmjlnlgaa
open Go Go.Px Go.RowKit Go.Proofs
set_option linter.unnecessarySimpa false
set_option linter.unusedVariables false
set_option linter.unusedSimpArgs false
set_option maxRecDepth 100000
set_option maxHeartbeats 1000000
attribute [-simp] Int.not_le Int.not_lt
theorem foundR_none {l : List DRow} {k : Int} (h : ∀ r ∈ l, r.key ≠ k) : foundR l k = false := by
  unfold foundR
  by_cases h1 : rowP l k < l.length
  · simp only [List.getElem?_eq_getElem h1]
    simpa using h _ (List.getElem_mem h1)
  · simp [List.getElem?_eq_none (show l.length ≤ rowP l k by omega)]
theorem rowP_at {l : List DRow} {k : Int} {j : Nat} (hs : sortedR l) (hj : j < l.length) (he : l[j].key = k) : rowP l k = j := by
  obtain ⟨p1, p2, p3⟩ := rowP_spec (k := k) l
  have h1 : rowP l k ≤ j := by
    apply Nat.le_of_not_lt
    intro h
    have := p2 j hj h
    omega
  have h2 : ¬ rowP l k < j := by
    intro h
    have := p3 (by omega)
    have := hs (rowP l k) j h hj
    omega
  omega
theorem chainR_at {l : List DRow} {k : Int} {j : Nat} (hs : sortedR l) (hj : j < l.length) (he : l[j].key = k) : chainR l k = l[j].chain := by
  have hp := rowP_at hs hj he
  have hf : foundR l k = true := by unfold foundR; simp [hp, List.getElem?_eq_getElem hj, he]
  unfold chainR
  simp [hf, hp, List.getD_eq_getElem?_getD, List.getElem?_eq_getElem hj]
theorem chainR_none {l : List DRow} {k : Int} (h : ∀ r ∈ l, r.key ≠ k) : chainR l k = [] := by
  unfold chainR; simp [foundR_none h]
theorem openF_writ {l : List DVersion} {id : Int} (h : id ≠ 0) : openF l id = decide (writF l = id) := by
  cases l with
  | nil => have h0 : ¬ (0 : Int) = id := fun e => h e.symm
           simp [openF, writF, h0]
  | cons v l =>
    simp only [openF, writF]
    by_cases h1 : v.at_ = 0
    · simp [h1]
    · have h0 : ¬ (0 : Int) = id := fun e => h e.symm
      simp [h1, h0]
theorem take_any_succ {l : List DUndo} {k : Int} {j : Nat} (hj : j < l.length) : ((l.take (j + 1)).any fun x => decide (x.key = k)) = (((l.take j).any fun x => decide (x.key = k)) || decide (l[j].key = k)) := by
  rw [List.take_succ_eq_append_getElem hj, List.any_append]; simp
set_option maxHeartbeats 8000000 in
theorem spec_l6Owns (H : HH) {r0 q0 r1 q1 r2 q2 ti} {x : DEngine} (hti : ti < x.txns.length) (hl : x.le 1048576) (hid : x.txns[ti].id_ ≠ 0) (hs : sortedR x.rows)
    (a0 : arrAt H r0 q0 = some (4, [eRow x r1 q1 r2 q2])) (a1 : arrAt H r1 q1 = some (5, x.txns.map DTxn.enc)) (a2 : arrAt H r2 q2 = some (2, x.rows.map DRow.enc)) :
    PFun Try.prog 50 [.c (.pt r0 q0 4 0 0), .c (.pt r1 q1 5 ti 0)] H (B (ownsF x.rows x.txns[ti])) := by
  have hsub := arrAt_sub a1 (i := ti) (f := 4) (row := x.txns[ti].enc) (by simp [hti]) rfl
  have hbu : x.txns[ti].undos.length ≤ 1048576 := hl.1.2 _ (List.getElem_mem hti)
  have hF : (∀ j, j < x.txns[ti].undos.length → ownI x.rows x.txns[ti].id_ x.txns[ti].undos j = true) → ownsF x.rows x.txns[ti] = true := fun h => by
    unfold ownsF; rw [List.all_eq_true]; intro j hj; exact h j (List.mem_range.1 hj)
  have hE : ∀ j, j < x.txns[ti].undos.length → ownI x.rows x.txns[ti].id_ x.txns[ti].undos j = false → ownsF x.rows x.txns[ti] = false := fun j hj h => by
    cases hw : ownsF x.rows x.txns[ti] with
    | false => rfl
    | true =>
      unfold ownsF at hw
      rw [List.all_eq_true] at hw
      have := hw j (List.mem_range.2 hj)
      rw [h] at this; exact absurd this (by simp)
  generalize ownsF x.rows x.txns[ti] = R at *
  generalize hu : x.txns[ti].undos = us at *
  generalize hd' : x.txns[ti].id_ = id at *
  refine PFun.of [0, 1, 4, 5, 6, 7, 8, 9, 16, 47, 50, 70] Try.func50 rfl (by simp [Try.f50]) ?_
  intro d hd0 hfr hcl hout
  have hcd : ∀ n q, CleanH (hit [((d, n), q)]) H := fun n q => hcl.at
  have a0_n : ∀ n, ¬ (d, n) = r0 := fun n => nm_ne (ne_of_arr hfr a0)
  have a0_d : ¬ r0.1 = d := ne_of_arr hfr a0
  have a0_m : ∀ n, ¬ r0 = (d, n) := fun n => nm_ne' (ne_of_arr hfr a0)
  have a1_n : ∀ n, ¬ (d, n) = r1 := fun n => nm_ne (ne_of_arr hfr a1)
  have a1_d : ¬ r1.1 = d := ne_of_arr hfr a1
  have a1_m : ∀ n, ¬ r1 = (d, n) := fun n => nm_ne' (ne_of_arr hfr a1)
  have a2_n : ∀ n, ¬ (d, n) = r2 := fun n => nm_ne (ne_of_arr hfr a2)
  have a2_d : ¬ r2.1 = d := ne_of_arr hfr a2
  have a2_m : ∀ n, ¬ r2 = (d, n) := fun n => nm_ne' (ne_of_arr hfr a2)
  simp (maxSteps := 4000000) [hd0, hfr, hout, hcl, hcd, delA_none, a0, a0_n, a0_d, a0_m, a1, a1_n, a1_d, a1_m, a2, a2_n, a2_d, a2_m, Try.f50]
  refine LoopK.intro (fun m s => ∃ i : Nat, i + m = us.length ∧ (∀ j, j < i → ownI x.rows id us j = true) ∧ s = ⟨[(0, .c (.pt r0 q0 4 0 0)), (1, .c (.pt r1 q1 5 ti 0)), (5, I i)], H, []⟩) (us.length + 1)
    (LK.intro us.length [0, 1, 5] [] (by omega) (by decide) (by simp (maxSteps := 4000000) [hd0, hfr, hout, hcl, hcd, delA_none, a0, a0_n, a0_d, a0_m, a1, a1_n, a1_d, a1_m, a2, a2_n, a2_d, a2_m]) ⟨0, by simp⟩) ?_
  rintro m s ⟨i, him, hinv, rfl⟩
  by_cases hi' : i < us.length
  case neg =>
    simp (maxSteps := 4000000) [hd0, hfr, hout, hcl, hcd, delA_none, a0, a0_n, a0_d, a0_m, a1, a1_n, a1_d, a1_m, a2, a2_n, a2_d, a2_m, hti, DTxn.enc, hu, eq_false (show ¬ (i : Int) < us.length by omega), hF (fun j hj => hinv j (by omega))]
  have w1 : IntKind.i64.wrap ((i : Int) + 1) = i + 1 := w64 (by omega) (by omega)
  have hO : ownI x.rows id us i = (openF (chainR x.rows us[i].key) id && ((us.take i).any (fun x => decide (x.key = us[i].key)) == us[i].had)) := by
    unfold ownI; rw [List.getElem?_eq_getElem hi']
  rw [openF_writ hid] at hO
  simp (maxSteps := 4000000) [hd0, hfr, hout, hcl, hcd, delA_none, a0, a0_n, a0_d, a0_m, a1, a1_n, a1_d, a1_m, a2, a2_n, a2_d, a2_m, hti, DTxn.enc, hu, hsub, hi', DUndo.enc, eq_true (show (i : Int) < us.length by omega)]
  refine (spec_l6Row _ (x := x) (r1 := r1) (q1 := q1) (r2 := r2) (q2 := q2) hl (by simp (maxSteps := 4000000) [hd0, hfr, hout, hcl, hcd, delA_none, a0, a0_n, a0_d, a0_m, a1, a1_n, a1_d, a1_m, a2, a2_n, a2_d, a2_m]) (by simp (maxSteps := 4000000) [hd0, hfr, hout, hcl, hcd, delA_none, a0, a0_n, a0_d, a0_m, a1, a1_n, a1_d, a1_m, a2, a2_n, a2_d, a2_m])).useCK ?_
  rcases ixF_some (p := fun t : DRow => decide (t.key = us[i].key)) (l := x.rows) (n := 0) with ⟨h2, h3⟩ | ⟨k, hk, h2, h3⟩
  · rw [h2]
    rw [chainR_none (by intro r hr; simpa using h3 r hr)] at hO
    have hR := hE i hi' (by rw [hO]; simp [writF, show ¬ (0 : Int) = id from fun e => hid e.symm])
    simp (maxSteps := 4000000) [hd0, hfr, hout, hcl, hcd, delA_none, a0, a0_n, a0_d, a0_m, a1, a1_n, a1_d, a1_m, a2, a2_n, a2_d, a2_m]
    refine DrawK.intro 18 [0, 1, 5, 6, 47] rfl (by kernel_rfl) (by decide) ?_
    simp (maxSteps := 4000000) [hd0, hfr, hout, hcl, hcd, delA_none, a0, a0_n, a0_d, a0_m, a1, a1_n, a1_d, a1_m, a2, a2_n, a2_d, a2_m, hR]
  simp only [decide_eq_true_eq] at h3
  rw [chainR_at hs hk h3] at hO
  rw [h2]
  have hsub2 := arrAt_sub a2 (i := k) (f := 1) (row := x.rows[k].enc) (by simp [hk]) rfl
  simp (maxSteps := 4000000) [hd0, hfr, hout, hcl, hcd, delA_none, a0, a0_n, a0_d, a0_m, a1, a1_n, a1_d, a1_m, a2, a2_n, a2_d, a2_m, Int.zero_add]
  refine DrawK.intro 18 [0, 1, 5, 6, 47] rfl (by kernel_rfl) (by decide) ?_
  simp (maxSteps := 4000000) [hd0, hfr, hout, hcl, hcd, delA_none, a0, a0_n, a0_d, a0_m, a1, a1_n, a1_d, a1_m, a2, a2_n, a2_d, a2_m, eRow, hk, DRow.enc, eq_false (show ¬ (k : Int) < 0 by omega), hti, DTxn.enc]
  refine ⟨_, spec_l5Writer _ (l := x.rows[k].chain) (by simp (maxSteps := 4000000) [hd0, hfr, hout, hcl, hcd, delA_none, a0, a0_n, a0_d, a0_m, a1, a1_n, a1_d, a1_m, a2, a2_n, a2_d, a2_m, hsub2]), ?_⟩
  by_cases e1 : writF x.rows[k].chain = id
  case neg =>
    have hR := hE i hi' (by rw [hO]; simp [e1])
    simp (maxSteps := 4000000) [hd0, hfr, hout, hcl, hcd, delA_none, a0, a0_n, a0_d, a0_m, a1, a1_n, a1_d, a1_m, a2, a2_n, a2_d, a2_m, eq_false e1, hR, hd', hti, DTxn.enc]
  simp (maxSteps := 4000000) [hd0, hfr, hout, hcl, hcd, delA_none, a0, a0_n, a0_d, a0_m, a1, a1_n, a1_d, a1_m, a2, a2_n, a2_d, a2_m, eq_true e1, hd', hti, DTxn.enc]
  refine LoopK.intro (fun m s => ∃ j : Nat, j + m = i ∧ s = ⟨[(0, .c (.pt r0 q0 4 0 0)), (1, .c (.pt r1 q1 5 ti 0)), (5, I i), (6, .c (.pt (d, 6) [] 4 0 0)), (8, B ((us.take j).any fun x => decide (x.key = us[i].key))), (9, I j)], ((d, 6), .own 4 [us[i].enc]) :: H, []⟩) (i + 1)
    (LK.intro i [0, 1, 5, 6, 8, 9] [] (by omega) (by decide) (by simp (maxSteps := 4000000) [hd0, hfr, hout, hcl, hcd, delA_none, a0, a0_n, a0_d, a0_m, a1, a1_n, a1_d, a1_m, a2, a2_n, a2_d, a2_m]) ⟨0, by simp [DUndo.enc]⟩) ?_
  rintro m2 s ⟨j, hjm, rfl⟩
  by_cases hj' : j < i
  · have w2 : IntKind.i64.wrap ((j : Int) + 1) = j + 1 := w64 (by omega) (by omega)
    have hju : j < us.length := by omega
    have hts := take_any_succ (k := us[i].key) hju
    simp (maxSteps := 4000000) [hd0, hfr, hout, hcl, hcd, delA_none, a0, a0_n, a0_d, a0_m, a1, a1_n, a1_d, a1_m, a2, a2_n, a2_d, a2_m, eq_true (show (j : Int) < (i : Int) by omega)]
    refine DrawK.intro 14 [0, 1, 5, 6, 9, 66] rfl (by kernel_rfl) (by decide) ?_
    generalize ((us.take j).any fun x => decide (x.key = us[i].key)) = b at *
    cases b
    · simp (maxSteps := 4000000) [hd0, hfr, hout, hcl, hcd, delA_none, a0, a0_n, a0_d, a0_m, a1, a1_n, a1_d, a1_m, a2, a2_n, a2_d, a2_m, hti, DTxn.enc, hu, hsub, hju, DUndo.enc, w2]
      refine LK.intro (m2 - 1) [0, 1, 5, 6, 8, 9] [] (by omega) (by decide) (by simp (maxSteps := 4000000) [hd0, hfr, hout, hcl, hcd, delA_none, a0, a0_n, a0_d, a0_m, a1, a1_n, a1_d, a1_m, a2, a2_n, a2_d, a2_m]) ⟨j + 1, by omega, by rw [hts]; simp⟩
    · simp (maxSteps := 4000000) [hd0, hfr, hout, hcl, hcd, delA_none, a0, a0_n, a0_d, a0_m, a1, a1_n, a1_d, a1_m, a2, a2_n, a2_d, a2_m, w2]
      refine LK.intro (m2 - 1) [0, 1, 5, 6, 8, 9] [] (by omega) (by decide) (by simp (maxSteps := 4000000) [hd0, hfr, hout, hcl, hcd, delA_none, a0, a0_n, a0_d, a0_m, a1, a1_n, a1_d, a1_m, a2, a2_n, a2_d, a2_m]) ⟨j + 1, by omega, by rw [hts]; simp⟩
  have hji : j = i := by omega
  subst hji
  rw [show decide (writF x.rows[k].chain = id) = true by simp [e1], Bool.true_and] at hO
  generalize ((us.take j).any fun x => decide (x.key = us[j].key)) = b at *
  have hx : b = us[j].had → ownI x.rows id us j = true := fun h => by rw [hO, h]; simp
  have hy : b ≠ us[j].had → R = false := fun h => hE j hi' (by rw [hO]; simpa using h)
  by_cases hb2 : us[j].had = b
  · simp (maxSteps := 4000000) [hd0, hfr, hout, hcl, hcd, delA_none, a0, a0_n, a0_d, a0_m, a1, a1_n, a1_d, a1_m, a2, a2_n, a2_d, a2_m, eq_false (show ¬ (j : Int) < (j : Int) by omega), DUndo.enc, hb2, w1]
    refine LK.intro (m - 1) [0, 1, 5] [6] (by omega) (by decide) (by simp (maxSteps := 4000000) [hd0, hfr, hout, hcl, hcd, delA_none, a0, a0_n, a0_d, a0_m, a1, a1_n, a1_d, a1_m, a2, a2_n, a2_d, a2_m]) ⟨j + 1, by omega, fun k hk => ?_, by simp⟩
    by_cases hkj : k = j
    · subst hkj; exact hx hb2.symm
    · exact hinv k (by omega)
  · simp (maxSteps := 4000000) [hd0, hfr, hout, hcl, hcd, delA_none, a0, a0_n, a0_d, a0_m, a1, a1_n, a1_d, a1_m, a2, a2_n, a2_d, a2_m, eq_false (show ¬ (j : Int) < (j : Int) by omega), DUndo.enc, eq_false hb2, eq_false (fun h => hb2 h.symm : ¬ b = us[j].had), hy (fun h => hb2 h.symm)]
end Go.Proofs.Ytnlbjfdmjlnlgaa
