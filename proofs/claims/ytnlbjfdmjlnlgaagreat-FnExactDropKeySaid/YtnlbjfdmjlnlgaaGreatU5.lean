/- Part 5 of the proof that the law FnExactDropKey answers true at every input: memory as trees, the program walked over them, and what it computes; no condition. -/
import Derived.Shelf.Spec.SlicesInsertGrow
import Derived.Test.YtnlbjfdmjlnlgaaGreatChecked
import Derived.Test.YtnlbjfdmjlnlgaaGreatU4
namespace Go.Px
open Go.RowKit Go.Shelf Go.Proofs Go.Lib
set_option linter.unusedVariables false
set_option linter.unusedSimpArgs false
/-- copy, at elements of any number of cells -/
theorem run_copy_rows {P : Program} (w : World) (dT sT ty elem : TypeId) (b o dLen dCap z : Nat) (a : Addr) (sLen sCap : Nat) (cs : List Value)
    (hu : P.underlying dT = some (.slice elem)) (hs : (P.info? elem).map (·.size) = some z) (hn : cs.length = Nat.min sLen dLen * z)
    (hsrc : ∀ j v, cs[j]? = some v → w.cell? (a.add j) = some v) (hc : ∀ j, j < cs.length → (w.cell? ⟨b, o + j, none⟩).isSome = true) (hf : ∀ j, j < cs.length → w.frozen? ⟨b, o + j, none⟩ = false) (h1 : ∀ v ∈ cs, v.oneCell' = true) :
    (Builtin.copy_ #[dT, sT] ty #[.slice (some ⟨b, o, none⟩) dLen dCap, .slice (some a) sLen sCap]).run P w = .ok (goInt (Nat.min sLen dLen)) (w.setCells b o cs) := by
  have hl := run_loadCells_list (P := P) w a cs hsrc
  have hst := run_storeCells_cells (P := P) b o cs 0 w (by simpa using hc) (by simpa using hf) h1
  cases hq : P.info? elem with
  | none => simp [hq] at hs
  | some i =>
    have hi : i.size = z := by simpa [hq] using hs
    simp [Builtin.copy_, run_underlying hu, Builtin.lenOf, Builtin.firstCells, sizeOf, typeInfo, hq, hi, ← hn, hl, hst]
end Go.Px
namespace Go.Px
open Go.RowKit Go.Shelf Go.Proofs Go.Lib
set_option linter.unusedVariables false
set_option linter.unusedSimpArgs false
set_option linter.constructorNameAsVariable false
theorem VRep.cut {R w} : ∀ {l l' : List Cell} {vs F}, VRep R w (l ++ l') vs F → ∃ vs1 vs2 F1 F2, vs = vs1 ++ vs2 ∧ F = F1 ++ F2 ∧ VRep R w l vs1 F1 ∧ VRep R w l' vs2 F2
  | [], l', vs, F, h => ⟨[], vs, [], F, rfl, rfl, .nil, h⟩
  | c :: l, l', vs, F, h => by
    cases h with
    | cons hr ht =>
      obtain ⟨v1, v2, F1, F2, rfl, rfl, k1, k2⟩ := ht.cut
      exact ⟨_ :: v1, v2, _ ++ F1, F2, rfl, by simp, .cons hr k1, k2⟩
theorem setCells_row {b : Nat} {el : TypeId} {fr : Nat × Nat} : ∀ (vs : List Value) (o : Nat) (w : World) (arr : Array Value), w.heap[b]? = some (.cells arr el fr) →
    ∃ arr', (w.setCells b o vs).heap[b]? = some (.cells arr' el fr) ∧ arr'.size = arr.size ∧ (∀ b', b' ≠ b → (w.setCells b o vs).heap[b']? = w.heap[b']?) ∧ (w.setCells b o vs).heap.size = w.heap.size ∧
      (w.setCells b o vs).os = w.os ∧ (w.setCells b o vs).tape = w.tape ∧ (w.setCells b o vs).output = w.output ∧ (w.setCells b o vs).drawn = w.drawn
  | [], o, w, arr, h => ⟨arr, h, rfl, fun _ _ => rfl, rfl, rfl, rfl, rfl, rfl⟩
  | v :: vs, o, w, arr, h => by
    have h1 : (w.setCell ⟨b, o, none⟩ v).heap[b]? = some (.cells (arr.setIfInBounds o v) el fr) := by simp [World.setCell, Array.getElem?_modify, h]
    obtain ⟨arr', k1, k2, k3, k4, k5⟩ := setCells_row vs (o + 1) _ _ h1
    refine ⟨arr', k1, by rw [k2]; simp, fun b' hb' => ?_, ?_, k5⟩
    · rw [World.setCells, k3 b' hb']
      exact Below.heap_setCell w _ v b' hb'
    · rw [World.setCells, k4]; simp [World.setCell]
theorem cell_of_row {w : World} {b : Nat} {arr : Array Value} {el : TypeId} {fr : Nat × Nat} (h : w.heap[b]? = some (.cells arr el fr)) (o : Nat) : w.cell? ⟨b, o, none⟩ = arr[o]? := by simp [World.cell?, h]
def InsShift (P : Program) (f z : Nat) : Prop := ∀ (b off n c i vb voff vc : Nat) (cs vs : List Value) (w : World), n ≤ 134217728 → i < n → n + 1 ≤ c → vb ≠ b → cs.length = n * z → vs.length = z →
  (∀ (j : Nat) (v : Value), cs[j]? = some v → w.cell? ⟨b, off + j, none⟩ = some v) → (∀ j, j < (n + 1) * z → (w.cell? ⟨b, off + j, none⟩).isSome = true) → (∀ j, j < (n + 1) * z → w.frozen? ⟨b, off + j, none⟩ = false) →
  (∀ (j : Nat) (v : Value), vs[j]? = some v → w.cell? ⟨vb, voff + j, none⟩ = some v) → (∀ v ∈ cs, v.oneCell' = true) → (∀ v ∈ vs, v.oneCell' = true) →
  ∀ (tA tB : TypeId) (kA kB : Nat), w.shape? vb = some (tA, kA) → w.shape? b = some (tB, kB) → kB ≠ 0 → w.frozen? ⟨vb, voff, none⟩ = false → w.frozen? ⟨vb, kA, none⟩ = false →
  Calls P f #[.slice (some ⟨b, off, none⟩) n c, .int .i64 i, .slice (some ⟨vb, voff, none⟩) 1 vc] w fun e w' =>
    e = .returned (.slice (some ⟨b, off, none⟩) (n + 1) c) ∧ w' = (w.drew.setCells b (off + (i + 1) * z) (cs.drop (i * z))).setCells b (off + i * z) vs
def InsGrow (P : Program) (f z : Nat) (el : TypeId) : Prop := ∀ (b off n c i vb voff vc : Nat) (cs vs : List Value) (w : World), n ≤ 134217728 → i < n → n ≤ c → c < n + 1 → cs.length = n * z → vs.length = z →
  (∀ (j : Nat) (v : Value), cs[j]? = some v → w.cell? ⟨b, off + j, none⟩ = some v) →
  (∀ (j : Nat) (v : Value), vs[j]? = some v → w.cell? ⟨vb, voff + j, none⟩ = some v) → (∀ v ∈ cs, v.oneCell' = true) → (∀ v ∈ vs, v.oneCell' = true) →
  Calls P f #[.slice (some ⟨b, off, none⟩) n c, .int .i64 i, .slice (some ⟨vb, voff, none⟩) 1 vc] w fun e w' =>
    ∃ (G : Nat) (ROW : Array Value), n + 1 ≤ G ∧ G * z ≤ ROW.size ∧ (∀ (j : Nat) (v : Value), (cs.take (i * z))[j]? = some v → ROW[j]? = some v) ∧
    e = .returned (.slice (some ⟨w.heap.size, 0, none⟩) (n + 1) G) ∧
    w' = (((w.alloc (.cells ROW el)).drew.setCells w.heap.size (i * z) vs).drew).setCells w.heap.size ((i + 1) * z) (cs.drop (i * z))
/-- slices.Insert of one element ahead of the end, told in trees -/
theorem PFun.insert {P : Program} {f z : Nat} {el : TypeId} (hS : InsShift P f z) (hG : InsGrow P f z el) {H : HH} {els : List (List Cell)} {row : List Cell} {i : Nat} (hi : i < els.length) (hbd : els.length ≤ 134217728) :
    PFun P f [.c (.own z els), .c (.v (.int .i64 i)), .c (.own z [row])] H (.c (.own z (els.take i ++ row :: els.drop i))) := by
  intro g w β F FA vs hgl hh ha hnd hlow
  cases ha with
  | cons h1 h2 =>
  rename_i v0 F1 vs1 F2
  cases h2 with
  | cons h3 h4 =>
  rename_i v1 F3 vs2 F4
  cases h4 with
  | cons h5 h6 =>
  rename_i v2 F5 vs3 F6
  cases h6
  cases h1 with
  | c hr0 =>
  cases h3 with
  | c hr1 =>
  cases h5 with
  | c hr2 =>
  cases hr1 with
  | ref hi => simp [isRef] at hi
  | v _ hfl1 =>
  rcases own_inv hr0 with ⟨rfl, -⟩ | ⟨b, off, cap, arr, elt, Fi, cs, fr, rfl, rfl, hz, ⟨hb, hfr⟩, hrow0, hcap, hsz, hvr, hcells⟩
  · simp at hi
  rcases own_inv hr2 with ⟨h, -⟩ | ⟨vb, voff, vcap, varr, velt, Fv, vs, vfr, rfl, rfl, -, ⟨hvb, hvfr⟩, hrow1, hvcap, hvsz, hvvr, hvcells⟩
  · simp at h
  simp only [List.length_cons, List.length_nil, Nat.zero_add] at hvcap ⊢
  have hrl : row.length = z := hrow1 row (by simp)
  simp only [List.flatten_cons, List.flatten_nil, List.append_nil] at hvvr
  have hmz : 1 * z ≤ vcap * z := Nat.mul_le_mul_right _ hvcap
  have hcl : cs.length = els.length * z := by rw [hvr.length, flatten_len hrow0]
  have hvl : vs.length = z := by rw [hvvr.length, hrl]
  have hcl' := hvr.length
  have hsp : els.flatten = (els.take i).flatten ++ (els.drop i).flatten := by rw [← List.flatten_append, List.take_append_drop]
  rw [hsp] at hvr
  obtain ⟨ca, cb, Fa, Fb, rfl, rfl, hva, hvb2⟩ := hvr.cut
  have hcal : ca.length = i * z := by rw [hva.length, flatten_len (fun r hr => hrow0 r (List.mem_of_mem_take hr)), List.length_take, Nat.min_eq_left (Nat.le_of_lt hi)]
  have hcbl : cb.length = (els.length - i) * z := by rw [hvb2.length, flatten_len (fun r hr => hrow0 r (List.mem_of_mem_drop hr)), List.length_drop]
  have hdrop : (ca ++ cb).drop (i * z) = cb := by rw [← hcal]; simp
  have htake : (ca ++ cb).take (i * z) = ca := by rw [← hcal]; simp
  -- names apart
  have hA : ∀ {x}, x ∈ F ++ ((b :: (Fa ++ Fb)) ++ ([] ++ ((vb :: Fv) ++ []))) ↔ x ∈ F ∨ x = b ∨ x ∈ Fa ∨ x ∈ Fb ∨ x = vb ∨ x ∈ Fv := by intro x; simp
  obtain ⟨n1, n2, n3⟩ := List.nodup_append.1 hnd
  have n2' : (b :: (Fa ++ Fb ++ (vb :: Fv))).Nodup := by simpa using n2
  obtain ⟨m1, m2⟩ := List.nodup_cons.1 n2'
  have hbvb : vb ≠ b := fun e => m1 (by simp [e])
  have hbF : ∀ x ∈ F, x ≠ b := fun x hx e => n3 x hx b (by simp) e
  have hbA : ∀ x ∈ Fa, x ≠ b := fun x hx e => m1 (by simp [← e, hx])
  have hbB : ∀ x ∈ Fb, x ≠ b := fun x hx e => m1 (by simp [← e, hx])
  have hbV : ∀ x ∈ Fv, x ≠ b := fun x hx e => m1 (by simp [← e, hx])
  have hlb : g ≤ b := hlow b (hA.2 (.inr (.inl rfl)))
  have hlt : ∀ {x arr' el' fr'}, w.heap[x]? = some (.cells arr' el' fr') → x < w.heap.size := fun h => (Array.getElem?_eq_some_iff.1 h).1
  have hcs : ∀ (j : Nat) (v : Value), (ca ++ cb)[j]? = some v → w.cell? ⟨b, off + j, none⟩ = some v := fun j v hj => by rw [cell_of_row hb]; exact hcells j v hj
  have hvs : ∀ (j : Nat) (v : Value), vs[j]? = some v → w.cell? ⟨vb, voff + j, none⟩ = some v := fun j v hj => by rw [cell_of_row hvb]; exact hvcells j v hj
  have h1c : ∀ v ∈ ca ++ cb, v.oneCell' = true := fun v hv => oneCell_of_flat (by
    rcases List.mem_append.1 hv with h | h
    · exact hva.flat v h
    · exact hvb2.flat v h)
  have h1v : ∀ v ∈ vs, v.oneCell' = true := fun v hv => oneCell_of_flat (hvvr.flat v hv)
  have hvplain : vfr = (0, 0) := hgl.2 vb varr velt vfr (hlow vb (hA.2 (by simp))) hvb
  subst hvplain
  have hnewrow : ∀ r ∈ els.take i ++ row :: els.drop i, r.length = z := fun r hr => by
    rcases List.mem_append.1 hr with h | h
    · exact hrow0 r (List.mem_of_mem_take h)
    · rcases List.mem_cons.1 h with rfl | h
      · exact hrl
      · exact hrow0 r (List.mem_of_mem_drop h)
  have hnewl : (els.take i ++ row :: els.drop i).length = els.length + 1 := by simp; omega
  have hnewf : (els.take i ++ row :: els.drop i).flatten = (els.take i).flatten ++ (row ++ (els.drop i).flatten) := by simp
  have hiz : (i + 1) * z = i * z + z := Nat.succ_mul i z
  have hez : els.length * z = i * z + (els.length - i) * z := by rw [← Nat.add_mul]; congr 1; omega
  have hez1 : (els.length + 1) * z = els.length * z + z := Nat.succ_mul _ z
  -- what is left once the world is known
  have fin : ∀ (w' : World) (B : Nat) (O C : Nat) (arr' : Array Value) (el' : TypeId) (fr' : Nat × Nat), (B = b ∨ w.heap.size ≤ B) → (∀ x, x ≠ B → x < w.heap.size → w'.heap[x]? = w.heap[x]?) → w'.heap[B]? = some (.cells arr' el' fr') →
      (∀ o, O ≤ o → o < O + C * z → ¬ (fr'.1 ≤ o ∧ o < fr'.2)) → els.length + 1 ≤ C → O + C * z ≤ arr'.size → (∀ (j : Nat) (u : Value), (ca ++ (vs ++ cb))[j]? = some u → arr'[O + j]? = some u) →
      w.heap.size ≤ w'.heap.size → Frs w w' → w'.os = w.os → w'.tape = w.tape → w'.output = w.output →
      ∃ x T H' lg F' FT, Ending.returned (.slice (some ⟨B, O, none⟩) (els.length + 1) C) = .returned x ∧ (T = .c (.own z (els.take i ++ row :: els.drop i)) ∧ H' = H ∧ lg = []) ∧ Holds g (VP w' β H') w' β H' F' ∧ TRep (VP w' β H') w' T x FT ∧ (F' ++ FT).Nodup ∧ Ext w w' (F ++ ((b :: (Fa ++ Fb)) ++ ([] ++ ((vb :: Fv) ++ [])))) (F' ++ FT) ∧
        ∀ y x, ¬ hit1 lg y → VP1 w β H y x → VP1 w' β H' y x := by
    intro w' B O C arr' el' fr' hB hoth hnb hfr' hC hsz' hcell' hsize hfrs hos htape hout
    have hsame : ∀ x, x ≠ b → x < w.heap.size → w'.heap[x]? = w.heap[x]? := fun x hx hl => hoth x (fun e => by
      subst e
      rcases hB with h | h
      · exact hx h
      · omega) hl
    have hblk : ∀ x ∈ F, x < w.heap.size := fun x hx => by obtain ⟨_, _, _, h⟩ := hh.block x hx; exact hlt h
    have hAb : ∀ x ∈ Fa, x < w.heap.size := fun x hx => by obtain ⟨_, _, _, h⟩ := hva.block x hx; exact hlt h
    have hBb : ∀ x ∈ Fb, x < w.heap.size := fun x hx => by obtain ⟨_, _, _, h⟩ := hvb2.block x hx; exact hlt h
    have hVb : ∀ x ∈ Fv, x < w.heap.size := fun x hx => by obtain ⟨_, _, _, h⟩ := hvvr.block x hx; exact hlt h
    have hF' : ∀ x ∈ F, w'.heap[x]? = w.heap[x]? := fun x hx => hsame x (hbF x hx) (hblk x hx)
    have hg' : ∀ x, x < g → w'.heap[x]? = w.heap[x]? := fun x hx => hsame x (by omega) (by have := hgl.1; omega)
    have hv1 := VP1.keep hh hF' hg'
    have hv := VP.of1 hv1
    have hvr' : VRep (VP w' β H) w' (els.take i ++ row :: els.drop i).flatten (ca ++ (vs ++ cb)) (Fa ++ (Fv ++ Fb)) := by
      rw [hnewf]
      refine (hva.append (hvvr.append hvb2)).mono (K := fun _ => False) (fun c _ => clean_false c) hv (fun x hx => ?_)
      rcases List.mem_append.1 hx with h | h
      · exact hsame x (hbA x h) (hAb x h)
      · rcases List.mem_append.1 h with h | h
        · exact hsame x (hbV x h) (hVb x h)
        · exact hsame x (hbB x h) (hBb x h)
    have hrep : Rep (VP w' β H) w' (.own z (els.take i ++ row :: els.drop i)) (.slice (some ⟨B, O, none⟩) (els.length + 1) C) (B :: (Fa ++ (Fv ++ Fb))) := by
      have := Rep.own (cap := C) (off := O) hz hnb hfr' hnewrow (by rw [hnewl]; exact hC) hsz' (hvr'.reps hnb hcell')
      rwa [hnewl] at this
    have hperm : (Fa ++ (Fv ++ Fb)).Nodup := by
      have h1 : (Fa ++ Fb ++ (vb :: Fv)).Nodup := m2
      simp only [List.nodup_append, List.nodup_cons, List.mem_append, List.mem_cons] at h1 ⊢
      obtain ⟨⟨a1, a2, a3⟩, ⟨b1, b2⟩, a4⟩ := h1
      refine ⟨a1, ⟨b2, a2, fun x hx y hy e => a4 y (.inr hy) x (.inr hx) e.symm⟩, fun x hx y hy e => ?_⟩
      rcases hy with hy | hy
      · exact a4 x (.inl hx) y (.inr hy) e
      · exact a3 x hx y hy e
    have hBnew : B ∉ Fa ++ (Fv ++ Fb) := fun hm => by
      rcases hB with rfl | h
      · rcases List.mem_append.1 hm with h | h
        · exact hbA _ h rfl
        · rcases List.mem_append.1 h with h | h
          · exact hbV _ h rfl
          · exact hbB _ h rfl
      · rcases List.mem_append.1 hm with h' | h'
        · have := hAb _ h'; omega
        · rcases List.mem_append.1 h' with h' | h'
          · have := hVb _ h'; omega
          · have := hBb _ h'; omega
    have hsub : ∀ x ∈ Fa ++ (Fv ++ Fb), x ∈ F ++ ((b :: (Fa ++ Fb)) ++ ([] ++ ((vb :: Fv) ++ []))) := fun x hx => hA.2 (by
      simp only [List.mem_append] at hx
      rcases hx with h | h | h <;> simp [h])
    refine ⟨_, _, H, [], F, B :: (Fa ++ (Fv ++ Fb)), rfl, ⟨rfl, rfl, rfl⟩, hh.mono (fun _ _ => rfl) (fun e _ => clean_false e.2) hv hF' hg', .c hrep, ?_, ⟨hos, htape, hout, ⟨hsize, hfrs⟩, fun x hx hn => ?_, fun x hx => ?_⟩, fun y x _ h => hv1 y x h⟩
    · refine List.nodup_append.2 ⟨n1, List.nodup_cons.2 ⟨hBnew, hperm⟩, fun x hx y hy e => ?_⟩
      subst e
      rcases List.mem_cons.1 hy with rfl | h
      · rcases hB with h | h
        · exact hbF _ hx h
        · have := hblk _ hx; omega
      · have := hsub x h
        rcases List.mem_append.1 h with h | h
        · exact n3 x hx x (by simp [h]) rfl
        · rcases List.mem_append.1 h with h | h <;> exact n3 x hx x (by simp [h]) rfl
    · exact hsame x (fun e => hn (hA.2 (.inr (.inl e)))) hx
    · rcases List.mem_append.1 hx with h | h
      · exact .inl (hA.2 (.inl h))
      · rcases List.mem_cons.1 h with rfl | h
        · rcases hB with h | h
          · exact .inl (hA.2 (.inr (.inl h)))
          · exact .inr h
        · exact .inl (hsub x h)
  by_cases hroom : els.length + 1 ≤ cap
  · have hmul : (els.length + 1) * z ≤ cap * z := Nat.mul_le_mul_right _ hroom
    have hall : ∀ j, j < (els.length + 1) * z → (w.cell? ⟨b, off + j, none⟩).isSome = true := fun j hj => by
      rw [cell_of_row hb, Array.getElem?_eq_getElem (by omega)]; rfl
    have hvz : w.frozen? ⟨vb, voff, none⟩ = false := by simp [World.frozen?, hvb]
    have hvz2 : w.frozen? ⟨vb, varr.size, none⟩ = false := by simp [World.frozen?, hvb]
    refine (hS b off els.length cap i vb voff vcap (ca ++ cb) vs w hbd hi hroom hbvb hcl hvl hcs hall (fun j hj => ?_) hvs h1c h1v velt elt varr.size arr.size (by simp [World.shape?, hvb]) (by simp [World.shape?, hb]) (by omega) hvz hvz2).mono ?_
    · have := hfr (off + j) (by omega) (by omega)
      simp only [World.frozen?, hb]
      simpa using this
    rintro en w' ⟨rfl, rfl⟩
    rw [hdrop]
    have hbd' : w.drew.heap[b]? = some (.cells arr elt fr) := hb
    obtain ⟨arr1, a1, a2, a3, a4, a5, a6, a7, a8⟩ := setCells_row cb (off + (i + 1) * z) w.drew arr hbd'
    obtain ⟨arr2, c1, c2, c3, c4, c5, c6, c7, c8⟩ := setCells_row vs (off + i * z) _ arr1 a1
    have hW1 : ∀ j, (w.drew.setCells b (off + (i + 1) * z) cb).cell? ⟨b, j, none⟩ = arr1[j]? := fun j => cell_of_row a1 j
    have hW2 : ∀ j, ((w.drew.setCells b (off + (i + 1) * z) cb).setCells b (off + i * z) vs).cell? ⟨b, j, none⟩ = arr2[j]? := fun j => cell_of_row c1 j
    have hd : ∀ x : Addr, w.drew.cell? x = w.cell? x := fun _ => rfl
    refine fin _ b off cap arr2 elt fr (.inl rfl) (fun x hx _ => by rw [c3 x hx, a3 x hx]; rfl) c1 hfr hroom (by rw [c2, a2]; exact hsz) (fun j u hj => ?_) (by rw [c4, a4]; exact Nat.le_refl _) (Frs.row hb c1 (fun x hx => by rw [c3 x hx, a3 x hx]; rfl) (by rw [c8, a8]; exact Nat.le_succ _)) (by rw [c5, a5]; rfl) (by rw [c6, a6]; rfl) (by rw [c7, a7]; rfl)
    rw [← hW2]
    have hin1 : ∀ j, j < cb.length → (w.drew.cell? ⟨b, off + (i + 1) * z + j, none⟩).isSome = true := fun j hj => by
      rw [hd, Nat.add_assoc]; exact hall _ (by omega)
    have hin2 : ∀ j, j < vs.length → ((w.drew.setCells b (off + (i + 1) * z) cb).cell? ⟨b, off + i * z + j, none⟩).isSome = true := fun j hj => by
      rw [hW1, Array.getElem?_eq_getElem (by rw [a2]; omega)]; rfl
    by_cases hj1 : j < ca.length
    · rw [List.getElem?_append_left hj1] at hj
      rw [World.cell?_setCells_out _ _ _ _ _ (fun _ _ => .inl (by show off + j < off + i * z; omega)), World.cell?_setCells_out _ _ _ _ _ (fun _ _ => .inl (by show off + j < off + (i + 1) * z; omega)), hd]
      exact hcs j u (by rw [List.getElem?_append_left hj1]; exact hj)
    · rw [List.getElem?_append_right (by omega)] at hj
      by_cases hj2 : j - ca.length < vs.length
      · rw [List.getElem?_append_left hj2] at hj
        have := World.cell?_setCells_in b vs (off + i * z) _ hin2 (j - ca.length) hj2
        rw [show off + i * z + (j - ca.length) = off + j by omega] at this
        rw [this, ← hj, List.getElem?_eq_getElem hj2]
      · rw [List.getElem?_append_right (by omega)] at hj
        have hj3 := (List.getElem?_eq_some_iff.1 hj).1
        rw [World.cell?_setCells_out _ _ _ _ _ (fun _ _ => .inr (by show off + i * z + vs.length ≤ off + j; omega))]
        have := World.cell?_setCells_in b cb (off + (i + 1) * z) _ hin1 (j - ca.length - vs.length) hj3
        rw [show off + (i + 1) * z + (j - ca.length - vs.length) = off + j by omega] at this
        rw [this, ← hj, List.getElem?_eq_getElem hj3]
  · refine (hG b off els.length cap i vb voff vcap (ca ++ cb) vs w hbd hi hcap (by omega) hcl hvl hcs hvs h1c h1v).mono ?_
    rintro en w' ⟨G, ROW, g1, g2, g3, rfl, rfl⟩
    rw [hdrop]
    rw [htake] at g3
    have hmul : (els.length + 1) * z ≤ G * z := Nat.mul_le_mul_right _ g1
    have hb0 : ((w.alloc (.cells ROW el)).drew).heap[w.heap.size]? = some (.cells ROW el (0, 0)) := by
      show (w.heap.push _)[w.heap.size]? = _
      simp
    obtain ⟨arr1, a1, a2, a3, a4, a5, a6, a7, a8⟩ := setCells_row vs (i * z) _ ROW hb0
    have hb1 : (((w.alloc (.cells ROW el)).drew.setCells w.heap.size (i * z) vs).drew).heap[w.heap.size]? = some (.cells arr1 el (0, 0)) := a1
    obtain ⟨arr2, c1, c2, c3, c4, c5, c6, c7, c8⟩ := setCells_row cb ((i + 1) * z) _ arr1 hb1
    have hoth : ∀ x, x ≠ w.heap.size → x < w.heap.size → ((((w.alloc (.cells ROW el)).drew.setCells w.heap.size (i * z) vs).drew).setCells w.heap.size ((i + 1) * z) cb).heap[x]? = w.heap[x]? := fun x hx hl => by
      rw [c3 x hx]
      show ((w.alloc (.cells ROW el)).drew.setCells w.heap.size (i * z) vs).heap[x]? = _
      rw [a3 x hx]
      show (w.heap.push _)[x]? = _
      rw [Array.getElem?_push, if_neg (by omega)]
    have hsz2 : ((((w.alloc (.cells ROW el)).drew.setCells w.heap.size (i * z) vs).drew).setCells w.heap.size ((i + 1) * z) cb).heap.size = w.heap.size + 1 := by
      rw [c4]
      show ((w.alloc (.cells ROW el)).drew.setCells w.heap.size (i * z) vs).heap.size = _
      rw [a4]
      show (w.heap.push _).size = _
      simp
    have hfs : Frs w ((((w.alloc (.cells ROW el)).drew.setCells w.heap.size (i * z) vs).drew).setCells w.heap.size ((i + 1) * z) cb) := ⟨fun x arr' el' fr' h => by
      by_cases hx : x < w.heap.size
      · rw [hoth x (by omega) hx] at h
        exact .inl ⟨_, _, h⟩
      · have hxs := (Array.getElem?_eq_some_iff.1 h).1
        rw [hsz2] at hxs
        have hxe : x = w.heap.size := by omega
        subst hxe
        rw [c1] at h; cases h
        exact .inr ⟨Nat.le_refl _, rfl⟩, by
      rw [c8]
      show w.drawn ≤ ((w.alloc (.cells ROW el)).drew.setCells w.heap.size (i * z) vs).drawn + 1
      rw [a8]
      show w.drawn ≤ w.drawn + 1 + 1
      omega⟩
    refine fin _ w.heap.size 0 G arr2 el (0, 0) (.inr (Nat.le_refl _)) hoth c1 (by simp) g1 (by rw [c2, a2]; omega) (fun j u hj => ?_) (by rw [hsz2]; omega) hfs (by rw [c5]; exact a5) (by rw [c6]; exact a6) (by rw [c7]; exact a7)
    rw [Nat.zero_add]
    have hW1 : ∀ j, (((w.alloc (.cells ROW el)).drew.setCells w.heap.size (i * z) vs).drew).cell? ⟨w.heap.size, j, none⟩ = arr1[j]? := fun j => cell_of_row hb1 j
    have hW0 : ∀ j, ((w.alloc (.cells ROW el)).drew).cell? ⟨w.heap.size, j, none⟩ = ROW[j]? := fun j => cell_of_row hb0 j
    rw [← cell_of_row c1]
    have hin1 : ∀ j, j < vs.length → (((w.alloc (.cells ROW el)).drew).cell? ⟨w.heap.size, i * z + j, none⟩).isSome = true := fun j hj => by
      rw [hW0, Array.getElem?_eq_getElem (by omega)]; rfl
    have hin2 : ∀ j, j < cb.length → ((((w.alloc (.cells ROW el)).drew.setCells w.heap.size (i * z) vs).drew).cell? ⟨w.heap.size, (i + 1) * z + j, none⟩).isSome = true := fun j hj => by
      rw [hW1, Array.getElem?_eq_getElem (by rw [a2]; omega)]; rfl
    have hdr : ∀ x : Addr, (((w.alloc (.cells ROW el)).drew.setCells w.heap.size (i * z) vs).drew).cell? x = ((w.alloc (.cells ROW el)).drew.setCells w.heap.size (i * z) vs).cell? x := fun _ => rfl
    by_cases hj1 : j < ca.length
    · rw [List.getElem?_append_left hj1] at hj
      rw [World.cell?_setCells_out _ _ _ _ _ (fun _ _ => .inl (by show j < (i + 1) * z; omega)), hdr, World.cell?_setCells_out _ _ _ _ _ (fun _ _ => .inl (by show j < i * z; omega)), hW0]
      exact g3 j u hj
    · rw [List.getElem?_append_right (by omega)] at hj
      by_cases hj2 : j - ca.length < vs.length
      · rw [List.getElem?_append_left hj2] at hj
        rw [World.cell?_setCells_out _ _ _ _ _ (fun _ _ => .inl (by show j < (i + 1) * z; omega)), hdr]
        have := World.cell?_setCells_in w.heap.size vs (i * z) _ hin1 (j - ca.length) hj2
        rw [show i * z + (j - ca.length) = j by omega] at this
        rw [this, ← hj, List.getElem?_eq_getElem hj2]
      · rw [List.getElem?_append_right (by omega)] at hj
        have hj3 := (List.getElem?_eq_some_iff.1 hj).1
        have := World.cell?_setCells_in w.heap.size cb ((i + 1) * z) _ hin2 (j - ca.length - vs.length) hj3
        rw [show (i + 1) * z + (j - ca.length - vs.length) = j by omega] at this
        rw [this, ← hj, List.getElem?_eq_getElem hj3]
end Go.Px
namespace Go.Px
open Go.RowKit
set_option linter.unusedVariables false
/-- entry where the first and the third argument are arrays that are handed over -/
theorem PFunB2.of {P : Program} {f : FuncId} {fn : Func} {c : Code} {a1 : T} {z z2 : Nat} {els els2 : List (List Cell)} {H : HH} {x : T} (kv : List Nat) (hf : P.funcs[f]? = some fn) (hb : fn.body = some c) (hN : 3 ≤ fn.ntmps)
    (h : ∀ d, d ≠ 0 → (∀ n, look H (d, n) = none) → CleanH (atD d) H → outH d H = H → PCode ⟨P, d, fn.ntmps⟩ kv c { t := [(0, .c (.sl (d, 0) [] z 0 els.length)), (2, .c (.sl (d, 2) [] z2 0 els2.length)), (1, a1)], H := ((d, 0), .own z els) :: ((d, 2), .own z2 els2) :: H, lg := [] } (retK P d fn.results.toList (fun T H1 lg => T = x ∧ H1 = H ∧ lg = []))) : PFun P f [.c (.own z els), a1, .c (.own z2 els2)] H x := by
  refine PCalls.of_code hf hb hN (fun d hd hfr hcl => ?_)
  have hlk : ∀ n, look H (d, n) = none := fun n => by
    cases hl : look H (d, n) with
    | none => rfl
    | some c => exact absurd rfl (hfr _ (look_mem hl))
  have hout : outH d H = H := by
    unfold outH
    rw [List.filter_eq_self]
    intro e he
    simpa using hfr e he
  refine SCode.ghost (fun e a w he hr => ?_) (PCode.sound (h d hd hlk hcl hout))
  have h1 := Rel.bind (i := 2) (z := z2) (els := els2) hr (by simp [enumT, getT]) (by rw [he]; exact hlk 2)
  have h2 := Rel.bind (i := 0) (z := z) (els := els) h1 (by simp [enumT, getT, setT_def, delT_cons, delT_nil]) (by rw [he]; simp [look_cons, hlk])
  simpa [enumT, setT_def, delT_cons, delT_nil, he] using h2
end Go.Px
namespace Go.Px
open Go.RowKit
set_option linter.unusedVariables false
set_option linter.constructorNameAsVariable false
theorem RRep.cut {R w} : ∀ {a b : List (List Cell)} {vss F}, RRep R w (a ++ b) vss F → ∃ v1 v2 F1 F2, vss = v1 ++ v2 ∧ F = F1 ++ F2 ∧ RRep R w a v1 F1 ∧ RRep R w b v2 F2
  | [], b, vss, F, h => ⟨[], vss, [], F, rfl, rfl, .nil, h⟩
  | r :: a, b, vss, F, h => by
    cases h with
    | cons h t =>
      obtain ⟨v1, v2, F1, F2, rfl, rfl, k1, k2⟩ := t.cut
      exact ⟨_ :: v1, v2, _ ++ F1, F2, rfl, by simp, .cons h k1, k2⟩
theorem RRep.append {R w} : ∀ {a b : List (List Cell)} {v1 v2 F1 F2}, RRep R w a v1 F1 → RRep R w b v2 F2 → RRep R w (a ++ b) (v1 ++ v2) (F1 ++ F2)
  | _, _, _, _, _, _, .nil, h => h
  | _, _, _, _, _, _, .cons h t, k => by rw [List.append_assoc]; exact .cons h (t.append k)
/-- A call that puts a row among those of an array may be told of the bare values. -/
theorem PFun.insert_raw {P : Program} {f z : Nat} {a1 : T} {H : HH} {els : List (List Cell)} {row : List Cell} {i : Nat} (hb1 : a1.bare = true) (hels : ∀ r ∈ els, r.length = z) (hrow : row.length = z)
    (h : ∀ (vss : List (List Value)) (vs : List Value), vss.length = els.length → (∀ v ∈ vss, v.length = z) → vs.length = z → PFun P f [.c (.own z (rawR vss)), a1, .c (.own z [vs.map Cell.v])] H (.c (.own z (rawR (vss.take i ++ vs :: vss.drop i))))) :
    PFun P f [.c (.own z els), a1, .c (.own z [row])] H (.c (.own z (els.take i ++ row :: els.drop i))) := by
  intro g w β F FA vs hgl hh ha hnd hlow
  cases ha with
  | cons h1 h2 =>
  rename_i v0 F1 vs1 F2
  cases h2 with
  | cons h3 h4 =>
  rename_i v1 F3 vs2 F4
  cases h4 with
  | cons h5 h6 =>
  rename_i v2 F5 vs3 F6
  cases h6
  have hF3 : F3 = [] := h3.bare hb1
  subst hF3
  cases h1 with
  | c hr0 =>
  cases h5 with
  | c hr2 =>
  obtain ⟨vss, Fb, Fi, rfl, hraw, hrr⟩ := hr0.raw
  obtain ⟨wss, Gb, Gi, rfl, hraw2, hrr2⟩ := hr2.raw
  cases hrr2 with
  | cons q1 q2 =>
  rename_i ws Fw wss' Fw'
  cases q2
  have hlen := hrr.length
  have hzv : ∀ v ∈ vss, v.length = z := hrr.like.rows hels
  have hwl : ws.length = z := by rw [q1.length, hrow]
  obtain ⟨n1, n2, n3⟩ := List.nodup_append.1 hnd
  have hA : ∀ {x}, x ∈ F ++ ((Fb ++ Fi) ++ ([] ++ ((Gb ++ (Fw ++ [])) ++ []))) ↔ x ∈ F ∨ x ∈ Fb ∨ x ∈ Fi ∨ x ∈ Gb ∨ x ∈ Fw := by intro x; simp
  have n2' : (Fb ++ (Fi ++ (Gb ++ Fw))).Nodup := by simpa using n2
  obtain ⟨nb, ni, nbi⟩ := List.nodup_append.1 n2'
  obtain ⟨nFi, ngw, nig⟩ := List.nodup_append.1 ni
  obtain ⟨nGb, nFw, ngw'⟩ := List.nodup_append.1 ngw
  have hsubA : ∀ x ∈ F ++ (Fb ++ ([] ++ (Gb ++ []))), x ∈ F ++ ((Fb ++ Fi) ++ ([] ++ ((Gb ++ (Fw ++ [])) ++ []))) := fun x hx => hA.2 (by
    simp only [List.mem_append, List.nil_append, List.append_nil] at hx
    rcases hx with h | h | h <;> simp [h])
  have hnA : (F ++ (Fb ++ ([] ++ (Gb ++ [])))).Nodup := by
    simp only [List.nil_append, List.append_nil]
    refine List.nodup_append.2 ⟨n1, List.nodup_append.2 ⟨nb, nGb, fun x hx y hy => nbi x hx y (by simp [hy])⟩, fun x hx y hy => n3 x hx y (by
      rcases List.mem_append.1 hy with h | h <;> simp [h])⟩
  have hargs : TReps (VP w β H) w [.c (.own z (rawR vss)), a1, .c (.own z [ws.map Cell.v])] [v0, v1, v2] (Fb ++ ([] ++ (Gb ++ []))) :=
    .cons (.c (hraw _)) (.cons h3 (.cons (.c (hraw2 _)) .nil))
  refine (h vss ws hlen hzv hwl g w β F _ _ hgl hh hargs hnA (fun b hb => hlow b (hsubA b hb))).mono ?_
  rintro en w' ⟨x, T, H1, lg, F1, FT, rfl, ⟨rfl, rfl, rfl⟩, m1, m2, m3, m4, m5⟩
  cases m2 with
  | c m2 =>
  have hside : ∀ b, (b ∈ Fi ∨ b ∈ Fw) → b ∉ F ++ (Fb ++ ([] ++ (Gb ++ []))) := fun b hb hm => by
    simp only [List.nil_append, List.append_nil, List.mem_append] at hm
    rcases hb with hb | hb
    · rcases hm with hm | hm | hm
      · exact n3 b hm b (by simp [hb]) rfl
      · exact nbi b hm b (by simp [hb]) rfl
      · exact nig b hb b (by simp [hm]) rfl
    · rcases hm with hm | hm | hm
      · exact n3 b hm b (by simp [hb]) rfl
      · exact nbi b hm b (by simp [hb]) rfl
      · exact ngw' b hm b hb rfl
  have hv := VP.of1 (fun y x hv => m5 y x (fun hh => by cases y <;> simp [hit1] at hh) hv)
  have hlt : ∀ b, (b ∈ Fi ∨ b ∈ Fw) → b < w.heap.size := fun b hb => by
    rcases hb with hb | hb
    · obtain ⟨arr, el, fr, he⟩ := hrr.block b hb; exact lt_of_block he
    · obtain ⟨arr, el, fr, he⟩ := q1.block b hb; exact lt_of_block he
  have hst : ∀ b, (b ∈ Fi ∨ b ∈ Fw) → w'.heap[b]? = w.heap[b]? := fun b hb => m4.same b (hlt b hb) (hside b hb)
  have hsp := List.take_append_drop i els
  rw [← hsp] at hrr
  obtain ⟨va, vb, Fa, Fz, rfl, rfl, ra, rb⟩ := hrr.cut
  have hval : va.length = (els.take i).length := ra.length
  have hvt : (va ++ vb).take i = va ∧ (va ++ vb).drop i = vb := by
    by_cases hi : i ≤ els.length
    · have : va.length = i := by rw [hval, List.length_take, Nat.min_eq_left hi]
      rw [← this]; simp
    · have hd : els.drop i = [] := List.drop_eq_nil_of_le (by omega)
      rw [hd] at rb
      cases rb
      have : va.length ≤ i := by rw [hval, List.length_take]; omega
      exact ⟨by rw [List.append_nil, List.take_of_length_le this], by rw [List.append_nil, List.drop_eq_nil_of_le this]⟩
  have hnew : RRep (VP w' β H1) w' (els.take i ++ row :: els.drop i) ((va ++ vb).take i ++ ws :: (va ++ vb).drop i) (Fa ++ (Fw ++ Fz)) := by
    rw [hvt.1, hvt.2]
    exact (ra.mono (K := fun _ => False) (fun r _ c _ => clean_false c) hv (fun b hb => hst b (.inl (by simp [hb])))).append (.cons (q1.mono (K := fun _ => False) (fun c _ => clean_false c) hv (fun b hb => hst b (.inr hb))) (rb.mono (K := fun _ => False) (fun r _ c _ => clean_false c) hv (fun b hb => hst b (.inl (by simp [hb])))))
  have m2' : Rep (VP w' β H1) w' (.own z (rawR ((va ++ vb).take i ++ ws :: (va ++ vb).drop i) ++ [])) x FT := by simpa using m2
  obtain ⟨Fn, u1, u2⟩ := Rep.unraw m2' hnew
  rw [List.append_nil] at u1
  have hmem : ∀ b ∈ Fa ++ (Fw ++ Fz), b ∈ Fa ++ Fz ∨ b ∈ Fw := fun b hb => by
    simp only [List.mem_append] at hb ⊢
    rcases hb with h | h | h <;> simp [h]
  have hbig : ∀ b, b ∈ F1 ++ FT → (b ∈ F ++ (Fb ++ ([] ++ (Gb ++ []))) ∨ w.heap.size ≤ b) := fun b hb => m4.new b hb
  have hapart : ∀ b ∈ Fa ++ (Fw ++ Fz), b ∉ F1 ++ FT := fun b hb hm => by
    have hb' := hmem b hb
    rcases hbig b hm with h | h
    · exact hside b hb' h
    · have := hlt b hb'; omega
  have hnn : (Fa ++ (Fw ++ Fz)).Nodup := by
    obtain ⟨a1, a2, a3⟩ := List.nodup_append.1 nFi
    refine List.nodup_append.2 ⟨a1, List.nodup_append.2 ⟨nFw, a2, fun x hx y hy e => ?_⟩, fun x hx y hy e => ?_⟩
    · exact nig y (by simp [hy]) x (by simp [hx]) e.symm
    · rcases List.mem_append.1 hy with h | h
      · exact nig x (by simp [hx]) y (by simp [h]) e
      · exact a3 x hx y h e
  have hnF : (F1 ++ Fn).Nodup := by
    obtain ⟨k1, k2, k3⟩ := List.nodup_append.1 m3
    refine List.nodup_append.2 ⟨k1, u2.nodup_iff.2 (List.nodup_append.2 ⟨k2, hnn, fun x hx y hy e => hapart y hy (by subst e; simp [hx])⟩), fun x hx y hy e => ?_⟩
    rcases List.mem_append.1 (u2.subset hy) with h | h
    · exact k3 x hx y h e
    · exact hapart y h (by subst e; simp [hx])
  refine ⟨x, _, _, [], F1, Fn, rfl, ⟨rfl, rfl, rfl⟩, m1, .c u1, hnF, ⟨m4.os, m4.tape, m4.output, m4.size, fun b hb hn => m4.same b hb (fun hm => hn (hsubA b hm)), fun b hb => ?_⟩, m5⟩
  rcases List.mem_append.1 hb with h | h
  · rcases m4.new b (by simp [h]) with h | h
    · exact .inl (hsubA b h)
    · exact .inr h
  · rcases List.mem_append.1 (u2.subset h) with h | h
    · rcases m4.new b (by simp [h]) with h | h
      · exact .inl (hsubA b h)
      · exact .inr h
    · rcases hmem b h with h | h
      · exact .inl (hA.2 (by rcases List.mem_append.1 h with h | h <;> simp [h]))
      · exact .inl (hA.2 (by simp [h]))
end Go.Px
namespace Go.Px
open Go.RowKit
set_option linter.unusedVariables false
set_option linter.constructorNameAsVariable false
/-- a call that takes over an array that stands in a cell of an object: the cell is left open -/
theorem PFun.takeNK {P : Program} {f : FuncId} {args : List T} {H : HH} {x : T} {d : Nat} {KP : St → Prop} {t' : List (Nat × T)} {o : Option Nat} {lg0 : List (Nm × Path)} {i : Nat} {r : Nm} {q : Path} {z : Nat} {els : List (List Cell)} {co : Cell}
    (h : PFun P f (args.set i (.c (.own z els))) (putH H r (Cell.set .x q co)) x) (hi : args[i]? = some (.c (.sl r q z 0 els.length))) (h0 : r.1 ≠ 0) (hrd : ¬ r.1 = d) (hq0 : q ≠ []) (hl : look H r = some co) (hg : co.get q = some (.own z els))
    (hcl : CleanH (hit [(r, q)]) H) (hot : T.cleans (hit [(r, q)]) (args.set i .u)) (hoc : OcleanT (hit [(r, q)]) t') (hq : KP ⟨putD (t'.filter (fun en => en.2.keep r q)) o x, putH H r (Cell.set .x q co), (r, q) :: lg0⟩) : PCalls P f args H (CK d KP t' o lg0) := by
  intro g w β F FA vs hgl hh ha hn hlow
  obtain ⟨a0, x0, F0, G0, m1, m2, m3, m4, m5, m6, m7, m8, m9⟩ := hh.write (List.nodup_append.1 hn).1 (fun b hb => hlow b (by simp [hb])) h0 hl hq0 hg
  have hst := m8 w .x (fun b _ => But.of_eq rfl) (fun _ _ => rfl)
  have hK := VP.map hst
  obtain ⟨Fh, p1, p2⟩ := m9 (hit [(r, q)]) w .x x0 [] (fun b _ => But.of_eq rfl) (fun _ _ => rfl) m3 (fun en he => by
    rcases mem_putH he with h' | rfl
    · exact hcl en h'
    · exact Clean.setc Clean.hole (hcl _ (look_mem hl))) hK (Rep.x x0 m6.flat)
  have hcd : Clean (hit [(r, q)]) (.own z els) := (hcl _ (look_mem hl)).at hg
  have hxy : ∀ v F, TRep (VP w β H) w (.c (.sl r q z 0 els.length)) v F → F = [] ∧ ∃ F1, TRep (VP w β (putH H r (Cell.set .x q co))) w (.c (.own z els)) v F1 ∧ F1.Sublist F0 := by
    intro v F hv
    have hF : F = [] := hv.bare rfl
    subst hF
    refine ⟨rfl, ?_⟩
    have hv := trep_ref hv rfl
    obtain ⟨c', els', hd', e1, e2, e3, e4, e5⟩ := hv
    rw [hl] at e1; cases e1
    rw [hg] at e2; cases e2
    rw [m2] at e3; cases e3
    obtain ⟨F0', r1, r2⟩ := rep_drop m6 e5 (by omega)
    rw [List.drop_zero] at r1
    exact ⟨F0', .c (r1.mono hcd hK (fun _ _ => rfl)), r2⟩
  obtain ⟨F', F1', k1, k2, k3⟩ := TReps.swap hK hxy ha hi (cleans_get hot)
  rw [List.nil_append] at p1
  have hG : ∀ b, b ∈ Fh ↔ b ∈ G0 := fun b => p1.mem_iff
  have hsub : ∀ b ∈ Fh ++ F', b ∈ F ++ FA := by
    intro b hb
    rcases List.mem_append.1 hb with hb | hb
    · exact List.mem_append.2 (.inl (m7.symm.subset (by simp [(hG b).1 hb])))
    · rcases List.mem_append.1 (k2.subset hb) with hb | hb
      · exact List.mem_append.2 (.inl (m7.symm.subset (by simp [k3.subset hb])))
      · exact List.mem_append.2 (.inr hb)
  have hnd : (Fh ++ F').Nodup := by
    have e0 : (Fh ++ F').Perm (G0 ++ F') := List.Perm.append_right F' p1
    have e1 : (G0 ++ F').Perm ((F1' ++ G0) ++ FA) := by
      refine (List.Perm.append_left G0 k2).trans ?_
      rw [← List.append_assoc]
      exact List.Perm.append_right FA List.perm_append_comm
    have e2 : ((F1' ++ G0) ++ FA).Sublist ((F0 ++ G0) ++ FA) := List.Sublist.append (List.Sublist.append k3 (.refl _)) (.refl _)
    exact (e0.trans e1).nodup_iff.2 (List.Nodup.sublist e2 ((List.Perm.append_right FA m7).nodup_iff.1 hn))
  refine (h g w β Fh F' vs hgl p2 k1 hnd (fun b hb => hlow b (hsub b hb))).mono ?_
  rintro en w' ⟨y, T, H1, lg, F1, FT, rfl, ⟨rfl, rfl, rfl⟩, n1, n2, n3, n4, n5⟩
  refine ⟨y, T, _, [(r, q)], F1, FT, rfl, ?_, n1, n2, n3, ?_, fun y x hy hv => n5 y x (by intro hh; cases y <;> simp [hit1] at hh) (hst y x hy hv)⟩
  · rw [CK_mk]
    refine ⟨by simpa using hoc, ?_⟩
    have : [(r, q)].filter (fun e => decide (e.1.1 ≠ d)) = [(r, q)] := by simp [hrd]
    rw [this]
    simpa [keepL] using hq
  · exact ⟨n4.os, n4.tape, n4.output, n4.size, fun b hb hm => n4.same b hb (fun h' => hm (hsub _ h')), fun b hb => (n4.new b hb).imp (fun h' => hsub _ h') id⟩
end Go.Px
namespace Go.Px
open Go.RowKit
set_option linter.unusedVariables false
set_option linter.constructorNameAsVariable false
/-- a call whose argument is an array that stands in a cell of an object may be told as one that takes it over -/
theorem PCalls.takeN {P : Program} {f : FuncId} {args : List T} {H : HH} {Q : T → HH → List (Nm × Path) → Prop} {i i0 n : Nat} {r : Nm} {q : Path} {z : Nat} {els : List (List Cell)} {co : Cell}
    (h : PCalls P f (args.set i (.c (.own z (cutD i0 n els)))) (putH H r (Cell.set .x q co)) Q) (hi : args[i]? = some (.c (.sl r q z i0 n))) (h0 : r.1 ≠ 0) (hq0 : q ≠ []) (hl : look H r = some co) (hg : co.get q = some (.own z els)) (hn : i0 + n ≤ els.length)
    (hcl : CleanH (hit [(r, q)]) H) (hot : T.cleans (hit [(r, q)]) (args.set i .u)) : PCalls P f args H (fun T H1 lg => ∃ lg1, lg = (r, q) :: lg1 ∧ Q T H1 lg1) := by
  intro g w β F FA vs hgl hh ha hnd hlow
  obtain ⟨a0, x0, F0, G0, m1, m2, m3, m4, m5, m6, m7, m8, m9⟩ := hh.write (List.nodup_append.1 hnd).1 (fun b hb => hlow b (by simp [hb])) h0 hl hq0 hg
  have hst := m8 w .x (fun b _ => But.of_eq rfl) (fun _ _ => rfl)
  have hK := VP.map hst
  obtain ⟨Fh, p1, p2⟩ := m9 (hit [(r, q)]) w .x x0 [] (fun b _ => But.of_eq rfl) (fun _ _ => rfl) m3 (fun en he => by
    rcases mem_putH he with h' | rfl
    · exact hcl en h'
    · exact Clean.setc Clean.hole (hcl _ (look_mem hl))) hK (Rep.x x0 m6.flat)
  have hcd0 : Clean (hit [(r, q)]) (.own z els) := (hcl _ (look_mem hl)).at hg
  have hcd : Clean (hit [(r, q)]) (.own z (cutD i0 n els)) := Clean.own (fun row hr x hx => hcd0.sub x (List.mem_flatten.2 ⟨row, List.mem_of_mem_drop (List.mem_of_mem_take hr), hx⟩))
  have hxy : ∀ v F, TRep (VP w β H) w (.c (.sl r q z i0 n)) v F → F = [] ∧ ∃ F1, TRep (VP w β (putH H r (Cell.set .x q co))) w (.c (.own z (cutD i0 n els))) v F1 ∧ F1.Sublist F0 := by
    intro v F hv
    have hF : F = [] := hv.bare rfl
    subst hF
    refine ⟨rfl, ?_⟩
    have hv := trep_ref hv rfl
    obtain ⟨c', els', hd', e1, e2, e3, e4, e5⟩ := hv
    rw [hl] at e1; cases e1
    rw [hg] at e2; cases e2
    rw [m2] at e3; cases e3
    obtain ⟨F0', r1, r2⟩ := rep_cut m6 e5 hn
    exact ⟨F0', .c (r1.mono hcd hK (fun _ _ => rfl)), r2⟩
  obtain ⟨F', F1', k1, k2, k3⟩ := TReps.swap hK hxy ha hi (cleans_get hot)
  rw [List.nil_append] at p1
  have hG : ∀ b, b ∈ Fh ↔ b ∈ G0 := fun b => p1.mem_iff
  have hsub : ∀ b ∈ Fh ++ F', b ∈ F ++ FA := by
    intro b hb
    rcases List.mem_append.1 hb with hb | hb
    · exact List.mem_append.2 (.inl (m7.symm.subset (by simp [(hG b).1 hb])))
    · rcases List.mem_append.1 (k2.subset hb) with hb | hb
      · exact List.mem_append.2 (.inl (m7.symm.subset (by simp [k3.subset hb])))
      · exact List.mem_append.2 (.inr hb)
  have hnd2 : (Fh ++ F').Nodup := by
    have e0 : (Fh ++ F').Perm (G0 ++ F') := List.Perm.append_right F' p1
    have e1 : (G0 ++ F').Perm ((F1' ++ G0) ++ FA) := by
      refine (List.Perm.append_left G0 k2).trans ?_
      rw [← List.append_assoc]
      exact List.Perm.append_right FA List.perm_append_comm
    have e2 : ((F1' ++ G0) ++ FA).Sublist ((F0 ++ G0) ++ FA) := List.Sublist.append (List.Sublist.append k3 (.refl _)) (.refl _)
    exact (e0.trans e1).nodup_iff.2 (List.Nodup.sublist e2 ((List.Perm.append_right FA m7).nodup_iff.1 hnd))
  refine (h g w β Fh F' vs hgl p2 k1 hnd2 (fun b hb => hlow b (hsub b hb))).mono ?_
  rintro en w' ⟨y, T, H1, lg, F1, FT, rfl, hQ, n1, n2, n3, n4, n5⟩
  exact ⟨y, T, _, (r, q) :: lg, F1, FT, rfl, ⟨lg, rfl, hQ⟩, n1, n2, n3, ⟨n4.os, n4.tape, n4.output, n4.size, fun b hb hm => n4.same b hb (fun h' => hm (hsub _ h')), fun b hb => (n4.new b hb).imp (fun h' => hsub _ h') id⟩,
    fun y x hy hv => n5 y x (hit1_cons hy).2 (hst y x (hit1_cons hy).1 hv)⟩
/-- .. of an object of the caller's own, by a call that overwrites arrays of an object of another's -/
theorem PUpdW.takeNKo {W : Path → Prop} {P : Program} {f : FuncId} {args args' : List T} {H H0 : HH} {x : T} {H' : HH} {d : Nat} {ro : Nm} {KP : St → Prop} {t' : List (Nat × T)} {o : Option Nat} {lg0 : List (Nm × Path)} {i i0 n : Nat} {r : Nm} {q0 : Path} {z : Nat} {els : List (List Cell)} {co : Cell}
    (h : PUpdW P f args' H0 x H' ro W) (hargs : args' = args.set i (.c (.own z (cutD i0 n els)))) (hH0 : H0 = putH H r (Cell.set .x q0 co)) (hd : d ≠ 0) (hi : args[i]? = some (.c (.sl r q0 z i0 n))) (hr : r.1 = d) (hq0 : q0 ≠ []) (hro : ¬ ro.1 = d) (hl : look H r = some co) (hg : co.get q0 = some (.own z els)) (hn : i0 + n ≤ els.length)
    (hcl : CleanH (hit [(r, q0)]) H) (hot : T.cleans (hit [(r, q0)]) (args.set i .u)) (hoc : OcleanT (hit [(r, q0)]) t') (ho : ∀ q, W q → OcleanT (hit [(ro, q)]) t') (hk : ∀ q, W q → ∀ en ∈ t', en.2.keep ro q = true) (hq : ∀ lg, (∀ e ∈ lg, e.1 = ro ∧ W e.2) → KP ⟨putD (t'.filter (fun en => en.2.keep r q0)) o x, H', lg ++ lg0⟩) : PCalls P f args H (CK d KP t' o lg0) := by
  subst hargs; subst hH0
  refine (PCalls.takeN h hi (by rw [hr]; exact hd) hq0 hl hg hn hcl hot).mono ?_
  rintro T1 H1 lg' ⟨lg, rfl, rfl, rfl, hlg⟩
  have hform : ∀ e ∈ lg, ∃ q, W q ∧ e = (ro, q) := fun e he => by
    obtain ⟨h1, h2⟩ := hlg e he
    obtain ⟨e1, e2⟩ := e
    exact ⟨e2, h2, by simp at h1; rw [h1]⟩
  rw [CK_mk]
  refine ⟨fun e he => ?_, ?_⟩
  · rcases List.mem_cons.1 he with rfl | he
    · exact hoc
    · obtain ⟨q, hWq, rfl⟩ := hform e he
      exact ho q hWq
  · have e1 : (t'.filter fun en => keepL ((r, q0) :: lg) en.2) = t'.filter (fun en => en.2.keep r q0) := by
      apply List.filter_congr
      intro en hen
      unfold keepL
      rw [List.all_cons]
      have : lg.all (fun e => en.2.keep e.1 e.2) = true := by
        rw [List.all_eq_true]
        intro e he
        obtain ⟨q, hWq, rfl⟩ := hform e he
        exact hk q hWq en hen
      rw [this, Bool.and_true]
    have e2 : ((r, q0) :: lg).filter (fun e => decide (e.1.1 ≠ d)) = lg := by
      rw [List.filter_cons, if_neg (by simp [hr]), List.filter_eq_self]
      intro e he
      simp [(hlg e he).1, hro]
    rw [e1, e2]
    exact hq lg hlg
end Go.Px
namespace Go.Px
open Go.RowKit
set_option linter.unusedVariables false
set_option linter.constructorNameAsVariable false
theorem look_past {r : Nm} {c : Cell} {H : HH} : ∀ {L : HH}, (∀ e ∈ L, e.1 ≠ r) → ∀ n, look ((r, c) :: (L ++ H)) n = look (L ++ (r, c) :: H) n
  | [], _, n => rfl
  | (s, o) :: L, h, n => by
    have h1 := look_past (H := H) (c := c) (L := L) (fun e he => h e (by simp [he])) n
    have hne : s ≠ r := h (s, o) (by simp)
    rw [List.cons_append, List.cons_append, look_swap (a := (r, c)) (b := (s, o)) (fun e => hne e.symm) n]
    simp only [look] at h1 ⊢
    rw [h1]
theorem Holds.cons_inv {g R w β a H F} (h : Holds g R w β (a :: H) F) : ∃ Fa Fr, F = Fa ++ Fr ∧ Holds g R w β H Fr ∧ ∀ {H' Fr'}, Holds g R w β H' Fr' → Holds g R w β (a :: H') (Fa ++ Fr') := by
  cases h with
  | sh h1 h2 h3 h4 => exact ⟨[], _, rfl, h4, fun k => .sh h1 h2 h3 k⟩
  | ow h1 h2 h3 => exact ⟨_, _, rfl, h3, fun k => .ow h1 h2 k⟩
theorem Holds.past {g R w β a} {H : HH} : ∀ {L : HH} {F}, Holds g R w β (a :: (L ++ H)) F → ∃ F', F'.Perm F ∧ Holds g R w β (L ++ a :: H) F'
  | [], F, h => ⟨F, .refl _, h⟩
  | b :: L, F, h => by
    obtain ⟨F1, p1, h1⟩ := Holds.swap h
    obtain ⟨Fb, Fr, rfl, h2, hb⟩ := h1.cons_inv
    obtain ⟨F2, p2, h3⟩ := Holds.past (L := L) h2
    exact ⟨Fb ++ F2, (List.Perm.append_left Fb p2).trans p1, hb h3⟩
theorem Holds.past' {g R w β a} {H : HH} : ∀ {L : HH} {F}, Holds g R w β (L ++ a :: H) F → ∃ F', F'.Perm F ∧ Holds g R w β (a :: (L ++ H)) F'
  | [], F, h => ⟨F, .refl _, h⟩
  | b :: L, F, h => by
    obtain ⟨Fb, Fr, rfl, h2, hb⟩ := Holds.cons_inv (a := b) (H := L ++ a :: H) h
    obtain ⟨F2, p2, h3⟩ := Holds.past' (L := L) h2
    obtain ⟨F3, p3, h4⟩ := Holds.swap (hb h3)
    exact ⟨F3, p3.trans (List.Perm.append_left Fb p2), h4⟩
/-- an object may go behind others -/
theorem PUpdW.past {W : Path → Prop} {P : Program} {f : FuncId} {args : List T} {r : Nm} {c c' : Cell} {L H : HH} {x : T} (hne : ∀ e ∈ L, e.1 ≠ r) (h : PUpdW P f args ((r, c) :: (L ++ H)) x ((r, c') :: (L ++ H)) r W) : PUpdW P f args (L ++ (r, c) :: H) x (L ++ (r, c') :: H) r W := by
  intro g w β F FA vs hg hh ha hn hlow
  have e1 := fun n => look_past (c := c) (H := H) hne n
  have e2 := fun n => look_past (c := c') (H := H) hne n
  rw [← VP.ext e1] at hh ha
  obtain ⟨F', p1, h1⟩ := hh.past'
  refine (h g w β F' FA vs hg h1 ha ((List.Perm.append_right FA p1).nodup_iff.2 hn) (fun b hb => hlow b ((List.Perm.append_right FA p1).subset hb))).mono ?_
  rintro en w' ⟨y, T, H1, lg, F1, FT, rfl, ⟨rfl, rfl, hlg⟩, m1, m2, m3, m4, m5⟩
  rw [VP.ext e2] at m1 m2
  obtain ⟨F2, p2, h2⟩ := m1.past
  have p3 := List.Perm.append_right FT p2
  refine ⟨y, T, _, lg, F2, FT, rfl, ⟨rfl, rfl, hlg⟩, h2, m2, p3.nodup_iff.2 m3, ⟨m4.os, m4.tape, m4.output, m4.size, fun b hb hm => m4.same b hb (fun h' => hm ((List.Perm.append_right FA p1).subset h')), fun b hb => (m4.new b (p3.subset hb)).imp (fun h' => (List.Perm.append_right FA p1).subset h') id⟩, fun y x hy hv => ?_⟩
  rw [← VP1.ext e1] at hv
  have := m5 y x hy hv
  rw [VP1.ext e2] at this
  exact this
end Go.Px


namespace Go.Proofs.YtnlbjfdmjlnlgaaGreat
open Go Go.Px Go.RowKit Go.Proofs Go.Shelf Go.Lib
set_option linter.unusedVariables false
set_option linter.unusedSimpArgs false
set_option maxRecDepth 100000
set_option maxHeartbeats 4000000
/-- slices.Insert of one element, ahead of the end, where there is room: in place. -/
theorem insRow_shift (b off n c i vb voff vc : Nat) (cs vs : List Value) (w : World) (hnb : n ≤ 134217728) (hi : i < n) (hroom : n + 1 ≤ c) (hvb : vb ≠ b)
    (hcl : cs.length = n * 2) (hvl : vs.length = 2)
    (hcs : ∀ j v, cs[j]? = some v → w.cell? ⟨b, off + j, none⟩ = some v) (hsp : ∀ j, j < (n + 1) * 2 → (w.cell? ⟨b, off + j, none⟩).isSome = true) (hfz : ∀ j, j < (n + 1) * 2 → w.frozen? ⟨b, off + j, none⟩ = false)
    (hvs : ∀ j v, vs[j]? = some v → w.cell? ⟨vb, voff + j, none⟩ = some v) (h1c : ∀ v ∈ cs, v.oneCell' = true) (h1v : ∀ v ∈ vs, v.oneCell' = true)
    (tA tB : TypeId) (kA kB : Nat) (hsa : w.shape? vb = some (tA, kA)) (hsb : w.shape? b = some (tB, kB)) (hkB : kB ≠ 0) (hfa : w.frozen? ⟨vb, voff, none⟩ = false) (hfe : w.frozen? ⟨vb, kA, none⟩ = false) :
    Calls Tryz.prog 175 #[.slice (some ⟨b, off, none⟩) n c, .int .i64 i, .slice (some ⟨vb, voff, none⟩) 1 vc] w fun e w' =>
      e = .returned (.slice (some ⟨b, off, none⟩) (n + 1) c) ∧ w' = (w.drew.setCells b (off + (i + 1) * 2) (cs.drop (i * 2))).setCells b (off + i * 2) vs := by
  have uS := Tryz.underlying28
  have hz2 : ¬ ((i : Int) = (n : Int)) := by omega
  have hsz : (Tryz.prog.info? 133).map (·.size) = some 2 := by kernel_rfl
  have hszr : ∀ w, (Go.sizeOf 133).run Tryz.prog w = .ok 2 w := fun w => by
    cases hq : Tryz.prog.info? 133 with
    | none => rw [hq] at hsz; simp at hsz
    | some i0 => rw [hq] at hsz; simp at hsz; simp [sizeOf, typeInfo, hq, hsz]
  have hov : ∀ lb cb, (callFunc 202 #[.slice (some ⟨vb, voff, none⟩) 1 vc, .slice (some ⟨b, off + (i + 1) * 2, none⟩) lb cb]).run Tryz.prog w = .ok (.value (.bool false)) w := fun lb cb => by
    rw [run_callFunc_extern Tryz.func202 (by kernel_rfl) (by kernel_rfl) (by kernel_rfl) (e := Extern.SlicesOverlaps.overlaps #[28, 28] #[4]) (by kernel_rfl),
      Lib.run_overlaps_apart w 28 4 133 uS 2 hszr ⟨vb, voff, none⟩ ⟨b, off + (i + 1) * 2, none⟩ 1 vc lb cb hvb tA tB kA kB hsa hsb hkB hfa hfe]
    rfl
  have hdl : (cs.drop (i * 2)).length = (n - i) * 2 := by rw [List.length_drop, hcl, Nat.sub_mul]
  have mixed : Tryz.prog.follows .mixedOrders = true := rfl
  have hw1 : IntKind.i64.wrap ((i : Int) + 1) = (i : Int) + 1 := by rw [IntKind.wrap_i64]; omega
  have hb1 : (0 : Int) ≤ (i : Int) + 1 := by omega
  have hin : i ≤ n := by omega
  have htn : ((i : Int) + 1).toNat = i + 1 := by omega
  have hb2 : ¬ (c = i + 1) := by omega
  have hb3 : (i : Int) ≤ (n : Int) + 1 := by omega
  have hb4 : ¬ (c = i) := by omega
  have hw2 : IntKind.i64.wrap ((n : Int) + 1) = (n : Int) + 1 := by rw [IntKind.wrap_i64]; omega
  have hz1 : ¬ ((1 : Int) = 0) := by decide
  have hmn : Nat.min (n + 1 - i) (n - i) = n - i := by simp only [Nat.min_def]; split <;> omega
  have hmn2 : Nat.min 1 (n + 1 - i) = 1 := by simp only [Nat.min_def]; split <;> omega
  have hend : off + (i + 1) * 2 + (n - i) * 2 ≤ off + (n + 1) * 2 := by omega
  have hcp1 : ∀ ty dc sc, (Builtin.copy_ #[28, 28] ty #[.slice (some ⟨b, off + (i + 1) * 2, none⟩) (n - i) dc, .slice (some ⟨b, off + i * 2, none⟩) (n + 1 - i) sc]).run Tryz.prog w.drew = .ok (goInt ((n - i : Nat) : Int)) (w.drew.setCells b (off + (i + 1) * 2) (cs.drop (i * 2))) := fun ty dc sc => by
    have := run_copy_rows (P := Tryz.prog) w.drew 28 28 ty 133 b (off + (i + 1) * 2) (n - i) dc 2 ⟨b, off + i * 2, none⟩ (n + 1 - i) sc (cs.drop (i * 2)) uS hsz (by rw [hdl, hmn])
      (fun j v hj => by rw [Addr.add_lit, Nat.add_assoc]; exact hcs (i * 2 + j) v (by rwa [List.getElem?_drop] at hj))
      (fun j hj => by rw [Nat.add_assoc]; exact hsp _ (by omega)) (fun j hj => by rw [Nat.add_assoc]; exact hfz _ (by omega)) (fun v hv => h1c v (List.mem_of_mem_drop hv))
    rw [this, hmn]
  obtain ⟨W1, hW1⟩ : ∃ W1, W1 = w.drew.setCells b (off + (i + 1) * 2) (cs.drop (i * 2)) := ⟨_, rfl⟩
  have hsp1 : ∀ k, k < (n + 1) * 2 → (W1.cell? ⟨b, off + k, none⟩).isSome = true := fun k hk => by
    rw [hW1]
    exact isSome_setCells b _ _ _ (fun j hj => by rw [Nat.add_assoc]; exact hsp _ (by omega)) _ (hsp k hk)
  have hcp2 : ∀ (W : World), (∀ x, W.cell? x = W1.cell? x) → (∀ x, W.frozen? x = W1.frozen? x) → ∀ ty dc, (Builtin.copy_ #[28, 28] ty #[.slice (some ⟨b, off + i * 2, none⟩) (n + 1 - i) dc, .slice (some ⟨vb, voff, none⟩) 1 vc]).run Tryz.prog W = .ok (goInt 1) (W.setCells b (off + i * 2) vs) := fun W hWc hWf ty dc => by
    have := run_copy_rows (P := Tryz.prog) W 28 28 ty 133 b (off + i * 2) (n + 1 - i) dc 2 ⟨vb, voff, none⟩ 1 vc vs uS hsz (by rw [hvl, hmn2, Nat.one_mul])
      (fun j v hj => by
        rw [Addr.add_lit, hWc, hW1, World.cell?_setCells_out b _ _ _ _ (fun h _ => absurd h hvb)]
        exact hvs j v hj)
      (fun j hj => by rw [hWc, Nat.add_assoc]; exact hsp1 _ (by omega)) (fun j hj => by rw [hWf, hW1, World.frozen?_setCells, Nat.add_assoc]; exact hfz _ (by omega)) h1v
    rw [this, hmn2]; rfl
  rw [← hW1] at hcp1
  clear hsz hszr hdl hmn hmn2 hend hsp1
  go_enter Tryz.func175, Tryz.ntmps175
  go_wp2_with (simp only [hov])
  go_region_law_o (refine step_copy_runI rfl _ _ 28 28 rfl _ _ (by simp [Act.eval, Act.put]) (by simp [Act.eval, Act.put]) (hcp1 _ _ _) ?_)
  go_wp2_with (at_builtin; refine wpList_copy_runI _ rfl _ _ 28 28 rfl _ _ rfl rfl (hcp2 _ (fun _ => rfl) (fun _ => rfl) _ _) ?_)
  go_ret
  first | exact ⟨rfl, rfl⟩ | exact ⟨rfl, by rw [hW1]⟩
/-- slices.Insert of one element, ahead of the end, where there is no room: a new array. -/
theorem insRow_grow (b off n c i vb voff vc : Nat) (cs vs : List Value) (w : World) (hnb : n ≤ 134217728) (hi : i < n) (hnc : n ≤ c) (hroom : c < n + 1)
    (hcl : cs.length = n * 2) (hvl : vs.length = 2)
    (hcs : ∀ j v, cs[j]? = some v → w.cell? ⟨b, off + j, none⟩ = some v)
    (hvs : ∀ j v, vs[j]? = some v → w.cell? ⟨vb, voff + j, none⟩ = some v) (h1c : ∀ v ∈ cs, v.oneCell' = true) (h1v : ∀ v ∈ vs, v.oneCell' = true) :
    Calls Tryz.prog 175 #[.slice (some ⟨b, off, none⟩) n c, .int .i64 i, .slice (some ⟨vb, voff, none⟩) 1 vc] w fun e w' =>
      ∃ (G : Nat) (ROW : Array Value), n + 1 ≤ G ∧ G * 2 ≤ ROW.size ∧ (∀ (j : Nat) (v : Value), (cs.take (i * 2))[j]? = some v → ROW[j]? = some v) ∧
      e = .returned (.slice (some ⟨w.heap.size, 0, none⟩) (n + 1) G) ∧
      w' = (((w.alloc (.cells ROW 133)).drew.setCells w.heap.size (i * 2) vs).drew).setCells w.heap.size ((i + 1) * 2) (cs.drop (i * 2)) := by
  have uS := Tryz.underlying28
  have uI := Tryz.underlying3
  have mixed : Tryz.prog.follows .mixedOrders = true := rfl
  have hinf : (Tryz.prog.info? 133).bind (fun i => i.zero.map fun z => (i.size, i.bytes, z.cells.size)) = some (2, 32, 2) := by kernel_rfl
  obtain ⟨i0, hi0, hinf2⟩ := Option.bind_eq_some_iff.1 hinf
  obtain ⟨zv, hz0, hinf3⟩ := Option.map_eq_some_iff.1 hinf2
  simp only [Prod.mk.injEq] at hinf3
  obtain ⟨hzs, hzb, hzc⟩ := hinf3
  clear hinf hinf2
  have hz1 : ¬ ((1 : Int) = 0) := by decide
  have hz2 : ¬ ((i : Int) = (n : Int)) := by omega
  have hz3 : (c : Int) < (n : Int) + 1 := by omega
  have hsz : (Tryz.prog.info? 133).map (·.size) = some 2 := by rw [hi0]; simp [hzs]
  have hw1 : IntKind.i64.wrap ((i : Int) + 1) = (i : Int) + 1 := by rw [IntKind.wrap_i64]; omega
  have hw2 : IntKind.i64.wrap ((n : Int) + 1) = (n : Int) + 1 := by rw [IntKind.wrap_i64]; omega
  have hw3 : IntKind.i64.wrap ((n : Int) + 1 - (i : Int)) = (n : Int) + 1 - (i : Int) := by rw [IntKind.wrap_i64]; omega
  have hbw : b < w.heap.size := block_lt_of_cell (hcs 0 _ (List.getElem?_eq_getElem (by omega)))
  have hvw : vb < w.heap.size := block_lt_of_cell (hvs 0 _ (List.getElem?_eq_getElem (by omega)))
  have hkk : (n : Int) + 1 - (i : Int) = ((n + 1 - i : Nat) : Int) := by omega
  have hik : i + (n + 1 - i) = n + 1 := by omega
  have hold : (Builtin.firstCells i0.size i (.slice (some ⟨b, off, none⟩) i c)).run Tryz.prog w.drew = .ok (cs.take (i * 2)).toArray w.drew := by
    rw [hzs]
    exact run_firstCells_some w.drew 2 i ⟨b, off, none⟩ i c (cs.take (i * 2)) (by rw [List.length_take]; omega) (fun j v hj => by
      rw [Addr.add_lit]
      rw [List.getElem?_take] at hj
      split at hj
      · exact hcs j v hj
      · cases hj)
  obtain ⟨G, hG⟩ : ∃ G, G = grownCap w (n + 1) c 133 := ⟨_, rfl⟩
  obtain ⟨ROW, hROW⟩ : ∃ ROW : Array Value, ROW = (cs.take (i * 2)).toArray ++ Builtin.zeroCells zv.cells (n + 1 - i) ++ Builtin.zeroCells zv.cells (G - (n + 1)) := ⟨_, rfl⟩
  have hrz : ∀ ty, (Builtin.append_ #[28, 3] ty #[.slice (some ⟨b, off, none⟩) i c, .int .i64 ((n : Int) + 1 - (i : Int))]).run Tryz.prog w =
      .ok (.slice (some ⟨w.heap.size, 0, none⟩) (n + 1) G) (w.drew.alloc (.cells ROW 133)) := fun ty => by
    have h := Lib.run_append_grow_zeros w 28 3 ty 133 i0 _ .i64 .i64 uS uI hi0 hz0 (some ⟨b, off, none⟩) i c (cs.take (i * 2)) hold (n + 1 - i) (by omega) (by omega) (by omega) (by omega) (by rw [hzb]; omega) (by rw [hzb, hik]; exact growslice_fits hroom (by omega))
    rw [hik] at h
    rw [hkk, hROW, hG]
    exact h
  have hGn : n + 1 ≤ G := by rw [hG]; exact grownCap_ge w _ _ _
  have hRl : G * 2 ≤ ROW.size := by
    rw [hROW]
    simp only [Array.size_append, List.size_toArray, size_zeroCells, hzc, List.length_take, hcl]
    omega
  have hRt : ∀ (j : Nat) (v : Value), (cs.take (i * 2))[j]? = some v → ROW[j]? = some v := fun j v hj => by
    have hlt := (List.getElem?_eq_some_iff.1 hj).1
    rw [hROW, Array.getElem?_append_left (by simp only [Array.size_append, List.size_toArray]; omega), Array.getElem?_append_left (by simpa using hlt)]
    simpa using hj
  have hG63 : G ≤ 9223372036854775807 := by
    have := grownCap_le_maxLen w (n + 1) c 133 (by unfold maxLen; omega)
    rw [← hG] at this
    unfold maxLen at this
    omega
  obtain ⟨W1, hW1⟩ : ∃ W1, W1 = w.drew.alloc (.cells ROW 133) := ⟨_, rfl⟩
  rw [← hW1] at hrz
  have hN : ∀ j, j < (n + 1) * 2 → (W1.cell? ⟨w.heap.size, j, none⟩).isSome = true := fun j hj => by
    rw [hW1, World.cell?_alloc_at (w := w.drew) ROW _ w.heap.size j rfl, Array.getElem?_eq_getElem (by omega)]; rfl
  have hNf : ∀ j, W1.frozen? ⟨w.heap.size, j, none⟩ = false := fun j => by rw [hW1]; exact World.frozen?_alloc_at (w := w.drew) ROW _ w.heap.size j rfl
  have hOb : ∀ j v, w.cell? ⟨b, j, none⟩ = some v → W1.cell? ⟨b, j, none⟩ = some v := fun j v h => by rw [hW1, World.cell?_alloc_past (w := w.drew) _ b j hbw]; exact h
  have hOv : ∀ j v, w.cell? ⟨vb, j, none⟩ = some v → W1.cell? ⟨vb, j, none⟩ = some v := fun j v h => by rw [hW1, World.cell?_alloc_past (w := w.drew) _ vb j hvw]; exact h
  have hmn : Nat.min (n - i) (n - i) = n - i := by simp only [Nat.min_def]; split <;> omega
  have hmn2 : Nat.min 1 (n + 1 - i) = 1 := by simp only [Nat.min_def]; split <;> omega
  have hcpA : ∀ (W : World), (∀ x, W.cell? x = W1.cell? x) → (∀ x, W.frozen? x = W1.frozen? x) → ∀ ty dc, (Builtin.copy_ #[28, 28] ty #[.slice (some ⟨w.heap.size, i * 2, none⟩) (n + 1 - i) dc, .slice (some ⟨vb, voff, none⟩) 1 vc]).run Tryz.prog W = .ok (goInt 1) (W.setCells w.heap.size (i * 2) vs) := fun W hWc hWf ty dc => by
    have := run_copy_rows (P := Tryz.prog) W 28 28 ty 133 w.heap.size (i * 2) (n + 1 - i) dc 2 ⟨vb, voff, none⟩ 1 vc vs uS hsz (by rw [hvl, hmn2, Nat.one_mul])
      (fun j v hj => by rw [Addr.add_lit, hWc]; exact hOv _ v (hvs j v hj))
      (fun j hj => by rw [hWc]; exact hN _ (by omega)) (fun j hj => by rw [hWf]; exact hNf _) h1v
    rw [this, hmn2]; rfl
  have hGi : ¬ (G = i) := by omega
  have hGim : ¬ (G = i + 1) := by omega
  have hci : ¬ (c = i) := by omega
  have hbN : b ≠ w.heap.size := by omega
  have hdl : (cs.drop (i * 2)).length = (n - i) * 2 := by rw [List.length_drop, hcl, Nat.sub_mul]
  have hcpB : ∀ (W : World), (∀ x, W.cell? x = (W1.setCells w.heap.size (i * 2) vs).cell? x) → (∀ x, W.frozen? x = (W1.setCells w.heap.size (i * 2) vs).frozen? x) → ∀ ty dc sc, (Builtin.copy_ #[28, 28] ty #[.slice (some ⟨w.heap.size, (i + 1) * 2, none⟩) (n - i) dc, .slice (some ⟨b, off + i * 2, none⟩) (n - i) sc]).run Tryz.prog W = .ok (goInt ((n - i : Nat) : Int)) (W.setCells w.heap.size ((i + 1) * 2) (cs.drop (i * 2))) := fun W hWc hWf ty dc sc => by
    have := run_copy_rows (P := Tryz.prog) W 28 28 ty 133 w.heap.size ((i + 1) * 2) (n - i) dc 2 ⟨b, off + i * 2, none⟩ (n - i) sc (cs.drop (i * 2)) uS hsz (by rw [hdl, hmn])
      (fun j v hj => by
        rw [Addr.add_lit, hWc, World.cell?_setCells_out _ _ _ _ _ (fun h _ => absurd h hbN), Nat.add_assoc]
        exact hOb _ v (hcs (i * 2 + j) v (by rwa [List.getElem?_drop] at hj)))
      (fun j hj => by rw [hWc]; exact isSome_setCells _ _ _ _ (fun t ht => hN _ (by omega)) _ (hN _ (by omega)))
      (fun j hj => by rw [hWf, World.frozen?_setCells]; exact hNf _) (fun v hv => h1c v (List.mem_of_mem_drop hv))
    rw [this, hmn]
  subst hW1
  have hE1 : ∀ x, ((w.alloc (.cells ROW 133)).drew).cell? x = (w.drew.alloc (.cells ROW 133)).cell? x := fun x => rfl
  have hE2 : ∀ x, ((w.alloc (.cells ROW 133)).drew).frozen? x = (w.drew.alloc (.cells ROW 133)).frozen? x := fun x => rfl
  have hF1 : ∀ x, (((w.alloc (.cells ROW 133)).drew.setCells w.heap.size (i * 2) vs).drew).cell? x = ((w.drew.alloc (.cells ROW 133)).setCells w.heap.size (i * 2) vs).cell? x := fun x => rfl
  have hF2 : ∀ x, (((w.alloc (.cells ROW 133)).drew.setCells w.heap.size (i * 2) vs).drew).frozen? x = ((w.drew.alloc (.cells ROW 133)).setCells w.heap.size (i * 2) vs).frozen? x := fun x => rfl
  have hb1 : (0 : Int) ≤ (i : Int) + 1 := by omega
  have hin : i ≤ n := by omega
  have htn : ((i : Int) + 1).toNat = i + 1 := by omega
  have hb3 : (i : Int) ≤ (n : Int) := by omega
  refine Calls.mono (R := fun e w' => e = .returned (.slice (some ⟨w.heap.size, 0, none⟩) (n + 1) G) ∧ w' = (((w.alloc (.cells ROW 133)).drew.setCells w.heap.size (i * 2) vs).drew).setCells w.heap.size ((i + 1) * 2) (cs.drop (i * 2))) ?_ (fun e w' h => ⟨G, ROW, hGn, hRl, hRt, h.1, h.2⟩)
  clear hkk hik hold hROW hG hRl hRt hGn hG63 hN hNf hOb hOv hmn hmn2 hi0 hz0 hzs hzb hzc hsz hdl
  go_enter Tryz.func175, Tryz.ntmps175
  go_wp2_with (first
    | (at_builtin; refine Lib.wpList_append_run _ rfl _ _ _ _ rfl _ _ rfl rfl _ _ (hrz _) ?_)
    | (at_builtin; refine wpList_copy_runI _ rfl _ _ 28 28 rfl _ _ rfl rfl (hcpA _ hE1 hE2 _ _) ?_)
    | (at_builtin; refine wpList_copy_runI _ rfl _ _ 28 28 rfl _ _ rfl rfl (hcpB _ (fun _ => rfl) (fun _ => rfl) _ _ _) ?_))
  go_region_law_o (refine step_copy_runI rfl _ _ 28 28 rfl (.slice (some ⟨w.heap.size, (i + 1) * 2, none⟩) (n - i) (G - (i + 1))) (.slice (some ⟨b, off + i * 2, none⟩) (n - i) (c - i)) (by simp [Act.eval, Act.put]) (by simp [Act.eval, Act.put]) (hcpB _ hF1 hF2 3 (G - (i + 1)) (c - i)) ?_)
  go_wp2
  go_ret
  exact ⟨rfl, rfl⟩
theorem insRow_shift' : InsShift Tryz.prog 175 2 := fun b off n c i vb voff vc cs vs w h1 h2 h3 h4 h5 h6 h7 h8 h9 h10 h11 h12 tA tB kA kB k1 k2 k3 k4 k5 => insRow_shift b off n c i vb voff vc cs vs w h1 h2 h3 h4 h5 h6 h7 h8 h9 h10 h11 h12 tA tB kA kB k1 k2 k3 k4 k5
theorem insRow_grow' : InsGrow Tryz.prog 175 2 133 := fun b off n c i vb voff vc cs vs w h1 h2 h3 h4 h5 h6 h7 h8 h9 h10 => insRow_grow b off n c i vb voff vc cs vs w h1 h2 h3 h4 h5 h6 h7 h8 h9 h10
end Go.Proofs.YtnlbjfdmjlnlgaaGreat


namespace Go.Proofs.YtnlbjfdmjlnlgaaGreat
open Go Go.Px Go.RowKit Go.Proofs
set_option linter.unnecessarySimpa false
set_option linter.unusedVariables false
set_option linter.unusedSimpArgs false
set_option maxRecDepth 100000
set_option maxHeartbeats 1000000
attribute [-simp] Int.not_le Int.not_lt
theorem slices_Insert_Row_raw (H : HH) {vss : List (List Value)} {vs : List Value} (hbd : vss.length ≤ 1048576) (hvs : vs.length = 2) (hvss : ∀ r ∈ vss, r.length = 2) :
    PFun Tryz.prog 175 [.c (.own 2 (rawR vss)), I vss.length, .c (.own 2 [vs.map Cell.v])] H (.c (.own 2 (rawR (vss.take vss.length ++ vs :: vss.drop vss.length)))) := by
  have hl : (rawR vss).length = vss.length := rawR_len vss
  have hR : rawR (vss.take vss.length ++ vs :: vss.drop vss.length) = rawR vss ++ [vs.map Cell.v] := by simp [rawR]
  have hclR : ∀ K, CleanRows K (rawR vss) := fun K row hr c hc => by
    obtain ⟨v, -, rfl⟩ := List.mem_map.1 hr
    obtain ⟨u, -, rfl⟩ := List.mem_map.1 hc
    exact Clean.v
  have hc1 : ∀ K, cells1 K (vs.map Cell.v) := fun K c hc => by
    obtain ⟨u, -, rfl⟩ := List.mem_map.1 hc
    exact Clean.v
  have hrow : (vs.map Cell.v).length = 2 := by simpa using hvs
  have hno : ∀ c ∈ vs.map Cell.v, isOwn c = false := fun c hc => by
    obtain ⟨u, -, rfl⟩ := List.mem_map.1 hc
    rfl
  rw [hR]
  generalize vs.map Cell.v = row at *
  generalize rawR vss = els at *
  rw [← hl]
  rw [← hl] at hbd
  refine PFunB2.of [0, 1, 2, 6, 7, 8, 9, 16, 22, 31, 68] Tryz.func175 rfl (by simp [Tryz.f175]) ?_
  intro d hd0 hfr hcl hout
  have hcd : ∀ n q, CleanH (hit [((d, n), q)]) H := fun n q => hcl.at
  simp (maxSteps := 4000000) [hd0, hfr, hout, hcl, hcd, delA_none, Tryz.f175]
  exact ⟨⟨hclR _, hc1 _⟩, fun c hc => hno c hc, by omega, hc1 _, ⟨hclR _, hc1 _⟩, hclR _, hc1 _⟩
theorem slices_Insert_Row (H : HH) {els : List (List Cell)} {row : List Cell} {i : Nat} (hi : i ≤ els.length) (hbd : els.length ≤ 1048576) (hrow : row.length = 2) (hels : ∀ r ∈ els, r.length = 2) :
    PFun Tryz.prog 175 [.c (.own 2 els), I i, .c (.own 2 [row])] H (.c (.own 2 (els.take i ++ row :: els.drop i))) := by
  by_cases h : i < els.length
  · exact PFun.insert insRow_shift' insRow_grow' h (by omega)
  · have he : i = els.length := by omega
    subst he
    refine PFun.insert_raw rfl hels hrow (fun vss vs h1 h2 h3 => ?_)
    rw [← h1]
    exact slices_Insert_Row_raw H (by omega) h3 h2
end Go.Proofs.YtnlbjfdmjlnlgaaGreat


namespace Go.Proofs.YtnlbjfdmjlnlgaaGreat
open Go Go.Px Go.RowKit Go.Proofs
set_option linter.unnecessarySimpa false
set_option linter.unusedVariables false
set_option linter.unusedSimpArgs false
set_option maxRecDepth 100000
set_option maxHeartbeats 1000000
attribute [-simp] Int.not_le Int.not_lt
/-- may one who sees up to a and is o write on a chain? -/
def mayF (c : List DVersion) (a o : Int) : Bool := match c with | [] => true | v :: _ => if v.at_ = 0 then decide (v.txn = o) else decide (v.at_ ≤ a)
theorem impl_mayWrite (H : HH) {r q} {l : List DVersion} {a o : Int} (h0 : 0 ≤ a) (ha : arrAt H r q = some (4, l.map DVersion.enc)) :
    PFun Tryz.prog 148 [.c (.sl r q 4 0 l.length), .a [.v (.int .i64 a), .v (.int .i64 o)]] H (I (if mayF l a o = true then 0 else 9)) := by
  refine PFun.of [0, 3, 4, 32] Tryz.func148 rfl (by simp [Tryz.f148]) ?_
  intro d hd0 hfr hcl hout
  have hcd : ∀ n q, CleanH (hit [((d, n), q)]) H := fun n q => hcl.at
  have ha_n : ∀ n, ¬ (d, n) = r := fun n => nm_ne (ne_of_arr hfr ha)
  have ha_d : ¬ r.1 = d := ne_of_arr hfr ha
  have ha_m : ∀ n, ¬ r = (d, n) := fun n => nm_ne' (ne_of_arr hfr ha)
  simp (maxSteps := 4000000) [hd0, hfr, hout, hcl, hcd, delA_none, ha, ha_n, ha_d, ha_m, Tryz.f148]
  refine DrawK.intro 28 [32] rfl (by kernel_rfl) (by decide) ?_
  cases l with
  | nil => simp (maxSteps := 4000000) [hd0, hfr, hout, hcl, hcd, delA_none, ha, ha_n, ha_d, ha_m, mayF]
  | cons v l =>
    by_cases hz : v.at_ = 0
    · by_cases ho : v.txn = o
      · simp (maxSteps := 4000000) [hd0, hfr, hout, hcl, hcd, delA_none, ha, ha_n, ha_d, ha_m, eq_true (show (0 : Int) < (l.length : Int) + 1 by omega), DVersion.enc, hz, ho, mayF, eq_false (show ¬ a < 0 by omega)]
      · simp (maxSteps := 4000000) [hd0, hfr, hout, hcl, hcd, delA_none, ha, ha_n, ha_d, ha_m, eq_true (show (0 : Int) < (l.length : Int) + 1 by omega), DVersion.enc, hz, eq_false ho, mayF]
    · by_cases hle : v.at_ ≤ a
      · simp (maxSteps := 4000000) [hd0, hfr, hout, hcl, hcd, delA_none, ha, ha_n, ha_d, ha_m, eq_true (show (0 : Int) < (l.length : Int) + 1 by omega), DVersion.enc, eq_false hz, hle, mayF, eq_false (show ¬ a < v.at_ by omega)]
      · simp (maxSteps := 4000000) [hd0, hfr, hout, hcl, hcd, delA_none, ha, ha_n, ha_d, ha_m, eq_true (show (0 : Int) < (l.length : Int) + 1 by omega), DVersion.enc, eq_false hz, eq_false hle, mayF, eq_true (show a < v.at_ by omega)]
theorem impl_Txn_view (H : HH) {r q} {n : Nat} {i a s dn : Int} :
    PFun Tryz.prog 87 [.a [.v (.int .i64 i), .v (.int .i64 a), .v (.int .i64 s), .v (.int .i64 dn), .sl r q 4 0 n]] H (.a [.v (.int .i64 a), .v (.int .i64 i)]) := by
  refine PFun.of [1, 2] Tryz.func87 rfl (by simp [Tryz.f87]) ?_
  intro d hd0 hfr hcl hout
  have hcd : ∀ n q, CleanH (hit [((d, n), q)]) H := fun n q => hcl.at
  simp (maxSteps := 4000000) [hd0, hfr, hout, hcl, hcd, delA_none, Tryz.f87]
/-- does one who sees up to a and is o see a version? -/
def visF (a o : Int) (v : DVersion) : Bool := (decide (v.at_ = 0) && decide (v.txn = o)) || (decide (0 < v.at_) && decide (v.at_ ≤ a))
theorem impl_seen_1 (H : HH) {r q} {a o : Int} {v : DVersion} (ha : arrAt H r q = some (2, [[.v (.int .i64 a), .v (.int .i64 o)]])) :
    PFun Tryz.prog 186 [.a v.enc, .c (.pt r q 2 0 0)] H (B (visF a o v)) := by
  refine PFun.of [1, 2, 3] Tryz.func186 rfl (by simp [Tryz.f186]) ?_
  intro d hd0 hfr hcl hout
  have hcd : ∀ n q, CleanH (hit [((d, n), q)]) H := fun n q => hcl.at
  have ha_n : ∀ n, ¬ (d, n) = r := fun n => nm_ne (ne_of_arr hfr ha)
  have ha_d : ¬ r.1 = d := ne_of_arr hfr ha
  have ha_m : ∀ n, ¬ r = (d, n) := fun n => nm_ne' (ne_of_arr hfr ha)
  simp (maxSteps := 4000000) [hd0, hfr, hout, hcl, hcd, delA_none, ha, ha_n, ha_d, ha_m, Tryz.f186, DVersion.enc]
  by_cases hz : v.at_ = 0
  · by_cases ho : v.txn = o
    · simp (maxSteps := 4000000) [hd0, hfr, hout, hcl, hcd, delA_none, ha, ha_n, ha_d, ha_m, DVersion.enc, hz, ho, visF]
    · simp (maxSteps := 4000000) [hd0, hfr, hout, hcl, hcd, delA_none, ha, ha_n, ha_d, ha_m, DVersion.enc, hz, eq_false ho, visF]
  · by_cases hp : 0 < v.at_
    · simp (maxSteps := 4000000) [hd0, hfr, hout, hcl, hcd, delA_none, ha, ha_n, ha_d, ha_m, DVersion.enc, eq_false hz, hp, visF]
    · simp (maxSteps := 4000000) [hd0, hfr, hout, hcl, hcd, delA_none, ha, ha_n, ha_d, ha_m, DVersion.enc, eq_false hz, eq_false hp, visF]
theorem impl_seen (H : HH) {r q} {l : List DVersion} {a o : Int} (hb : l.length ≤ 1048576) (ha : arrAt H r q = some (4, l.map DVersion.enc)) :
    PFun Tryz.prog 151 [.c (.sl r q 4 0 l.length), .a [.v (.int .i64 a), .v (.int .i64 o)]] H (I (idxF (visF a o) l)) := by
  refine PFun.of [0, 3, 4] Tryz.func151 rfl (by simp [Tryz.f151]) ?_
  intro d hd0 hfr hcl hout
  have hcd : ∀ n q, CleanH (hit [((d, n), q)]) H := fun n q => hcl.at
  have ha_n : ∀ n, ¬ (d, n) = r := fun n => nm_ne (ne_of_arr hfr ha)
  have ha_d : ¬ r.1 = d := ne_of_arr hfr ha
  have ha_m : ∀ n, ¬ r = (d, n) := fun n => nm_ne' (ne_of_arr hfr ha)
  simp (maxSteps := 4000000) [hd0, hfr, hout, hcl, hcd, delA_none, ha, ha_n, ha_d, ha_m, Tryz.f151]
  have hC : ∀ H', arrAt H' (d, 3) [] = some (2, [[.v (.int .i64 a), .v (.int .i64 o)]]) → arrAt H' r q = some (4, l.map DVersion.enc) → PFun Tryz.prog 166 [.c (.sl r q 4 0 l.length), .c (.fn 186 [.pt (d, 3) [] 2 0 0])] H' (I (idxF (visF a o) l)) := fun H' h1 h2 => by
    have := slices_IndexFunc_Version H' (P := visF a o) (g := 186) (caps := [.pt (d, 3) [] 2 0 0]) hb (Nat.le_refl _) h2 (by simp [isRef]) (by simp) (fun i hi => impl_seen_1 H' h1)
    simpa using this
  generalize idxF (visF a o) l = R at *
  refine (hC _ (by simp (maxSteps := 4000000) [hd0, hfr, hout, hcl, hcd, delA_none, ha, ha_n, ha_d, ha_m]) (by simp (maxSteps := 4000000) [hd0, hfr, hout, hcl, hcd, delA_none, ha, ha_n, ha_d, ha_m])).useCK ?_
  simp (maxSteps := 4000000) [hd0, hfr, hout, hcl, hcd, delA_none, ha, ha_n, ha_d, ha_m]
theorem idxF_find {α : Type} (p : α → Bool) (l : List α) : (idxF p l = -1 ∧ l.find? p = none) ∨ ∃ i, ∃ h : i < l.length, idxF p l = i ∧ l.find? p = some l[i] := by
  induction l with
  | nil => exact .inl ⟨rfl, rfl⟩
  | cons x l ih =>
    by_cases hx : p x = true
    · exact .inr ⟨0, by simp, by simp [idxF, hx], by simp [hx]⟩
    · rcases ih with ⟨h1, h2⟩ | ⟨i, hi, h1, h2⟩
      · exact .inl ⟨by simp [idxF, hx, h1], by simp [hx, h2]⟩
      · exact .inr ⟨i + 1, by simpa using hi, by simp [idxF, hx, h1]; omega, by simp [hx, h2]⟩
/-- what one reads of a chain -/
def readC (c : List DVersion) (a o : Int) : Option Int := match c.find? (visF a o) with | some v => if v.gone = true then none else some v.value | none => none
def readR (c : List DVersion) (a o : Int) : List Cell := match readC c a o with | some v => [.v (.int .i64 0), .v (.int .i64 v)] | none => [.v (.int .i64 4), .v (.int .i64 0)]
theorem impl_seenValue (H : HH) {r q} {l : List DVersion} {a o : Int} (hb : l.length ≤ 1048576) (ha : arrAt H r q = some (4, l.map DVersion.enc)) :
    PFun Tryz.prog 85 [.c (.sl r q 4 0 l.length), .a [.v (.int .i64 a), .v (.int .i64 o)]] H (.a (readR l a o)) := by
  obtain ⟨R, hR⟩ : ∃ R, R = readR l a o := ⟨_, rfl⟩
  rw [← hR]
  refine PFun.of [0, 3, 4, 5, 17] Tryz.func85 rfl (by simp [Tryz.f85]) ?_
  intro d hd0 hfr hcl hout
  have hcd : ∀ n q, CleanH (hit [((d, n), q)]) H := fun n q => hcl.at
  have ha_n : ∀ n, ¬ (d, n) = r := fun n => nm_ne (ne_of_arr hfr ha)
  have ha_d : ¬ r.1 = d := ne_of_arr hfr ha
  have ha_m : ∀ n, ¬ r = (d, n) := fun n => nm_ne' (ne_of_arr hfr ha)
  simp (maxSteps := 4000000) [hd0, hfr, hout, hcl, hcd, delA_none, ha, ha_n, ha_d, ha_m, Tryz.f85]
  refine (impl_seen _ (a := a) (o := o) hb (by simp (maxSteps := 4000000) [hd0, hfr, hout, hcl, hcd, delA_none, ha, ha_n, ha_d, ha_m])).useCK ?_
  rcases idxF_find (visF a o) l with ⟨h1, h2⟩ | ⟨i, hi, h1, h2⟩
  · rw [h1]
    simp (maxSteps := 4000000) [hd0, hfr, hout, hcl, hcd, delA_none, ha, ha_n, ha_d, ha_m, hR, readR, readC, h2]
  · rw [h1]
    by_cases hg : l[i].gone = true
    · simp (maxSteps := 4000000) [hd0, hfr, hout, hcl, hcd, delA_none, ha, ha_n, ha_d, ha_m, hi, DVersion.enc, eq_false (show ¬ (i : Int) < 0 by omega), hg, hR, readR, readC, h2]
    · simp only [Bool.not_eq_true] at hg
      simp (maxSteps := 4000000) [hd0, hfr, hout, hcl, hcd, delA_none, ha, ha_n, ha_d, ha_m, hi, DVersion.enc, eq_false (show ¬ (i : Int) < 0 by omega), hg, hR, readR, readC, h2]
/-- a chain with a version of one's own on top; a code -/
def pushC (c : List DVersion) (o : Int) (g : Bool) (v : Int) : List DVersion := if openF c o = true then ⟨o, 0, g, v⟩ :: c.tail else ⟨o, 0, g, v⟩ :: c
def fullC (c : List DVersion) (o : Int) : Bool := !openF c o && decide (12 ≤ c.length)
theorem impl_viewCode (H : HH) {r q} {l : List DVersion} {a o : Int} (hb : l.length ≤ 1048576) (hc : chainF l = 0) (hav : inR a 0 1000000 = true) (hov : inR o 0 999 = true) (ha : arrAt H r q = some (4, l.map DVersion.enc)) :
    PFun Tryz.prog 184 [.c (.sl r q 4 0 l.length), .a [.v (.int .i64 a), .v (.int .i64 o)]] H (I 0) := by
  refine PFun.of [0, 3, 4, 5, 21] Tryz.func184 rfl (by simp [Tryz.f184]) ?_
  intro d hd0 hfr hcl hout
  have hcd : ∀ n q, CleanH (hit [((d, n), q)]) H := fun n q => hcl.at
  have ha_n : ∀ n, ¬ (d, n) = r := fun n => nm_ne (ne_of_arr hfr ha)
  have ha_d : ¬ r.1 = d := ne_of_arr hfr ha
  have ha_m : ∀ n, ¬ r = (d, n) := fun n => nm_ne' (ne_of_arr hfr ha)
  simp (maxSteps := 4000000) [hd0, hfr, hout, hcl, hcd, delA_none, ha, ha_n, ha_d, ha_m, Tryz.f184]
  refine (impl_ChainFault _ hb (by simp (maxSteps := 4000000) [hd0, hfr, hout, hcl, hcd, delA_none, ha, ha_n, ha_d, ha_m])).useCK ?_
  rw [hc]
  simp (maxSteps := 4000000) [hd0, hfr, hout, hcl, hcd, delA_none, ha, ha_n, ha_d, ha_m]
  refine (impl_isLsn _ _).useCK ?_
  rw [hav]
  simp (maxSteps := 4000000) [hd0, hfr, hout, hcl, hcd, delA_none, ha, ha_n, ha_d, ha_m]
  refine (impl_within _ _ _ _).useCK ?_
  rw [hov]
  simp (maxSteps := 4000000) [hd0, hfr, hout, hcl, hcd, delA_none, ha, ha_n, ha_d, ha_m]
theorem impl_MayWrite (H : HH) {r q} {l : List DVersion} {a o : Int} (hb : l.length ≤ 1048576) (hc : chainF l = 0) (hav : inR a 0 1000000 = true) (hov : inR o 1 999 = true) (hm : mayF l a o = true) (ha : arrAt H r q = some (4, l.map DVersion.enc)) :
    PFun Tryz.prog 185 [.c (.sl r q 4 0 l.length), .a [.v (.int .i64 a), .v (.int .i64 o)]] H (I 0) := by
  have h1 : inR o 0 999 = true := by simp [inR] at hov ⊢; omega
  have h2 : 0 ≤ a := by simp [inR] at hav; omega
  have h3 : ¬ o = 0 := by simp [inR] at hov; omega
  refine PFun.of [0, 3, 4, 5, 15, 17] Tryz.func185 rfl (by simp [Tryz.f185]) ?_
  intro d hd0 hfr hcl hout
  have hcd : ∀ n q, CleanH (hit [((d, n), q)]) H := fun n q => hcl.at
  have ha_n : ∀ n, ¬ (d, n) = r := fun n => nm_ne (ne_of_arr hfr ha)
  have ha_d : ¬ r.1 = d := ne_of_arr hfr ha
  have ha_m : ∀ n, ¬ r = (d, n) := fun n => nm_ne' (ne_of_arr hfr ha)
  simp (maxSteps := 4000000) [hd0, hfr, hout, hcl, hcd, delA_none, ha, ha_n, ha_d, ha_m, Tryz.f185]
  refine (impl_viewCode _ (a := a) (o := o) hb hc hav h1 (by simp (maxSteps := 4000000) [hd0, hfr, hout, hcl, hcd, delA_none, ha, ha_n, ha_d, ha_m])).useCK ?_
  simp (maxSteps := 4000000) [hd0, hfr, hout, hcl, hcd, delA_none, ha, ha_n, ha_d, ha_m, eq_false h3]
  refine (impl_mayWrite _ (a := a) (o := o) h2 (by simp (maxSteps := 4000000) [hd0, hfr, hout, hcl, hcd, delA_none, ha, ha_n, ha_d, ha_m])).useCK ?_
  rw [hm]
  simp (maxSteps := 4000000) [hd0, hfr, hout, hcl, hcd, delA_none, ha, ha_n, ha_d, ha_m]
theorem openF_may {c : List DVersion} {a o : Int} (hm : mayF c a o = true) : openF c o = (match c with | [] => false | v :: _ => decide (v.at_ = 0)) := by
  cases c with
  | nil => rfl
  | cons v l =>
    by_cases hz : v.at_ = 0
    · simp [mayF, hz] at hm; simp [openF, hz, hm]
    · simp [openF, hz]
set_option maxHeartbeats 4000000 in
theorem impl_PushVersion (H : HH) {r q} {l : List DVersion} {a o v : Int} {g : Bool} (hc : chainF l = 0) (hlen : l.length ≤ 12) (hav : inR a 0 1000000 = true) (hov : inR o 1 999 = true) (hm : mayF l a o = true) (hv : inR v 0 9999 = true) (hgv : g = true → v = 0) (ha : arrAt H r q = some (4, l.map DVersion.enc)) :
    PFun Tryz.prog 149 [.c (.sl r q 4 0 l.length), .a [.v (.int .i64 a), .v (.int .i64 o)], B g, I v] H (.a (if fullC l o = true then [.v (.int .i64 2), .own 4 []] else [.v (.int .i64 0), .own 4 ((pushC l o g v).map DVersion.enc)])) := by
  have h1 : inR o 0 999 = true := by simp [inR] at hov ⊢; omega
  have hb : l.length ≤ 1048576 := by omega
  obtain ⟨R, hR⟩ : ∃ R : T, R = .a (if fullC l o = true then [.v (.int .i64 2), .own 4 []] else [.v (.int .i64 0), .own 4 ((pushC l o g v).map DVersion.enc)]) := ⟨_, rfl⟩
  rw [← hR]
  have hop := openF_may hm
  refine PFun.of [0, 2, 3, 5, 8, 9, 10, 11, 18, 21, 25, 32, 49, 59] Tryz.func149 rfl (by simp [Tryz.f149]) ?_
  intro d hd0 hfr hcl hout
  have hcd : ∀ n q, CleanH (hit [((d, n), q)]) H := fun n q => hcl.at
  have ha_n : ∀ n, ¬ (d, n) = r := fun n => nm_ne (ne_of_arr hfr ha)
  have ha_d : ¬ r.1 = d := ne_of_arr hfr ha
  have ha_m : ∀ n, ¬ r = (d, n) := fun n => nm_ne' (ne_of_arr hfr ha)
  simp (maxSteps := 4000000) [hd0, hfr, hout, hcl, hcd, delA_none, ha, ha_n, ha_d, ha_m, Tryz.f149]
  refine (impl_viewCode _ (a := a) (o := o) hb hc hav h1 (by simp (maxSteps := 4000000) [hd0, hfr, hout, hcl, hcd, delA_none, ha, ha_n, ha_d, ha_m])).useCK ?_
  simp (maxSteps := 4000000) [hd0, hfr, hout, hcl, hcd, delA_none, ha, ha_n, ha_d, ha_m]
  refine (impl_isValue _ _).useCK ?_
  rw [hv]
  have hin := fun H' (h : arrAt H' r q = some (4, l.map DVersion.enc)) => impl_MayWrite H' (a := a) (o := o) hb hc hav hov hm h
  have hclone := fun H' (h : arrAt H' r q = some (4, l.map DVersion.enc)) => slices_Clone_Version H' (l := l) hb rfl h
  cases g with
  | true =>
    have hv0 : v = 0 := hgv rfl
    subst hv0
    simp (maxSteps := 4000000) [hd0, hfr, hout, hcl, hcd, delA_none, ha, ha_n, ha_d, ha_m]
    refine (hin _ (by simp (maxSteps := 4000000) [hd0, hfr, hout, hcl, hcd, delA_none, ha, ha_n, ha_d, ha_m])).useCK ?_
    cases l with
    | nil => simp (maxSteps := 4000000) [hd0, hfr, hout, hcl, hcd, delA_none, ha, ha_n, ha_d, ha_m, hR, fullC, openF, pushC, DVersion.enc]
    | cons w l =>
      simp only at hop
      by_cases hz : w.at_ = 0
      · simp [hz] at hop
        simp (maxSteps := 4000000) [hd0, hfr, hout, hcl, hcd, delA_none, ha, ha_n, ha_d, ha_m, eq_true (show (0 : Int) < (l.length : Int) + 1 by omega), DVersion.enc, hz]
        refine (hclone _ (by simp (maxSteps := 4000000) [hd0, hfr, hout, hcl, hcd, delA_none, ha, ha_n, ha_d, ha_m, DVersion.enc, hz])).useCK ?_
        simp (maxSteps := 4000000) [hd0, hfr, hout, hcl, hcd, delA_none, ha, ha_n, ha_d, ha_m, DVersion.enc, hR, fullC, hop, pushC]
      · simp [hz] at hop
        simp (maxSteps := 4000000) [hd0, hfr, hout, hcl, hcd, delA_none, ha, ha_n, ha_d, ha_m, eq_true (show (0 : Int) < (l.length : Int) + 1 by omega), DVersion.enc, eq_false hz]
        refine ⟨fun h12 => ?_, fun h12 => ⟨by simp at hlen; omega, ?_⟩⟩
        · have hf : fullC (w :: l) o = true := by simp [fullC, hop]; omega
          rw [hR, hf]; simp
        · have hf : fullC (w :: l) o = false := by simp [fullC, hop]; simp at hlen; omega
          rw [hR, hf]; simp [pushC, hop, DVersion.enc]
  | false =>
    simp (maxSteps := 4000000) [hd0, hfr, hout, hcl, hcd, delA_none, ha, ha_n, ha_d, ha_m]
    refine (hin _ (by simp (maxSteps := 4000000) [hd0, hfr, hout, hcl, hcd, delA_none, ha, ha_n, ha_d, ha_m])).useCK ?_
    cases l with
    | nil => simp (maxSteps := 4000000) [hd0, hfr, hout, hcl, hcd, delA_none, ha, ha_n, ha_d, ha_m, hR, fullC, openF, pushC, DVersion.enc]
    | cons w l =>
      simp only at hop
      by_cases hz : w.at_ = 0
      · simp [hz] at hop
        simp (maxSteps := 4000000) [hd0, hfr, hout, hcl, hcd, delA_none, ha, ha_n, ha_d, ha_m, eq_true (show (0 : Int) < (l.length : Int) + 1 by omega), DVersion.enc, hz]
        refine (hclone _ (by simp (maxSteps := 4000000) [hd0, hfr, hout, hcl, hcd, delA_none, ha, ha_n, ha_d, ha_m, DVersion.enc, hz])).useCK ?_
        simp (maxSteps := 4000000) [hd0, hfr, hout, hcl, hcd, delA_none, ha, ha_n, ha_d, ha_m, DVersion.enc, hR, fullC, hop, pushC]
      · simp [hz] at hop
        simp (maxSteps := 4000000) [hd0, hfr, hout, hcl, hcd, delA_none, ha, ha_n, ha_d, ha_m, eq_true (show (0 : Int) < (l.length : Int) + 1 by omega), DVersion.enc, eq_false hz]
        refine ⟨fun h12 => ?_, fun h12 => ⟨by simp at hlen; omega, ?_⟩⟩
        · have hf : fullC (w :: l) o = true := by simp [fullC, hop]; omega
          rw [hR, hf]; simp
        · have hf : fullC (w :: l) o = false := by simp [fullC, hop]; simp at hlen; omega
          rw [hR, hf]; simp [pushC, hop, DVersion.enc]
end Go.Proofs.YtnlbjfdmjlnlgaaGreat


namespace Go.Proofs.YtnlbjfdmjlnlgaaGreat
open Go Go.Px Go.RowKit Go.Proofs
set_option linter.unnecessarySimpa false
set_option linter.unusedVariables false
set_option linter.unusedSimpArgs false
set_option maxRecDepth 100000
set_option maxHeartbeats 1000000
attribute [-simp] Int.not_le Int.not_lt
theorem outF_put {l : List DRow} {k : Int} {c : List DVersion} (hs : sortedR l) (hc : c.length ≠ 0) (hf : foundR l k = false) : outF k c l = l.take (rowP l k) ++ ⟨k, c⟩ :: l.drop (rowP l k) := by
  obtain ⟨h1, h2, h3⟩ := rowP_spec (k := k) l
  have hA : ∀ r ∈ l.take (rowP l k), r.key < k := fun r hr => by
    obtain ⟨j, hj, rfl⟩ := List.getElem_of_mem hr
    rw [List.getElem_take]
    rw [List.length_take] at hj
    exact h2 j (by omega) (by omega)
  have hB : ∀ r ∈ l.drop (rowP l k), k < r.key := fun r hr => by
    obtain ⟨j, hj, rfl⟩ := List.getElem_of_mem hr
    rw [List.getElem_drop]
    rw [List.length_drop] at hj
    have hp : rowP l k < l.length := by omega
    have h4 := h3 hp
    have h5 : l[rowP l k].key ≠ k := fun e => by
      unfold foundR at hf
      rw [List.getElem?_eq_getElem hp] at hf
      simp [e] at hf
    rcases Nat.eq_zero_or_pos j with rfl | hj0
    · simp only [Nat.add_zero]; omega
    · have := hs (rowP l k) (rowP l k + j) (by omega) (by omega)
      omega
  have e1 : ∀ q : DRow → Bool, l.filter q = (l.take (rowP l k)).filter q ++ (l.drop (rowP l k)).filter q := fun q => by
    conv => lhs; rw [← List.take_append_drop (rowP l k) l]
    rw [List.filter_append]
  unfold outF
  rw [if_neg hc, e1, e1]
  rw [List.filter_eq_self.2 (fun r hr => by have := hA r hr; simpa using this), List.filter_eq_nil_iff.2 (fun r hr => by have := hB r hr; simp; omega), List.filter_eq_nil_iff.2 (fun r hr => by have := hA r hr; simp; omega), List.filter_eq_self.2 (fun r hr => by have := hB r hr; simpa using this)]
  simp
set_option maxHeartbeats 4000000 in
theorem impl_Engine_setChainP (H : HH) {r y} {x : DEngine} {k : Int} {v : DVersion} {c : List DVersion} (hl : x.le 1048576) (hs : sortedR x.rows) (hk : kOk k) (hks : keysOk x.rows) (hcb : (v :: c).length ≤ 1048576)
    (hy : y = { x with rows := outF k (v :: c) x.rows }) (hr0 : r.1 ≠ 0) (hrc : ∀ q, CleanH (hit [(r, q)]) H) :
    PUpdW Tryz.prog 128 [.c (.pt r [] 4 0 0), I k, .c (.own 4 ((v :: c).map DVersion.enc))] ((r, .own 4 [x.enc]) :: H) (.t []) ((r, .own 4 [y.enc]) :: H) r (fun q => q.head? = some (0, 3)) := by
  by_cases hf : foundR x.rows k = true
  · obtain ⟨hp, hk'⟩ := foundR_key hf
    exact impl_Engine_setChainW H hl hs hk hks hp hk' hcb (by rw [hy, setC_outF hs hf]) hr0 hrc
  simp only [Bool.not_eq_true] at hf
  rw [outF_put hs (by simp) hf] at hy
  obtain ⟨h1, -, -⟩ := rowP_spec (k := k) x.rows
  obtain ⟨⟨b1, b1p⟩, b2, b2p⟩ := hl
  have hrow := fun H' r2 q2 rows2 c0 c1 n1 q => impl_Engine_row H' (r1 := r) (q1 := q) (r2 := r2) (q2 := q2) (rows2 := rows2) (c0 := c0) (c1 := c1) (n1 := n1) b2 hs hk hks
  rw [hf] at hrow
  have hins := fun (H' : HH) (row : List Cell) (hr : row.length = 2) => slices_Insert_Row H' (els := x.rows.map DRow.enc) (row := row) (i := rowP x.rows k) (by simpa using h1) (by simpa using b2) hr (fun row hr => by obtain ⟨x, -, rfl⟩ := List.mem_map.1 hr; rfl)
  generalize rowP x.rows k = p at *
  refine PUpdWB2.of [0, 1, 2, 6, 7, 16, 34, 44] Tryz.func128 rfl (by simp [Tryz.f128]) ?_
  intro d hd0 hfr0 hcl0 hout0
  have hrn : ∀ n, ¬ r = (d, n) := fun n h => by have := hfr0 n; rw [look_cons, if_pos h] at this; cases this
  have hrm : ∀ n, ¬ (d, n) = r := fun n h => hrn n h.symm
  have hrd : ¬ r.1 = d := fun h => hrn r.2 (by rw [← h])
  have hfr : ∀ n, Px.look H (d, n) = none := fun n => by have := hfr0 n; rwa [look_cons, if_neg (hrn n)] at this
  have hcl : CleanH (atD d) H := ((CleanH_cons _ _ _ _).1 hcl0).2
  have hout : outH d H = H := by have := hout0; rw [outH_cons, if_neg hrd] at this; exact (List.cons.inj this).2
  have hcd : ∀ n q, CleanH (hit [((d, n), q)]) H := fun n q => hcl.at
  clear hfr0 hcl0 hout0
  simp (maxSteps := 4000000) [hd0, hfr, hout, hcl, hcd, delA_none, hrn, hrm, hrd, hr0, hrc, Tryz.f128, DEngine.enc]
  refine (hrow _ r [(0, 2)] (x.txns.map DTxn.enc) _ _ _ _ (by simp (maxSteps := 4000000) [hd0, hfr, hout, hcl, hcd, delA_none, hrn, hrm, hrd, hr0, hrc]) (by simp (maxSteps := 4000000) [hd0, hfr, hout, hcl, hcd, delA_none, hrn, hrm, hrd, hr0, hrc])).useCK ?_
  simp (maxSteps := 4000000) [hd0, hfr, hout, hcl, hcd, delA_none, hrn, hrm, hrd, hr0, hrc, eq_true (show (0 : Int) < (c.length : Int) + 1 by omega)]
  refine PFun.takeNK (i := 0) (r := r) (q := [(0, 3)]) (z := 2) (els := x.rows.map DRow.enc) (co := .own 4 [[.v (.int .i64 x.next), .v (.int .i64 x.clock), .own 5 (x.txns.map DTxn.enc), .own 2 (x.rows.map DRow.enc)]]) (h := hins _ _ rfl) (by simp) hr0 hrd (by simp) (by simp [look_cons]) (by simp [Cell.get]) (by simp (maxSteps := 4000000) [hd0, hfr, hout, hcl, hcd, delA_none, hrn, hrm, hrd, hr0, hrc]) (by simp (maxSteps := 4000000) [hd0, hfr, hout, hcl, hcd, delA_none, hrn, hrm, hrd, hr0, hrc]) (by simp (maxSteps := 4000000) [hd0, hfr, hout, hcl, hcd, delA_none, hrn, hrm, hrd, hr0, hrc]) ?_
  simp (maxSteps := 4000000) [hd0, hfr, hout, hcl, hcd, delA_none, hrn, hrm, hrd, hr0, hrc, hy, DRow.enc]
end Go.Proofs.YtnlbjfdmjlnlgaaGreat


namespace Go.Proofs.YtnlbjfdmjlnlgaaGreat
open Go Go.Px Go.RowKit Go.Proofs
set_option linter.unnecessarySimpa false
set_option linter.unusedVariables false
set_option linter.unusedSimpArgs false
set_option maxRecDepth 100000
set_option maxHeartbeats 1000000
attribute [-simp] Int.not_le Int.not_lt
def undoOf (c : List DVersion) (k o : Int) : DUndo := if openF c o = true then (match c with | [] => ⟨k, true, false, 0⟩ | v :: _ => ⟨k, true, v.gone, v.value⟩) else ⟨k, false, false, 0⟩
def wroteE (x : DEngine) (ix : Nat) (t : DTxn) (k : Int) (g : Bool) (v : Int) : DEngine := { x with txns := x.txns.set ix { t with undos := t.undos ++ [undoOf (chainR x.rows k) k t.id_] }, rows := outF k (pushC (chainR x.rows k) t.id_ g v) x.rows }
/-- a version written by an open transaction: a code, and what comes of it -/
def writeF (x : DEngine) (ix : Nat) (t : DTxn) (k : Int) (g : Bool) (v : Int) : Int × DEngine :=
  if mayF (chainR x.rows k) t.at_ t.id_ = false then (9, x) else
  if t.undos.length = 60 then (2, x) else
  if fullC (chainR x.rows k) t.id_ = true then (2, x) else (0, wroteE x ix t k g v)
theorem pushC_cons {c : List DVersion} {o v : Int} {g : Bool} : ∃ w l, pushC c o g v = w :: l := by
  unfold pushC; split <;> exact ⟨_, _, rfl⟩
theorem pushC_len {c : List DVersion} {o v : Int} {g : Bool} : (pushC c o g v).length ≤ c.length + 1 := by
  unfold pushC; split <;> simp
set_option maxHeartbeats 8000000 in
theorem impl_Engine_write (H : HH) {r y cd} {ix : Nat} {x : DEngine} {k v : Int} {g : Bool} (hl : x.le 1048576) (e0 : engF x = 0) (hix : ix < x.txns.length) (hk : inR k 0 31 = true) (hv : inR v 0 9999 = true) (hgv : g = true → v = 0)
    (hy : writeF x ix x.txns[ix] k g v = (cd, y)) (hr0 : r.1 ≠ 0) (hrc : ∀ q, CleanH (hit [(r, q)]) H) :
    PUpdW Tryz.prog 81 [.c (.pt r [] 4 0 0), .c (.pt r [(0, 2)] 5 ix 0), I k, B g, I v] ((r, .own 4 [x.enc]) :: H) (I cd) ((r, .own 4 [y.enc]) :: H) r (rollW ix) := by
  have hl2 := hl
  obtain ⟨⟨b1, b1p⟩, b2, b2p⟩ := hl2
  have hkk : kOk k := by simp [inR] at hk; exact hk
  obtain ⟨hrows, hlen32⟩ := engF_rows e0
  obtain ⟨hks, hso, -⟩ := rowsF_sorted hrows
  have hcb : ∀ r ∈ x.rows, chainF r.chain = 0 := rowsF_chain hrows
  obtain ⟨t, ht⟩ : ∃ t, t = x.txns[ix] := ⟨_, rfl⟩
  rw [← ht] at hy
  have htx := engF_txns e0
  obtain ⟨⟨hn1, hn2⟩, hcl1, hcl2⟩ := engF_clock e0
  obtain ⟨hrng, hund, -⟩ := txsF_get htx t (by rw [ht]; exact List.getElem_mem hix)
  have hat : inR t.at_ 0 1000000 = true := by simp [tRange, inR] at hrng ⊢; omega
  have hid : inR t.id_ 1 999 = true := by simp [tRange, inR] at hrng ⊢; omega
  have hat0 : 0 ≤ t.at_ := by simp [inR] at hat; omega
  have hu60 : t.undos.length ≤ 60 := by unfold undosF at hund; split at hund <;> omega
  have hte : t.enc = [.v (.int .i64 t.id_), .v (.int .i64 t.at_), .v (.int .i64 t.state), .v (.int .i64 t.done), .own 4 (t.undos.map DUndo.enc)] := rfl
  have hch := fun H' h1 h2 => impl_Engine_chain H' (r1 := r) (q1 := [(0, 3)]) (r2 := r) (q2 := [(0, 2)]) (rows2 := x.txns.map DTxn.enc) (c0 := x.next) (c1 := x.clock) (n1 := x.txns.length) (k := k) b2 hso hkk hks h1 h2
  by_cases hf : foundR x.rows k = true
  · obtain ⟨hp, hpk⟩ := foundR_key hf
    have hcR : chainR x.rows k = x.rows[rowP x.rows k].chain := by
      unfold chainR; rw [if_pos hf, List.getD_eq_getElem?_getD, List.getElem?_eq_getElem hp]; rfl
    have hcF : chainF (chainR x.rows k) = 0 := by rw [hcR]; exact hcb _ (List.getElem_mem hp)
    have hT : chainT r [(0, 3)] x.rows k = .c (.sl r [(0, 3), (rowP x.rows k, 1)] 4 0 (chainR x.rows k).length) := by unfold chainT; rw [if_pos hf]; rfl
    rw [hT] at hch
    clear hT
    generalize rowP x.rows k = p at *
    have hcl12 : (chainR x.rows k).length ≤ 12 := by unfold chainF at hcF; split at hcF <;> omega
    generalize hc : chainR x.rows k = c at *
    refine PUpdW.of [0, 1, 2, 3, 4, 10, 11, 12, 13, 19, 27, 44, 54] Tryz.func81 rfl (by simp [Tryz.f81]) ?_
    intro d hd0 hfr0 hcl0 hout0
    have hrn : ∀ n, ¬ r = (d, n) := fun n h => by have := hfr0 n; rw [look_cons, if_pos h] at this; cases this
    have hrm : ∀ n, ¬ (d, n) = r := fun n h => hrn n h.symm
    have hrd : ¬ r.1 = d := fun h => hrn r.2 (by rw [← h])
    have hfr : ∀ n, Px.look H (d, n) = none := fun n => by have := hfr0 n; rwa [look_cons, if_neg (hrn n)] at this
    have hcl : CleanH (atD d) H := ((CleanH_cons _ _ _ _).1 hcl0).2
    have hout : outH d H = H := by have := hout0; rw [outH_cons, if_neg hrd] at this; exact (List.cons.inj this).2
    have hcd : ∀ n q, CleanH (hit [((d, n), q)]) H := fun n q => hcl.at
    clear hfr0 hcl0 hout0
    simp (maxSteps := 4000000) [hd0, hfr, hout, hcl, hcd, delA_none, hrn, hrm, hrd, hr0, hrc, Tryz.f81, DEngine.enc]
    refine (hch _ (by simp (maxSteps := 4000000) [hd0, hfr, hout, hcl, hcd, delA_none, hrn, hrm, hrd, hr0, hrc]) (by simp (maxSteps := 4000000) [hd0, hfr, hout, hcl, hcd, delA_none, hrn, hrm, hrd, hr0, hrc])).useCK ?_
    simp (maxSteps := 4000000) [hd0, hfr, hout, hcl, hcd, delA_none, hrn, hrm, hrd, hr0, hrc, hix, ← ht, hte]
    refine (impl_Txn_view _).useCK ?_
    simp (maxSteps := 4000000) [hd0, hfr, hout, hcl, hcd, delA_none, hrn, hrm, hrd, hr0, hrc]
    refine (impl_mayWrite _ (l := c) hat0 (by simp (maxSteps := 4000000) [hd0, hfr, hout, hcl, hcd, delA_none, hrn, hrm, hrd, hr0, hrc, hp, DRow.enc, ← hcR])).useCK ?_
    unfold writeF at hy
    rw [hc] at hy
    cases hm : mayF c t.at_ t.id_ with
    | false =>
      rw [if_pos hm] at hy
      obtain ⟨rfl, rfl⟩ := Prod.mk.inj hy
      simp (maxSteps := 4000000) [hd0, hfr, hout, hcl, hcd, delA_none, hrn, hrm, hrd, hr0, hrc, hm, hix]
    | true =>
    rw [if_neg (by simp [hm])] at hy
    simp (maxSteps := 4000000) [hd0, hfr, hout, hcl, hcd, delA_none, hrn, hrm, hrd, hr0, hrc, hm, hix, ← ht, hte]
    by_cases hu : t.undos.length = 60
    · rw [if_pos hu] at hy
      obtain ⟨rfl, rfl⟩ := Prod.mk.inj hy
      simp (maxSteps := 4000000) [hd0, hfr, hout, hcl, hcd, delA_none, hrn, hrm, hrd, hr0, hrc, hu]
    rw [if_neg hu] at hy
    simp (maxSteps := 4000000) [hd0, hfr, hout, hcl, hcd, delA_none, hrn, hrm, hrd, hr0, hrc, eq_false (show ¬ (t.undos.length : Int) = 60 by omega), hix, ← ht, hte]
    refine (impl_Txn_view _).useCK ?_
    simp (maxSteps := 4000000) [hd0, hfr, hout, hcl, hcd, delA_none, hrn, hrm, hrd, hr0, hrc]
    refine (impl_PushVersion _ (l := c) hcF hcl12 hat hid hm hv hgv (by simp (maxSteps := 4000000) [hd0, hfr, hout, hcl, hcd, delA_none, hrn, hrm, hrd, hr0, hrc, hp, DRow.enc, ← hcR])).useCK ?_
    cases hfu : fullC c t.id_ with
    | true =>
      rw [if_pos hfu] at hy
      obtain ⟨rfl, rfl⟩ := Prod.mk.inj hy
      simp (maxSteps := 4000000) [hd0, hfr, hout, hcl, hcd, delA_none, hrn, hrm, hrd, hr0, hrc, hfu]
    | false =>
    rw [if_neg (by simp [hfu])] at hy
    obtain ⟨rfl, rfl⟩ := Prod.mk.inj hy
    obtain ⟨nv, nl, hnv⟩ := pushC_cons (c := c) (o := t.id_) (v := v) (g := g)
    have hnlen := pushC_len (c := c) (o := t.id_) (v := v) (g := g)
    rw [hnv] at hnlen
    replace hnlen : (nv :: nl).length ≤ 13 := by (try simp only [List.length_nil] at hnlen); omega
    simp (maxSteps := 4000000) [hd0, hfr, hout, hcl, hcd, delA_none, hrn, hrm, hrd, hr0, hrc, hfu, hnv, hix, ← ht, hte]
    refine (impl_isOpenOf _ (l := c) (by simp (maxSteps := 4000000) [hd0, hfr, hout, hcl, hcd, delA_none, hrn, hrm, hrd, hr0, hrc, hp, DRow.enc, ← hcR])).useCK ?_
    have hset := fun (H' : HH) (T : List DTxn) (hT : T.length ≤ 1048576 ∧ ∀ y ∈ T, DTxn.le 1048576 y) h1 => impl_Engine_setChainP H' (r := r) (x := ⟨x.next, x.clock, T, x.rows⟩) (k := k) (v := nv) (c := nl) ⟨hT, b2, b2p⟩ hso hkk hks (by omega) rfl hr0 h1
    cases ho : openF c t.id_ with
    | true =>
      simp (maxSteps := 4000000) [hd0, hfr, hout, hcl, hcd, delA_none, hrn, hrm, hrd, hr0, hrc]
      obtain ⟨w, cl, rfl, hw1, hw2⟩ := openF_cons ho
      refine DrawK.intro 10 [0, 1, 2, 12, 13, 64] rfl (by kernel_rfl) (by decide) ?_
      simp (maxSteps := 4000000) [hd0, hfr, hout, hcl, hcd, delA_none, hrn, hrm, hrd, hr0, hrc, hp, DRow.enc, ← hcR, DVersion.enc]
      refine DrawK.introF 7 [0, 2, 12, 65, 69, 71] rfl (by decide) (by kernel_rfl) (by kernel_rfl) (by decide) ?_
      simp (maxSteps := 4000000) [hd0, hfr, hout, hcl, hcd, delA_none, hrn, hrm, hrd, hr0, hrc, hix, ← ht, hte, DUndo.enc]
      refine ⟨by omega, ?_⟩
      have hTle : (x.txns.set ix { t with undos := t.undos ++ [⟨k, true, w.gone, w.value⟩] }).length ≤ 1048576 ∧ ∀ y ∈ x.txns.set ix { t with undos := t.undos ++ [⟨k, true, w.gone, w.value⟩] }, DTxn.le 1048576 y := by
        refine ⟨by simpa using b1, fun y hy => ?_⟩
        rcases List.mem_or_eq_of_mem_set hy with h | rfl
        · exact b1p y h
        · show (t.undos ++ [_]).length ≤ 1048576
          simp; omega
      have hs1 := (hset (((d, 13), .own 4 [[.v (.int .i64 k), .v (.bool true), .v (.bool w.gone), .v (.int .i64 w.value)]]) :: ((d, 12), .own 2 [[.v (.int .i64 0), .x]]) :: H) _ hTle (fun q => by simp (maxSteps := 4000000) [hd0, hfr, hout, hcl, hcd, delA_none, hrn, hrm, hrd, hr0, hrc, hit, hit1]))
      have hs2 := PUpdW.past (L := [((d, 13), .own 4 [[.v (.int .i64 k), .v (.bool true), .v (.bool w.gone), .v (.int .i64 w.value)]]), ((d, 12), .own 2 [[.v (.int .i64 0), .x]])]) (H := H) (by simpa using ⟨hrm 13, hrm 12⟩) hs1
      simp only [DEngine.enc, List.map_set, List.map_append, List.cons_append, List.nil_append] at hs2
      refine hs2.takeNKo (i := 2) (r := (d, 12)) (q0 := [(0, 1)]) (i0 := 0) (n := nl.length + 1) (els := (nv :: nl).map DVersion.enc) (co := .own 2 [[.v (.int .i64 0), .own 4 ((nv :: nl).map DVersion.enc)]]) (by simp [cutD, DVersion.enc]) (by simp (maxSteps := 4000000) [hd0, hfr, hout, hcl, hcd, delA_none, hrn, hrm, hrd, hr0, hrc, DTxn.enc, DUndo.enc, putH_cons, Cell.set]) hd0 rfl rfl (by simp) hrd (by simp [look_cons, DVersion.enc]) (by simp [Cell.get]) (by simp) (by simp (maxSteps := 4000000) [hd0, hfr, hout, hcl, hcd, delA_none, hrn, hrm, hrd, hr0, hrc, hit, hit1]) (by simp (maxSteps := 4000000) [hd0, hfr, hout, hcl, hcd, delA_none, hrn, hrm, hrd, hr0, hrc, hit, hit1]) (by simp (maxSteps := 4000000) [hd0, hfr, hout, hcl, hcd, delA_none, hrn, hrm, hrd, hr0, hrc, hit, hit1]) (headA fun q => by simp (maxSteps := 4000000) [hd0, hfr, hout, hcl, hcd, delA_none, hrn, hrm, hrd, hr0, hrc, hit, hit1]) (headA fun q => by simp (maxSteps := 4000000) [hd0, hfr, hout, hcl, hcd, delA_none, hrn, hrm, hrd, hr0, hrc, hit, hit1]) (fun lg hlg => ?_)
      simp (maxSteps := 4000000) [hd0, hfr, hout, hcl, hcd, delA_none, hrn, hrm, hrd, hr0, hrc, hit, hit1]
      rw [show wroteE x ix t k g v = ⟨x.next, x.clock, x.txns.set ix { t with undos := t.undos ++ [⟨k, true, w.gone, w.value⟩] }, outF k (nv :: nl) x.rows⟩ from by unfold wroteE undoOf; rw [hc]; simp [ho, hnv]]
      refine ⟨⟨rfl, rfl, by simp [List.map_set], rfl⟩, ?_⟩
      rintro a b q (h | ⟨h, rfl⟩)
      · exact ⟨(hlg _ h).1, .inr (hlg _ h).2⟩
      · exact ⟨h, .inl rfl⟩
    | false =>
      simp (maxSteps := 4000000) [hd0, hfr, hout, hcl, hcd, delA_none, hrn, hrm, hrd, hr0, hrc]
      refine DrawK.introF 7 [0, 2, 12, 65, 69, 71] rfl (by decide) (by kernel_rfl) (by kernel_rfl) (by decide) ?_
      simp (maxSteps := 4000000) [hd0, hfr, hout, hcl, hcd, delA_none, hrn, hrm, hrd, hr0, hrc, hix, ← ht, hte, DUndo.enc]
      refine ⟨by omega, ?_⟩
      have hTle : (x.txns.set ix { t with undos := t.undos ++ [⟨k, false, false, 0⟩] }).length ≤ 1048576 ∧ ∀ y ∈ x.txns.set ix { t with undos := t.undos ++ [⟨k, false, false, 0⟩] }, DTxn.le 1048576 y := by
        refine ⟨by simpa using b1, fun y hy => ?_⟩
        rcases List.mem_or_eq_of_mem_set hy with h | rfl
        · exact b1p y h
        · show (t.undos ++ [_]).length ≤ 1048576
          simp; omega
      have hs1 := (hset (((d, 13), .own 4 [[.v (.int .i64 k), .v (.bool false), .v (.bool false), .v (.int .i64 0)]]) :: ((d, 12), .own 2 [[.v (.int .i64 0), .x]]) :: H) _ hTle (fun q => by simp (maxSteps := 4000000) [hd0, hfr, hout, hcl, hcd, delA_none, hrn, hrm, hrd, hr0, hrc, hit, hit1]))
      have hs2 := PUpdW.past (L := [((d, 13), .own 4 [[.v (.int .i64 k), .v (.bool false), .v (.bool false), .v (.int .i64 0)]]), ((d, 12), .own 2 [[.v (.int .i64 0), .x]])]) (H := H) (by simpa using ⟨hrm 13, hrm 12⟩) hs1
      simp only [DEngine.enc, List.map_set, List.map_append, List.cons_append, List.nil_append] at hs2
      refine hs2.takeNKo (i := 2) (r := (d, 12)) (q0 := [(0, 1)]) (i0 := 0) (n := nl.length + 1) (els := (nv :: nl).map DVersion.enc) (co := .own 2 [[.v (.int .i64 0), .own 4 ((nv :: nl).map DVersion.enc)]]) (by simp [cutD, DVersion.enc]) (by simp (maxSteps := 4000000) [hd0, hfr, hout, hcl, hcd, delA_none, hrn, hrm, hrd, hr0, hrc, DTxn.enc, DUndo.enc, putH_cons, Cell.set]) hd0 rfl rfl (by simp) hrd (by simp [look_cons, DVersion.enc]) (by simp [Cell.get]) (by simp) (by simp (maxSteps := 4000000) [hd0, hfr, hout, hcl, hcd, delA_none, hrn, hrm, hrd, hr0, hrc, hit, hit1]) (by simp (maxSteps := 4000000) [hd0, hfr, hout, hcl, hcd, delA_none, hrn, hrm, hrd, hr0, hrc, hit, hit1]) (by simp (maxSteps := 4000000) [hd0, hfr, hout, hcl, hcd, delA_none, hrn, hrm, hrd, hr0, hrc, hit, hit1]) (headA fun q => by simp (maxSteps := 4000000) [hd0, hfr, hout, hcl, hcd, delA_none, hrn, hrm, hrd, hr0, hrc, hit, hit1]) (headA fun q => by simp (maxSteps := 4000000) [hd0, hfr, hout, hcl, hcd, delA_none, hrn, hrm, hrd, hr0, hrc, hit, hit1]) (fun lg hlg => ?_)
      simp (maxSteps := 4000000) [hd0, hfr, hout, hcl, hcd, delA_none, hrn, hrm, hrd, hr0, hrc, hit, hit1]
      rw [show wroteE x ix t k g v = ⟨x.next, x.clock, x.txns.set ix { t with undos := t.undos ++ [⟨k, false, false, 0⟩] }, outF k (nv :: nl) x.rows⟩ from by unfold wroteE undoOf; rw [hc]; simp [ho, hnv]]
      refine ⟨⟨rfl, rfl, by simp [List.map_set], rfl⟩, ?_⟩
      rintro a b q (h | ⟨h, rfl⟩)
      · exact ⟨(hlg _ h).1, .inr (hlg _ h).2⟩
      · exact ⟨h, .inl rfl⟩
  · simp only [Bool.not_eq_true] at hf
    have hc : chainR x.rows k = [] := by unfold chainR; rw [if_neg (by simp [hf])]
    have hT : chainT r [(0, 3)] x.rows k = .c (.own 4 []) := by unfold chainT; rw [if_neg (by simp [hf])]
    rw [hT] at hch
    clear hT
    refine PUpdW.of [0, 1, 2, 3, 4, 10, 11, 12, 13, 19, 27, 44, 54] Tryz.func81 rfl (by simp [Tryz.f81]) ?_
    intro d hd0 hfr0 hcl0 hout0
    have hrn : ∀ n, ¬ r = (d, n) := fun n h => by have := hfr0 n; rw [look_cons, if_pos h] at this; cases this
    have hrm : ∀ n, ¬ (d, n) = r := fun n h => hrn n h.symm
    have hrd : ¬ r.1 = d := fun h => hrn r.2 (by rw [← h])
    have hfr : ∀ n, Px.look H (d, n) = none := fun n => by have := hfr0 n; rwa [look_cons, if_neg (hrn n)] at this
    have hcl : CleanH (atD d) H := ((CleanH_cons _ _ _ _).1 hcl0).2
    have hout : outH d H = H := by have := hout0; rw [outH_cons, if_neg hrd] at this; exact (List.cons.inj this).2
    have hcd : ∀ n q, CleanH (hit [((d, n), q)]) H := fun n q => hcl.at
    clear hfr0 hcl0 hout0
    simp (maxSteps := 4000000) [hd0, hfr, hout, hcl, hcd, delA_none, hrn, hrm, hrd, hr0, hrc, hrn, hrm, hrd, hr0, hrc, Tryz.f81, DEngine.enc]
    refine (hch _ (by simp (maxSteps := 4000000) [hd0, hfr, hout, hcl, hcd, delA_none, hrn, hrm, hrd, hr0, hrc, hrn, hrm, hrd, hr0, hrc]) (by simp (maxSteps := 4000000) [hd0, hfr, hout, hcl, hcd, delA_none, hrn, hrm, hrd, hr0, hrc, hrn, hrm, hrd, hr0, hrc])).useCK ?_
    simp (maxSteps := 4000000) [hd0, hfr, hout, hcl, hcd, delA_none, hrn, hrm, hrd, hr0, hrc, hrn, hrm, hrd, hr0, hrc, hix, ← ht, hte]
    refine (impl_Txn_view _).useCK ?_
    simp (maxSteps := 4000000) [hd0, hfr, hout, hcl, hcd, delA_none, hrn, hrm, hrd, hr0, hrc, hrn, hrm, hrd, hr0, hrc]
    refine (impl_mayWrite _ (l := []) hat0 (by simp (maxSteps := 4000000) [hd0, hfr, hout, hcl, hcd, delA_none, hrn, hrm, hrd, hr0, hrc, hrn, hrm, hrd, hr0, hrc])).useCK ?_
    unfold writeF at hy
    rw [hc] at hy
    cases hm : mayF [] t.at_ t.id_ with
    | false =>
      rw [if_pos hm] at hy
      obtain ⟨rfl, rfl⟩ := Prod.mk.inj hy
      simp (maxSteps := 4000000) [hd0, hfr, hout, hcl, hcd, delA_none, hrn, hrm, hrd, hr0, hrc, hrn, hrm, hrd, hr0, hrc, hm, hix]
    | true =>
    rw [if_neg (by simp [hm])] at hy
    simp (maxSteps := 4000000) [hd0, hfr, hout, hcl, hcd, delA_none, hrn, hrm, hrd, hr0, hrc, hrn, hrm, hrd, hr0, hrc, hm, hix, ← ht, hte]
    by_cases hu : t.undos.length = 60
    · rw [if_pos hu] at hy
      obtain ⟨rfl, rfl⟩ := Prod.mk.inj hy
      simp (maxSteps := 4000000) [hd0, hfr, hout, hcl, hcd, delA_none, hrn, hrm, hrd, hr0, hrc, hrn, hrm, hrd, hr0, hrc, hu]
    rw [if_neg hu] at hy
    simp (maxSteps := 4000000) [hd0, hfr, hout, hcl, hcd, delA_none, hrn, hrm, hrd, hr0, hrc, hrn, hrm, hrd, hr0, hrc, eq_false (show ¬ (t.undos.length : Int) = 60 by omega), hix, ← ht, hte]
    refine (impl_Txn_view _).useCK ?_
    simp (maxSteps := 4000000) [hd0, hfr, hout, hcl, hcd, delA_none, hrn, hrm, hrd, hr0, hrc, hrn, hrm, hrd, hr0, hrc]
    refine (impl_PushVersion _ (l := []) (by rfl) (by simp) hat hid hm hv hgv (by simp (maxSteps := 4000000) [hd0, hfr, hout, hcl, hcd, delA_none, hrn, hrm, hrd, hr0, hrc, hrn, hrm, hrd, hr0, hrc])).useCK ?_
    cases hfu : fullC [] t.id_ with
    | true =>
      rw [if_pos hfu] at hy
      obtain ⟨rfl, rfl⟩ := Prod.mk.inj hy
      simp (maxSteps := 4000000) [hd0, hfr, hout, hcl, hcd, delA_none, hrn, hrm, hrd, hr0, hrc, hrn, hrm, hrd, hr0, hrc, hfu]
    | false =>
    rw [if_neg (by simp [hfu])] at hy
    obtain ⟨rfl, rfl⟩ := Prod.mk.inj hy
    obtain ⟨nv, nl, hnv⟩ := pushC_cons (c := []) (o := t.id_) (v := v) (g := g)
    have hnlen := pushC_len (c := []) (o := t.id_) (v := v) (g := g)
    rw [hnv] at hnlen
    replace hnlen : (nv :: nl).length ≤ 13 := by (try simp only [List.length_nil] at hnlen); omega
    simp (maxSteps := 4000000) [hd0, hfr, hout, hcl, hcd, delA_none, hrn, hrm, hrd, hr0, hrc, hrn, hrm, hrd, hr0, hrc, hfu, hnv, hix, ← ht, hte]
    refine (impl_isOpenOf _ (l := []) (by simp (maxSteps := 4000000) [hd0, hfr, hout, hcl, hcd, delA_none, hrn, hrm, hrd, hr0, hrc, hrn, hrm, hrd, hr0, hrc])).useCK ?_
    have hset := fun (H' : HH) (T : List DTxn) (hT : T.length ≤ 1048576 ∧ ∀ y ∈ T, DTxn.le 1048576 y) h1 => impl_Engine_setChainP H' (r := r) (x := ⟨x.next, x.clock, T, x.rows⟩) (k := k) (v := nv) (c := nl) ⟨hT, b2, b2p⟩ hso hkk hks (by omega) rfl hr0 h1
    have ho : openF ([] : List DVersion) t.id_ = false := rfl
    rw [ho]
    simp (maxSteps := 4000000) [hd0, hfr, hout, hcl, hcd, delA_none, hrn, hrm, hrd, hr0, hrc, hrn, hrm, hrd, hr0, hrc]
    refine DrawK.introF 7 [0, 2, 12, 65, 69, 71] rfl (by decide) (by kernel_rfl) (by kernel_rfl) (by decide) ?_
    simp (maxSteps := 4000000) [hd0, hfr, hout, hcl, hcd, delA_none, hrn, hrm, hrd, hr0, hrc, hrn, hrm, hrd, hr0, hrc, hix, ← ht, hte, DUndo.enc]
    refine ⟨by omega, ?_⟩
    have hTle : (x.txns.set ix { t with undos := t.undos ++ [⟨k, false, false, 0⟩] }).length ≤ 1048576 ∧ ∀ y ∈ x.txns.set ix { t with undos := t.undos ++ [⟨k, false, false, 0⟩] }, DTxn.le 1048576 y := by
      refine ⟨by simpa using b1, fun y hy => ?_⟩
      rcases List.mem_or_eq_of_mem_set hy with h | rfl
      · exact b1p y h
      · show (t.undos ++ [_]).length ≤ 1048576
        simp; omega
    have hs1 := (hset (((d, 13), .own 4 [[.v (.int .i64 k), .v (.bool false), .v (.bool false), .v (.int .i64 0)]]) :: ((d, 12), .own 2 [[.v (.int .i64 0), .x]]) :: ((d, 11), .own 4 []) :: H) _ hTle (fun q => by simp (maxSteps := 4000000) [hd0, hfr, hout, hcl, hcd, delA_none, hrn, hrm, hrd, hr0, hrc, hrn, hrm, hrd, hr0, hrc, hit, hit1]))
    have hs2 := PUpdW.past (L := [((d, 13), .own 4 [[.v (.int .i64 k), .v (.bool false), .v (.bool false), .v (.int .i64 0)]]), ((d, 12), .own 2 [[.v (.int .i64 0), .x]]), ((d, 11), .own 4 [])]) (H := H) (by simpa using ⟨hrm 13, hrm 12, hrm 11⟩) hs1
    simp only [DEngine.enc, List.map_set, List.map_append, List.cons_append, List.nil_append] at hs2
    refine hs2.takeNKo (i := 2) (r := (d, 12)) (q0 := [(0, 1)]) (i0 := 0) (n := nl.length + 1) (els := (nv :: nl).map DVersion.enc) (co := .own 2 [[.v (.int .i64 0), .own 4 ((nv :: nl).map DVersion.enc)]]) (by simp [cutD, DVersion.enc]) (by simp (maxSteps := 4000000) [hd0, hfr, hout, hcl, hcd, delA_none, hrn, hrm, hrd, hr0, hrc, hrn, hrm, hrd, hr0, hrc, DTxn.enc, DUndo.enc, putH_cons, Cell.set]) hd0 rfl rfl (by simp) hrd (by simp [look_cons, DVersion.enc]) (by simp [Cell.get]) (by simp) (by simp (maxSteps := 4000000) [hd0, hfr, hout, hcl, hcd, delA_none, hrn, hrm, hrd, hr0, hrc, hrn, hrm, hrd, hr0, hrc, hit, hit1]) (by simp (maxSteps := 4000000) [hd0, hfr, hout, hcl, hcd, delA_none, hrn, hrm, hrd, hr0, hrc, hrn, hrm, hrd, hr0, hrc, hit, hit1]) (by simp (maxSteps := 4000000) [hd0, hfr, hout, hcl, hcd, delA_none, hrn, hrm, hrd, hr0, hrc, hrn, hrm, hrd, hr0, hrc, hit, hit1]) (headA fun q => by simp (maxSteps := 4000000) [hd0, hfr, hout, hcl, hcd, delA_none, hrn, hrm, hrd, hr0, hrc, hrn, hrm, hrd, hr0, hrc, hit, hit1]) (headA fun q => by simp (maxSteps := 4000000) [hd0, hfr, hout, hcl, hcd, delA_none, hrn, hrm, hrd, hr0, hrc, hrn, hrm, hrd, hr0, hrc, hit, hit1]) (fun lg hlg => ?_)
    simp (maxSteps := 4000000) [hd0, hfr, hout, hcl, hcd, delA_none, hrn, hrm, hrd, hr0, hrc, hrn, hrm, hrd, hr0, hrc, hit, hit1]
    rw [show wroteE x ix t k g v = ⟨x.next, x.clock, x.txns.set ix { t with undos := t.undos ++ [⟨k, false, false, 0⟩] }, outF k (nv :: nl) x.rows⟩ from by unfold wroteE undoOf; rw [hc]; simp [ho, hnv]]
    refine ⟨⟨rfl, rfl, by simp [List.map_set], rfl⟩, ?_⟩
    rintro a b q (h | ⟨h, rfl⟩)
    · exact ⟨(hlg _ h).1, .inr (hlg _ h).2⟩
    · exact ⟨h, .inl rfl⟩
end Go.Proofs.YtnlbjfdmjlnlgaaGreat


namespace Go.Proofs.YtnlbjfdmjlnlgaaGreat
open Go Go.Px Go.RowKit Go.Proofs
set_option linter.unnecessarySimpa false
set_option linter.unusedVariables false
set_option linter.unusedSimpArgs false
set_option maxRecDepth 100000
set_option maxHeartbeats 1000000
attribute [-simp] Int.not_le Int.not_lt
def dropG (x : DEngine) (k : Int) (i : Nat) (t : DTxn) : Int × Int × DEngine := if inR k 0 31 = true then (if readC (chainR x.rows k) t.at_ t.id_ = none then (0, 4, x) else (0, writeF x i t k true 0)) else (0, 3, x)
def dropR (x : DEngine) (id k : Int) : DEngineResult := resF x (rolR x id (dropG x k)).2.2 (rolR x id (dropG x k)).1 (rolR x id (dropG x k)).2.1
theorem impl_seenValue_own (H : HH) {a o : Int} :
    PFun Tryz.prog 85 [.c (.own 4 []), .a [.v (.int .i64 a), .v (.int .i64 o)]] H (.a (readR [] a o)) := by
  refine PFun.root rfl (fun d => by simp [readR, readC]) (fun d hd hf => ?_)
  have := impl_seenValue (((d, 0), .own 4 []) :: H) (r := (d, 0)) (q := []) (l := []) (a := a) (o := o) (by simp) (by simp)
  simpa using this
set_option maxHeartbeats 4000000 in
theorem impl_DropKey_1 (H : HH) {r rc ra w c y} {x : DEngine} {id k : Int} (hl : x.le 1048576) (e0 : engF x = 0) (hR : rolR x id (dropG x k) = (w, c, y)) (hr0 : r.1 ≠ 0) (hrc : ∀ q, CleanH (hit [(r, q)]) H) (ac : arrAt H rc [] = some (1, [[.v (.int .i64 id)]])) (hne : ¬ rc = r) (aa : arrAt H ra [] = some (1, [[.v (.int .i64 k)]])) (hnea : ¬ ra = r) :
    PUpdR Tryz.prog 84 [.c (.pt r [] 4 0 0), .c (.pt rc [] 1 0 0), .c (.pt ra [] 1 0 0)] ((r, .own 4 [x.enc]) :: H) (.t [I w, I c]) ((r, .own 4 [y.enc]) :: H) r := by
  have hl2 := hl
  obtain ⟨⟨b1, b1p⟩, b2, b2p⟩ := hl2
  obtain ⟨hrows, hlen32⟩ := engF_rows e0
  obtain ⟨hks, hso, -⟩ := rowsF_sorted hrows
  have hcb : ∀ r ∈ x.rows, chainF r.chain = 0 := rowsF_chain hrows
  have hT := fun R => impl_Engine_txn H (R := R) (x := x) (r := r) (id := id) hl hr0 hrc
  have hne' : ¬ r = rc := fun e => hne e.symm
  have hnea' : ¬ r = ra := fun e => hnea e.symm
  have hch := fun H' hkk h1 h2 => impl_Engine_chain H' (r1 := r) (q1 := [(0, 3)]) (r2 := r) (q2 := [(0, 2)]) (rows2 := x.txns.map DTxn.enc) (c0 := x.next) (c1 := x.clock) (n1 := x.txns.length) (k := k) b2 hso hkk hks h1 h2
  refine PUpdR.of [0, 1, 2, 4, 5, 6, 7, 14, 18, 22] Tryz.func84 rfl (by simp [Tryz.f84]) ?_
  intro d hd0 hfr0 hcl0 hout0
  have hrn : ∀ n, ¬ r = (d, n) := fun n h => by have := hfr0 n; rw [look_cons, if_pos h] at this; cases this
  have hrm : ∀ n, ¬ (d, n) = r := fun n h => hrn n h.symm
  have hrd : ¬ r.1 = d := fun h => hrn r.2 (by rw [← h])
  have hfr : ∀ n, Px.look H (d, n) = none := fun n => by have := hfr0 n; rwa [look_cons, if_neg (hrn n)] at this
  have hcl : CleanH (atD d) H := ((CleanH_cons _ _ _ _).1 hcl0).2
  have hout : outH d H = H := by have := hout0; rw [outH_cons, if_neg hrd] at this; exact (List.cons.inj this).2
  have hcd : ∀ n q, CleanH (hit [((d, n), q)]) H := fun n q => hcl.at
  clear hfr0 hcl0 hout0
  have ac_n : ∀ n, ¬ (d, n) = rc := fun n => nm_ne (ne_of_arr hfr ac)
  have ac_d : ¬ rc.1 = d := ne_of_arr hfr ac
  have ac_m : ∀ n, ¬ rc = (d, n) := fun n => nm_ne' (ne_of_arr hfr ac)
  have aa_n : ∀ n, ¬ (d, n) = ra := fun n => nm_ne (ne_of_arr hfr aa)
  have aa_d : ¬ ra.1 = d := ne_of_arr hfr aa
  have aa_m : ∀ n, ¬ ra = (d, n) := fun n => nm_ne' (ne_of_arr hfr aa)
  simp (maxSteps := 4000000) [hd0, hfr, hout, hcl, hcd, delA_none, ac, ac_n, ac_d, ac_m, aa, aa_n, aa_d, aa_m, hrn, hrm, hrd, hr0, hrc, Tryz.f84, DEngine.enc, hne', hnea']
  simp only [DEngine.enc] at hT
  rcases ixF_some (p := fun t : DTxn => decide (t.id_ = id)) (l := x.txns) (n := 0) with ⟨h2, h3⟩ | ⟨i, hi, h2, h3⟩
  · have h3' : ∀ t ∈ x.txns, t.id_ ≠ id := fun t ht => by simpa using h3 t ht
    rw [rolR_none h3'] at hR
    obtain ⟨rfl, rfl, rfl⟩ := tri hR
    refine (hT (.t [.c (.v (.pointer none)), I 4]) (fun _ => rfl) (fun i hi h _ => by rw [h2] at h; omega)).useCK ?_
    simp (maxSteps := 4000000) [hd0, hfr, hout, hcl, hcd, delA_none, ac, ac_n, ac_d, ac_m, aa, aa_n, aa_d, aa_m, hrn, hrm, hrd, hr0, hrc, DEngine.enc]
  have h2' : ixF (fun t : DTxn => decide (t.id_ = id)) 0 x.txns = i := by rw [h2]; omega
  rw [rolR_some hi h2'] at hR
  have hid : x.txns[i].id_ = id := by simpa using h3
  by_cases h5 : x.txns[i].state = 1
  case neg =>
    rw [if_pos h5] at hR
    obtain ⟨rfl, rfl, rfl⟩ := tri hR
    refine (hT (.t [.c (.v (.pointer none)), I 10]) (fun h => absurd hid (h _ (List.getElem_mem hi))) (fun j hj h _ => by rw [h2'] at h; have : i = j := (by omega); subst this; rw [if_neg h5])).useCK ?_
    simp (maxSteps := 4000000) [hd0, hfr, hout, hcl, hcd, delA_none, ac, ac_n, ac_d, ac_m, aa, aa_n, aa_d, aa_m, hrn, hrm, hrd, hr0, hrc, DEngine.enc]
  rw [if_neg (by simp [h5])] at hR
  unfold dropG at hR
  refine (hT (.t [.c (.pt r [(0, 2)] 5 i 0), I 0]) (fun h => absurd hid (h _ (List.getElem_mem hi))) (fun j hj h _ => by rw [h2'] at h; have : i = j := (by omega); subst this; rw [if_pos h5])).useCK ?_
  simp (maxSteps := 4000000) [hd0, hfr, hout, hcl, hcd, delA_none, ac, ac_n, ac_d, ac_m, aa, aa_n, aa_d, aa_m, hrn, hrm, hrd, hr0, hrc, hi, DTxn.enc, hne', hnea']
  refine (impl_isKey _ _).useCK ?_
  cases hk : inR k 0 31 with
  | false =>
    rw [if_neg (by simp [hk])] at hR
    obtain ⟨rfl, rfl, rfl⟩ := tri hR
    simp (maxSteps := 4000000) [hd0, hfr, hout, hcl, hcd, delA_none, ac, ac_n, ac_d, ac_m, aa, aa_n, aa_d, aa_m, hrn, hrm, hrd, hr0, hrc, DEngine.enc]
  | true =>
  rw [if_pos hk] at hR
  have hkk : kOk k := by simp [inR] at hk; exact hk
  have hw := fun H1 h1 hR2 => impl_Engine_write H1 (r := r) (ix := i) (x := x) (k := k) (v := 0) (g := true) (cd := c) (y := y) hl e0 hi hk (by rfl) (fun _ => rfl) hR2 hr0 h1
  simp only [DEngine.enc] at hw
  simp (maxSteps := 4000000) [hd0, hfr, hout, hcl, hcd, delA_none, ac, ac_n, ac_d, ac_m, aa, aa_n, aa_d, aa_m, hrn, hrm, hrd, hr0, hrc, hne', hnea']
  refine DrawK.intro 10 [0, 2, 6, 32] rfl (by kernel_rfl) (by decide) ?_
  simp (maxSteps := 4000000) [hd0, hfr, hout, hcl, hcd, delA_none, ac, ac_n, ac_d, ac_m, aa, aa_n, aa_d, aa_m, hrn, hrm, hrd, hr0, hrc, hne', hnea']
  by_cases hf : foundR x.rows k = true
  · obtain ⟨hp, hpk⟩ := foundR_key hf
    have hcR : chainR x.rows k = x.rows[rowP x.rows k].chain := by
      unfold chainR; rw [if_pos hf, List.getD_eq_getElem?_getD, List.getElem?_eq_getElem hp]; rfl
    have hcF : chainF (chainR x.rows k) = 0 := by rw [hcR]; exact hcb _ (List.getElem_mem hp)
    have hT2 : chainT r [(0, 3)] x.rows k = .c (.sl r [(0, 3), (rowP x.rows k, 1)] 4 0 (chainR x.rows k).length) := by unfold chainT; rw [if_pos hf]; rfl
    rw [hT2] at hch
    clear hT2
    generalize rowP x.rows k = p at *
    have hcl12 : (chainR x.rows k).length ≤ 12 := by unfold chainF at hcF; split at hcF <;> omega
    generalize chainR x.rows k = c at *
    refine ⟨_, hch _ hkk (by simp (maxSteps := 4000000) [hd0, hfr, hout, hcl, hcd, delA_none, ac, ac_n, ac_d, ac_m, aa, aa_n, aa_d, aa_m, hrn, hrm, hrd, hr0, hrc]) (by simp (maxSteps := 4000000) [hd0, hfr, hout, hcl, hcd, delA_none, ac, ac_n, ac_d, ac_m, aa, aa_n, aa_d, aa_m, hrn, hrm, hrd, hr0, hrc]), ?_⟩
    simp (maxSteps := 4000000) [hd0, hfr, hout, hcl, hcd, delA_none, ac, ac_n, ac_d, ac_m, aa, aa_n, aa_d, aa_m, hrn, hrm, hrd, hr0, hrc, hi, DTxn.enc]
    refine ⟨_, impl_Txn_view _, ?_⟩
    simp (maxSteps := 4000000) [hd0, hfr, hout, hcl, hcd, delA_none, ac, ac_n, ac_d, ac_m, aa, aa_n, aa_d, aa_m, hrn, hrm, hrd, hr0, hrc]
    refine ⟨_, impl_seenValue _ (l := c) (by omega) (by simp (maxSteps := 4000000) [hd0, hfr, hout, hcl, hcd, delA_none, ac, ac_n, ac_d, ac_m, aa, aa_n, aa_d, aa_m, hrn, hrm, hrd, hr0, hrc, hp, DRow.enc, ← hcR]), ?_⟩
    have hrR : readR c x.txns[i].at_ x.txns[i].id_ = (match readC c x.txns[i].at_ x.txns[i].id_ with | some v => [.v (.int .i64 0), .v (.int .i64 v)] | none => [.v (.int .i64 4), .v (.int .i64 0)]) := rfl
    cases hrd2 : readC c x.txns[i].at_ x.txns[i].id_ with
    | none =>
      rw [hrd2] at hrR
      rw [if_pos hrd2] at hR
      obtain ⟨rfl, rfl, rfl⟩ := tri hR
      rw [hrR]
      simp (maxSteps := 4000000) [hd0, hfr, hout, hcl, hcd, delA_none, ac, ac_n, ac_d, ac_m, aa, aa_n, aa_d, aa_m, hrn, hrm, hrd, hr0, hrc, DEngine.enc]
    | some rv =>
      rw [hrd2] at hrR
      rw [if_neg (by rw [hrd2]; simp)] at hR
      obtain ⟨rfl, hR2⟩ := Prod.mk.inj hR
      rw [hrR]
      simp (maxSteps := 4000000) [hd0, hfr, hout, hcl, hcd, delA_none, ac, ac_n, ac_d, ac_m, aa, aa_n, aa_d, aa_m, hrn, hrm, hrd, hr0, hrc, hne', hnea']
      refine (hw _ hrc hR2).useCKo hrd (rollA (by simp (maxSteps := 4000000) [hd0, hfr, hout, hcl, hcd, delA_none, ac, ac_n, ac_d, ac_m, aa, aa_n, aa_d, aa_m, hrn, hrm, hrd, hr0, hrc, hit, hit1]) (fun q => by simp (maxSteps := 4000000) [hd0, hfr, hout, hcl, hcd, delA_none, ac, ac_n, ac_d, ac_m, aa, aa_n, aa_d, aa_m, hrn, hrm, hrd, hr0, hrc, hit, hit1])) (rollA (by simp (maxSteps := 4000000) [hd0, hfr, hout, hcl, hcd, delA_none, ac, ac_n, ac_d, ac_m, aa, aa_n, aa_d, aa_m, hrn, hrm, hrd, hr0, hrc, hit, hit1]) (fun q => by simp (maxSteps := 4000000) [hd0, hfr, hout, hcl, hcd, delA_none, ac, ac_n, ac_d, ac_m, aa, aa_n, aa_d, aa_m, hrn, hrm, hrd, hr0, hrc, hit, hit1])) (fun lg hlg => ?_)
      simp (maxSteps := 4000000) [hd0, hfr, hout, hcl, hcd, delA_none, ac, ac_n, ac_d, ac_m, aa, aa_n, aa_d, aa_m, hrn, hrm, hrd, hr0, hrc, DEngine.enc]
      exact fun a b q h => ⟨(hlg _ h).1, rollW_ne _ (hlg _ h).2⟩
  · simp only [Bool.not_eq_true] at hf
    have hc : chainR x.rows k = [] := by unfold chainR; rw [if_neg (by simp [hf])]
    have hT2 : chainT r [(0, 3)] x.rows k = .c (.own 4 []) := by unfold chainT; rw [if_neg (by simp [hf])]
    rw [hT2] at hch
    rw [hc] at hR
    clear hT2
    refine ⟨_, hch _ hkk (by simp (maxSteps := 4000000) [hd0, hfr, hout, hcl, hcd, delA_none, ac, ac_n, ac_d, ac_m, aa, aa_n, aa_d, aa_m, hrn, hrm, hrd, hr0, hrc]) (by simp (maxSteps := 4000000) [hd0, hfr, hout, hcl, hcd, delA_none, ac, ac_n, ac_d, ac_m, aa, aa_n, aa_d, aa_m, hrn, hrm, hrd, hr0, hrc]), ?_⟩
    simp (maxSteps := 4000000) [hd0, hfr, hout, hcl, hcd, delA_none, ac, ac_n, ac_d, ac_m, aa, aa_n, aa_d, aa_m, hrn, hrm, hrd, hr0, hrc, hi, DTxn.enc]
    refine ⟨_, impl_Txn_view _, ?_⟩
    simp (maxSteps := 4000000) [hd0, hfr, hout, hcl, hcd, delA_none, ac, ac_n, ac_d, ac_m, aa, aa_n, aa_d, aa_m, hrn, hrm, hrd, hr0, hrc]
    refine ⟨by kernel_rfl, _, impl_seenValue_own _, ?_⟩
    have hrR : readR [] x.txns[i].at_ x.txns[i].id_ = (match readC [] x.txns[i].at_ x.txns[i].id_ with | some v => [.v (.int .i64 0), .v (.int .i64 v)] | none => [.v (.int .i64 4), .v (.int .i64 0)]) := rfl
    cases hrd2 : readC [] x.txns[i].at_ x.txns[i].id_ with
    | none =>
      rw [hrd2] at hrR
      rw [if_pos hrd2] at hR
      obtain ⟨rfl, rfl, rfl⟩ := tri hR
      rw [hrR]
      simp (maxSteps := 4000000) [hd0, hfr, hout, hcl, hcd, delA_none, ac, ac_n, ac_d, ac_m, aa, aa_n, aa_d, aa_m, hrn, hrm, hrd, hr0, hrc, DEngine.enc]
    | some rv =>
      rw [hrd2] at hrR
      rw [if_neg (by rw [hrd2]; simp)] at hR
      obtain ⟨rfl, hR2⟩ := Prod.mk.inj hR
      rw [hrR]
      simp (maxSteps := 4000000) [hd0, hfr, hout, hcl, hcd, delA_none, ac, ac_n, ac_d, ac_m, aa, aa_n, aa_d, aa_m, hrn, hrm, hrd, hr0, hrc, hne', hnea']
      refine (hw _ hrc hR2).useCKo hrd (rollA (by simp (maxSteps := 4000000) [hd0, hfr, hout, hcl, hcd, delA_none, ac, ac_n, ac_d, ac_m, aa, aa_n, aa_d, aa_m, hrn, hrm, hrd, hr0, hrc, hit, hit1]) (fun q => by simp (maxSteps := 4000000) [hd0, hfr, hout, hcl, hcd, delA_none, ac, ac_n, ac_d, ac_m, aa, aa_n, aa_d, aa_m, hrn, hrm, hrd, hr0, hrc, hit, hit1])) (rollA (by simp (maxSteps := 4000000) [hd0, hfr, hout, hcl, hcd, delA_none, ac, ac_n, ac_d, ac_m, aa, aa_n, aa_d, aa_m, hrn, hrm, hrd, hr0, hrc, hit, hit1]) (fun q => by simp (maxSteps := 4000000) [hd0, hfr, hout, hcl, hcd, delA_none, ac, ac_n, ac_d, ac_m, aa, aa_n, aa_d, aa_m, hrn, hrm, hrd, hr0, hrc, hit, hit1])) (fun lg hlg => ?_)
      simp (maxSteps := 4000000) [hd0, hfr, hout, hcl, hcd, delA_none, ac, ac_n, ac_d, ac_m, aa, aa_n, aa_d, aa_m, hrn, hrm, hrd, hr0, hrc, DEngine.enc]
      exact fun a b q h => ⟨(hlg _ h).1, rollW_ne _ (hlg _ h).2⟩
set_option maxHeartbeats 2000000 in
theorem impl_DropKey (H : HH) {r1 q1 r2 q2} {x : DEngine} {id k : Int} (hl : x.le 1048576) (a1 : arrAt H r1 q1 = some (5, x.txns.map DTxn.enc)) (a2 : arrAt H r2 q2 = some (2, x.rows.map DRow.enc)) :
    PFun Tryz.prog 28 [.a (eRow x r1 q1 r2 q2), I id, I k] H (.a (dropR x id k).enc) := by
  have hC : ∀ H' rc ra, arrAt H' r1 q1 = some (5, x.txns.map DTxn.enc) → arrAt H' r2 q2 = some (2, x.rows.map DRow.enc) → arrAt H' rc [] = some (1, [[.v (.int .i64 id)]]) → arrAt H' ra [] = some (1, [[.v (.int .i64 k)]]) →
      PFun Tryz.prog 58 [.a (eRow x r1 q1 r2 q2), .c (.fn 84 [.pt rc [] 1 0 0, .pt ra [] 1 0 0])] H' (.a (dropR x id k).enc) := fun H' rc ra h1 h2 h3 h4 =>
    impl_changed2 H' (g := 84) (v := (rolR x id (dropG x k)).1) (c := (rolR x id (dropG x k)).2.1) (y := (rolR x id (dropG x k)).2.2) (x := x) hl (by simp) (fun e0 r H0 hr0 hrc ac hne aa hnea => impl_DropKey_1 H0 hl e0 rfl hr0 hrc ac hne aa hnea) h1 h2 h3 h4
  generalize dropR x id k = R at *
  simp only [eRow] at hC
  refine PFun.of [3, 4, 5, 6] Tryz.func28 rfl (by simp [Tryz.f28]) ?_
  intro d hd0 hfr hcl hout
  have hcd : ∀ n q, CleanH (hit [((d, n), q)]) H := fun n q => hcl.at
  have a1_n : ∀ n, ¬ (d, n) = r1 := fun n => nm_ne (ne_of_arr hfr a1)
  have a1_d : ¬ r1.1 = d := ne_of_arr hfr a1
  have a1_m : ∀ n, ¬ r1 = (d, n) := fun n => nm_ne' (ne_of_arr hfr a1)
  have a2_n : ∀ n, ¬ (d, n) = r2 := fun n => nm_ne (ne_of_arr hfr a2)
  have a2_d : ¬ r2.1 = d := ne_of_arr hfr a2
  have a2_m : ∀ n, ¬ r2 = (d, n) := fun n => nm_ne' (ne_of_arr hfr a2)
  simp (maxSteps := 4000000) [hd0, hfr, hout, hcl, hcd, delA_none, a1, a1_n, a1_d, a1_m, a2, a2_n, a2_d, a2_m, Tryz.f28, eRow, capR]
  refine (hC _ _ _ (by simp (maxSteps := 4000000) [hd0, hfr, hout, hcl, hcd, delA_none, a1, a1_n, a1_d, a1_m, a2, a2_n, a2_d, a2_m]) (by simp (maxSteps := 4000000) [hd0, hfr, hout, hcl, hcd, delA_none, a1, a1_n, a1_d, a1_m, a2, a2_n, a2_d, a2_m]) (by simp (maxSteps := 4000000) [hd0, hfr, hout, hcl, hcd, delA_none, a1, a1_n, a1_d, a1_m, a2, a2_n, a2_d, a2_m]) (by simp (maxSteps := 4000000) [hd0, hfr, hout, hcl, hcd, delA_none, a1, a1_n, a1_d, a1_m, a2, a2_n, a2_d, a2_m])).useCK ?_
  simp (maxSteps := 4000000) [hd0, hfr, hout, hcl, hcd, delA_none, a1, a1_n, a1_d, a1_m, a2, a2_n, a2_d, a2_m, DEngineResult.enc]
end Go.Proofs.YtnlbjfdmjlnlgaaGreat


namespace Go.Proofs.YtnlbjfdmjlnlgaaGreat
open Go Go.Px Go.RowKit Go.Proofs
set_option linter.unnecessarySimpa false
set_option linter.unusedVariables false
set_option linter.unusedSimpArgs false
set_option maxRecDepth 100000
set_option maxHeartbeats 1000000
attribute [-simp] Int.not_le Int.not_lt
theorem spec_l6View (H : HH) {r q} {ix : Nat} {rows : List (List Cell)} {i a s dn : Int} {c : Cell} (ha : arrAt H r q = some (5, rows)) (hi : rows[ix]? = some [.v (.int .i64 i), .v (.int .i64 a), .v (.int .i64 s), .v (.int .i64 dn), c]) :
    PFun Tryz.prog 83 [.c (.pt r q 5 ix 0)] H (.a [.v (.int .i64 a), .v (.int .i64 i)]) := by
  obtain ⟨hlt, hget⟩ := List.getElem?_eq_some_iff.1 hi
  refine PFun.of [0, 2] Tryz.func83 rfl (by simp [Tryz.f83]) ?_
  intro d hd0 hfr hcl hout
  have hcd : ∀ n q, CleanH (hit [((d, n), q)]) H := fun n q => hcl.at
  have ha_n : ∀ n, ¬ (d, n) = r := fun n => nm_ne (ne_of_arr hfr ha)
  have ha_d : ¬ r.1 = d := ne_of_arr hfr ha
  have ha_m : ∀ n, ¬ r = (d, n) := fun n => nm_ne' (ne_of_arr hfr ha)
  simp (maxSteps := 4000000) [hd0, hfr, hout, hcl, hcd, delA_none, ha, ha_n, ha_d, ha_m, Tryz.f83]
  refine DrawK.intro 9 [2, 11] rfl (by kernel_rfl) (by decide) ?_
  simp (maxSteps := 4000000) [hd0, hfr, hout, hcl, hcd, delA_none, ha, ha_n, ha_d, ha_m, hlt, hget, hi]
theorem spec_l5May (H : HH) {r q} {l : List DVersion} {a o : Int} (ha : arrAt H r q = some (4, l.map DVersion.enc)) :
    PFun Tryz.prog 145 [.c (.sl r q 4 0 l.length), .a [.v (.int .i64 a), .v (.int .i64 o)]] H (B (mayF l a o)) := by
  refine PFun.of [0, 3, 4, 7, 12] Tryz.func145 rfl (by simp [Tryz.f145]) ?_
  intro d hd0 hfr hcl hout
  have hcd : ∀ n q, CleanH (hit [((d, n), q)]) H := fun n q => hcl.at
  have ha_n : ∀ n, ¬ (d, n) = r := fun n => nm_ne (ne_of_arr hfr ha)
  have ha_d : ¬ r.1 = d := ne_of_arr hfr ha
  have ha_m : ∀ n, ¬ r = (d, n) := fun n => nm_ne' (ne_of_arr hfr ha)
  simp (maxSteps := 4000000) [hd0, hfr, hout, hcl, hcd, delA_none, ha, ha_n, ha_d, ha_m, Tryz.f145]
  cases l with
  | nil => simp (maxSteps := 4000000) [hd0, hfr, hout, hcl, hcd, delA_none, ha, ha_n, ha_d, ha_m, mayF]
  | cons v l =>
    by_cases hz : v.at_ = 0
    · simp (maxSteps := 4000000) [hd0, hfr, hout, hcl, hcd, delA_none, ha, ha_n, ha_d, ha_m, eq_false (show ¬ (l.length : Int) + 1 = 0 by omega), DVersion.enc, hz]
      refine DrawK.intro 8 [4] rfl (by kernel_rfl) (by decide) ?_
      simp (maxSteps := 4000000) [hd0, hfr, hout, hcl, hcd, delA_none, ha, ha_n, ha_d, ha_m, DVersion.enc, hz, mayF]
    · simp (maxSteps := 4000000) [hd0, hfr, hout, hcl, hcd, delA_none, ha, ha_n, ha_d, ha_m, eq_false (show ¬ (l.length : Int) + 1 = 0 by omega), DVersion.enc, eq_false hz]
      refine DrawK.intro 8 [4] rfl (by kernel_rfl) (by decide) ?_
      simp (maxSteps := 4000000) [hd0, hfr, hout, hcl, hcd, delA_none, ha, ha_n, ha_d, ha_m, DVersion.enc, hz, mayF]
theorem spec_l5Push (H : HH) {r q} {l : List DVersion} {o v : Int} {g : Bool} (hb : l.length ≤ 1048576) (ho : o ≠ 0) (ha : arrAt H r q = some (4, l.map DVersion.enc)) :
    PFun Tryz.prog 147 [.c (.sl r q 4 0 l.length), I o, B g, I v] H (.t (if fullC l o = true then [.c (.sl r q 4 0 l.length), I 2] else [.c (.own 4 ((pushC l o g v).map DVersion.enc)), I 0])) := by
  obtain ⟨R, hR⟩ : ∃ R : T, R = .t (if fullC l o = true then [.c (.sl r q 4 0 l.length), I 2] else [.c (.own 4 ((pushC l o g v).map DVersion.enc)), I 0]) := ⟨_, rfl⟩
  rw [← hR]
  refine PFun.of [0, 1, 2, 3, 8, 9, 10, 11, 19, 28] Tryz.func147 rfl (by simp [Tryz.f147]) ?_
  intro d hd0 hfr hcl hout
  have hcd : ∀ n q, CleanH (hit [((d, n), q)]) H := fun n q => hcl.at
  have ha_n : ∀ n, ¬ (d, n) = r := fun n => nm_ne (ne_of_arr hfr ha)
  have ha_d : ¬ r.1 = d := ne_of_arr hfr ha
  have ha_m : ∀ n, ¬ r = (d, n) := fun n => nm_ne' (ne_of_arr hfr ha)
  simp (maxSteps := 4000000) [hd0, hfr, hout, hcl, hcd, delA_none, ha, ha_n, ha_d, ha_m, Tryz.f147]
  refine (spec_l5Writer _ (l := l) (by simp (maxSteps := 4000000) [hd0, hfr, hout, hcl, hcd, delA_none, ha, ha_n, ha_d, ha_m])).useCK ?_
  have hop := openF_writ (l := l) ho
  by_cases hw : writF l = o
  · rw [hw] at hop ⊢
    simp only [decide_true] at hop
    obtain ⟨w, cl, rfl, hw1, hw2⟩ := openF_cons hop
    simp (maxSteps := 4000000) [hd0, hfr, hout, hcl, hcd, delA_none, ha, ha_n, ha_d, ha_m]
    refine (spec_l5Copy _ (l := w :: cl) hb rfl (by simp (maxSteps := 4000000) [hd0, hfr, hout, hcl, hcd, delA_none, ha, ha_n, ha_d, ha_m])).useCK ?_
    simp (maxSteps := 4000000) [hd0, hfr, hout, hcl, hcd, delA_none, ha, ha_n, ha_d, ha_m, hR, DVersion.enc, fullC, hop, pushC]
  · simp only [hw, decide_false] at hop
    by_cases h12 : 12 ≤ l.length
    · have hf : fullC l o = true := by simp [fullC, hop]; omega
      simp (maxSteps := 4000000) [hd0, hfr, hout, hcl, hcd, delA_none, ha, ha_n, ha_d, ha_m, eq_false hw, eq_true (show (12 : Int) ≤ l.length by omega), hR, hf]
    · have hf : fullC l o = false := by simp [fullC, hop]; omega
      have hbb : 1 + l.length ≤ 134217728 := by omega
      simp (maxSteps := 4000000) [hd0, hfr, hout, hcl, hcd, delA_none, ha, ha_n, ha_d, ha_m, eq_false hw, eq_false (show ¬ (12 : Int) ≤ l.length by omega), hR, hf, hbb]
      simp [pushC, hop, DVersion.enc]
/-- where a version stands that one sees and that is not gone -/
def seenX (c : List DVersion) (a o : Int) : Int := if idxF (visF a o) c < 0 then -1 else match c.find? (visF a o) with | some v => if v.gone = true then -1 else idxF (visF a o) c | none => -1
theorem spec_l5Seen (H : HH) {r q} {l : List DVersion} {a o : Int} (hb : l.length ≤ 1048576) (hat : ∀ v ∈ l, 0 ≤ v.at_) (ha : arrAt H r q = some (4, l.map DVersion.enc)) :
    PFun Tryz.prog 150 [.c (.sl r q 4 0 l.length), .a [.v (.int .i64 a), .v (.int .i64 o)]] H (I (seenX l a o)) := by
  obtain ⟨R, hR⟩ : ∃ R, R = seenX l a o := ⟨_, rfl⟩
  rw [← hR]
  refine PFun.of [0, 3, 4, 5, 6, 10, 38, 40] Tryz.func150 rfl (by simp [Tryz.f150]) ?_
  intro d hd0 hfr hcl hout
  have hcd : ∀ n q, CleanH (hit [((d, n), q)]) H := fun n q => hcl.at
  have ha_n : ∀ n, ¬ (d, n) = r := fun n => nm_ne (ne_of_arr hfr ha)
  have ha_d : ¬ r.1 = d := ne_of_arr hfr ha
  have ha_m : ∀ n, ¬ r = (d, n) := fun n => nm_ne' (ne_of_arr hfr ha)
  simp (maxSteps := 4000000) [hd0, hfr, hout, hcl, hcd, delA_none, ha, ha_n, ha_d, ha_m, Tryz.f150]
  refine LoopK.intro (fun m s => ∃ i : Nat, i + m = l.length ∧ (∀ x ∈ l.take i, visF a o x = false) ∧ s = ⟨[(0, .c (.sl r q 4 0 l.length)), (3, .c (.pt (d, 3) [] 2 0 0)), (5, I i)], ((d, 3), .own 2 [[.v (.int .i64 a), .v (.int .i64 o)]]) :: H, []⟩) (l.length + 1)
    (LK.intro l.length [0, 3, 5] [] (by omega) (by decide) (by simp (maxSteps := 4000000) [hd0, hfr, hout, hcl, hcd, delA_none, ha, ha_n, ha_d, ha_m]) ⟨0, by simp⟩) ?_
  rintro m s ⟨i, him, hP, rfl⟩
  have hd := idxF_drop hP
  by_cases hi : i < l.length
  · have w1 : IntKind.i64.wrap ((i : Int) + 1) = i + 1 := w64 (by omega) (by omega)
    have hat0 := hat _ (List.getElem_mem hi)
    rw [List.drop_eq_getElem_cons hi] at hd
    by_cases hv : visF a o l[i] = true
    · have hix : idxF (visF a o) l = i := by simp [idxF, hv] at hd; exact hd
      have hfi : l.find? (visF a o) = some l[i] := by
        rcases idxF_find (visF a o) l with ⟨h1, h2⟩ | ⟨j, hj, h1, h2⟩
        · omega
        · have : j = i := by omega
          subst this; exact h2
      have hRi : R = if l[i].gone = true then -1 else (i : Int) := by
        rw [hR]; unfold seenX; rw [hfi, hix, if_neg (by omega)]
      have hv' := hv
      simp only [visF, Bool.or_eq_true, Bool.and_eq_true, decide_eq_true_eq] at hv'
      by_cases hz : l[i].at_ = 0
      · have ho : l[i].txn = o := by rcases hv' with h | h <;> omega
        by_cases hg : l[i].gone = true
        · simp (maxSteps := 4000000) [hd0, hfr, hout, hcl, hcd, delA_none, ha, ha_n, ha_d, ha_m, hi, DVersion.enc, show (i : Int) < l.length by omega, hz, ho, hg, hRi]
        · simp only [Bool.not_eq_true] at hg
          simp (maxSteps := 4000000) [hd0, hfr, hout, hcl, hcd, delA_none, ha, ha_n, ha_d, ha_m, hi, DVersion.enc, show (i : Int) < l.length by omega, hz, ho, hg, hRi]
      · have hle : l[i].at_ ≤ a := by rcases hv' with h | h <;> omega
        by_cases hg : l[i].gone = true
        · simp (maxSteps := 4000000) [hd0, hfr, hout, hcl, hcd, delA_none, ha, ha_n, ha_d, ha_m, hi, DVersion.enc, show (i : Int) < l.length by omega, eq_false hz, hle, hg, hRi]
        · simp only [Bool.not_eq_true] at hg
          simp (maxSteps := 4000000) [hd0, hfr, hout, hcl, hcd, delA_none, ha, ha_n, ha_d, ha_m, hi, DVersion.enc, show (i : Int) < l.length by omega, eq_false hz, hle, hg, hRi]
    · have hv' : ¬ (l[i].at_ = 0 ∧ l[i].txn = o) ∧ ¬ (0 < l[i].at_ ∧ l[i].at_ ≤ a) := by
        simp only [visF, Bool.or_eq_true, Bool.and_eq_true, decide_eq_true_eq, not_or] at hv; exact hv
      have hP' : ∀ x ∈ l.take (i + 1), visF a o x = false := fun x hx => by
        rw [List.take_succ_eq_append_getElem hi] at hx
        rcases List.mem_append.1 hx with hx | hx
        · exact hP x hx
        · simp at hx; rw [hx]; simpa using hv
      by_cases hz : l[i].at_ = 0
      · have ho : ¬ l[i].txn = o := fun h => hv'.1 ⟨hz, h⟩
        simp (maxSteps := 4000000) [hd0, hfr, hout, hcl, hcd, delA_none, ha, ha_n, ha_d, ha_m, hi, DVersion.enc, show (i : Int) < l.length by omega, hz, eq_false ho, w1]
        refine LK.intro (m - 1) [0, 3, 5] [6] (by omega) (by decide) (by simp (maxSteps := 4000000) [hd0, hfr, hout, hcl, hcd, delA_none, ha, ha_n, ha_d, ha_m]) ⟨i + 1, by omega, hP', by simp⟩
      · have hle : ¬ l[i].at_ ≤ a := fun h => hv'.2 ⟨by omega, h⟩
        simp (maxSteps := 4000000) [hd0, hfr, hout, hcl, hcd, delA_none, ha, ha_n, ha_d, ha_m, hi, DVersion.enc, show (i : Int) < l.length by omega, eq_false hz, eq_false hle, w1]
        refine LK.intro (m - 1) [0, 3, 5] [6] (by omega) (by decide) (by simp (maxSteps := 4000000) [hd0, hfr, hout, hcl, hcd, delA_none, ha, ha_n, ha_d, ha_m]) ⟨i + 1, by omega, hP', by simp⟩
  · rw [List.drop_eq_nil_of_le (by omega)] at hd
    have hix : idxF (visF a o) l = -1 := by simpa [idxF] using hd
    have hRi : R = -1 := by rw [hR]; unfold seenX; rw [hix]; simp
    simp (maxSteps := 4000000) [hd0, hfr, hout, hcl, hcd, delA_none, ha, ha_n, ha_d, ha_m, eq_false (show ¬ (i : Int) < l.length by omega), hRi]
theorem readC_seen {c : List DVersion} {a o : Int} : (readC c a o = none ∧ seenX c a o = -1) ∨ ∃ i, ∃ h : i < c.length, seenX c a o = i ∧ readC c a o = some c[i].value := by
  rcases idxF_find (visF a o) c with ⟨h1, h2⟩ | ⟨i, hi, h1, h2⟩
  · exact .inl ⟨by unfold readC; rw [h2], by unfold seenX; rw [h1]; simp⟩
  · by_cases hg : c[i].gone = true
    · exact .inl ⟨by unfold readC; rw [h2]; simp [hg], by unfold seenX; rw [h1, h2]; simp [hg]⟩
    · exact .inr ⟨i, hi, by unfold seenX; rw [h1, h2, if_neg (by omega)]; simp [hg], by unfold readC; rw [h2]; simp [hg]⟩
theorem ixF_noRow {l : List DRow} {k : Int} (hf : foundR l k = false) (hs : sortedR l) : ixF (fun t : DRow => decide (t.key = k)) 0 l = -1 := by
  rcases ixF_some (p := fun t : DRow => decide (t.key = k)) (l := l) (n := 0) with ⟨h3, h4⟩ | ⟨i, hi, h3, h4⟩
  · exact h3
  · simp only [decide_eq_true_eq] at h4
    rw [foundR_at hs hi h4] at hf
    cases hf
theorem spec_l6Read (H : HH) {r0 q0 r1 q1 r2 q2} {x : DEngine} {a o k : Int} (hl : x.le 1048576) (hs : sortedR x.rows) (hat : ∀ r ∈ x.rows, ∀ v ∈ r.chain, 0 ≤ v.at_) (a0 : arrAt H r0 q0 = some (4, [eRow x r1 q1 r2 q2])) (a2 : arrAt H r2 q2 = some (2, x.rows.map DRow.enc)) :
    PFun Tryz.prog 82 [.c (.pt r0 q0 4 0 0), .a [.v (.int .i64 a), .v (.int .i64 o)], I k] H (.t [I ((readC (chainR x.rows k) a o).getD 0), B (readC (chainR x.rows k) a o).isSome]) := by
  obtain ⟨R, hR⟩ : ∃ R : T, R = .t [I ((readC (chainR x.rows k) a o).getD 0), B (readC (chainR x.rows k) a o).isSome] := ⟨_, rfl⟩
  rw [← hR]
  have hl2 := hl
  obtain ⟨⟨b1, b1p⟩, b2, b2p⟩ := hl2
  refine PFun.of [0, 2, 4, 6, 7, 8, 9, 14, 26] Tryz.func82 rfl (by simp [Tryz.f82]) ?_
  intro d hd0 hfr hcl hout
  have hcd : ∀ n q, CleanH (hit [((d, n), q)]) H := fun n q => hcl.at
  have a0_n : ∀ n, ¬ (d, n) = r0 := fun n => nm_ne (ne_of_arr hfr a0)
  have a0_d : ¬ r0.1 = d := ne_of_arr hfr a0
  have a0_m : ∀ n, ¬ r0 = (d, n) := fun n => nm_ne' (ne_of_arr hfr a0)
  have a2_n : ∀ n, ¬ (d, n) = r2 := fun n => nm_ne (ne_of_arr hfr a2)
  have a2_d : ¬ r2.1 = d := ne_of_arr hfr a2
  have a2_m : ∀ n, ¬ r2 = (d, n) := fun n => nm_ne' (ne_of_arr hfr a2)
  simp (maxSteps := 4000000) [hd0, hfr, hout, hcl, hcd, delA_none, a0, a0_n, a0_d, a0_m, a2, a2_n, a2_d, a2_m, Tryz.f82]
  refine (spec_l6Row _ (x := x) (r1 := r1) (q1 := q1) (r2 := r2) (q2 := q2) (k := k) hl (by simp (maxSteps := 4000000) [hd0, hfr, hout, hcl, hcd, delA_none, a0, a0_n, a0_d, a0_m, a2, a2_n, a2_d, a2_m]) (by simp (maxSteps := 4000000) [hd0, hfr, hout, hcl, hcd, delA_none, a0, a0_n, a0_d, a0_m, a2, a2_n, a2_d, a2_m])).useCK ?_
  by_cases hf : foundR x.rows k = true
  case neg =>
    simp only [Bool.not_eq_true] at hf
    have hc : chainR x.rows k = [] := by unfold chainR; rw [if_neg (by simp [hf])]
    rw [ixF_noRow hf hs]
    rw [hc] at hR
    simp (maxSteps := 4000000) [hd0, hfr, hout, hcl, hcd, delA_none, a0, a0_n, a0_d, a0_m, a2, a2_n, a2_d, a2_m, hR, readC]
  obtain ⟨hp, hpk⟩ := foundR_key hf
  have hcR : chainR x.rows k = x.rows[rowP x.rows k].chain := by
    unfold chainR; rw [if_pos hf, List.getD_eq_getElem?_getD, List.getElem?_eq_getElem hp]; rfl
  rw [ixF_rowP hs hf]
  have hatc : ∀ v ∈ chainR x.rows k, 0 ≤ v.at_ := by rw [hcR]; exact hat _ (List.getElem_mem hp)
  have hcb : (chainR x.rows k).length ≤ 1048576 := by rw [hcR]; exact b2p _ (List.getElem_mem hp)
  generalize rowP x.rows k = p at *
  generalize chainR x.rows k = c at *
  have hsub : arrAt H r2 (q2 ++ [(p, 1)]) = some (4, c.map DVersion.enc) := by rw [hcR]; exact arrAt_sub a2 (i := p) (f := 1) (by rw [List.getElem?_map, List.getElem?_eq_getElem hp]; rfl) rfl
  simp (maxSteps := 4000000) [hd0, hfr, hout, hcl, hcd, delA_none, a0, a0_n, a0_d, a0_m, a2, a2_n, a2_d, a2_m, eq_false (show ¬ (p : Int) < 0 by omega)]
  refine DrawK.intro 11 [0, 8, 9] rfl (by kernel_rfl) (by decide) ?_
  simp (maxSteps := 4000000) [hd0, hfr, hout, hcl, hcd, delA_none, a0, a0_n, a0_d, a0_m, a2, a2_n, a2_d, a2_m, eRow, hp, DRow.enc, ← hcR]
  refine ⟨_, spec_l5Seen _ (l := c) hcb hatc (by simp (maxSteps := 4000000) [hd0, hfr, hout, hcl, hcd, delA_none, a0, a0_n, a0_d, a0_m, a2, a2_n, a2_d, a2_m, hsub]), ?_⟩
  rcases readC_seen (c := c) (a := a) (o := o) with ⟨h1, h2⟩ | ⟨i, hi, h1, h2⟩
  · rw [h2]
    simp (maxSteps := 4000000) [hd0, hfr, hout, hcl, hcd, delA_none, a0, a0_n, a0_d, a0_m, a2, a2_n, a2_d, a2_m, hR, h1]
  · rw [h1]
    simp (maxSteps := 4000000) [hd0, hfr, hout, hcl, hcd, delA_none, a0, a0_n, a0_d, a0_m, a2, a2_n, a2_d, a2_m, hR, h2, eq_false (show ¬ (i : Int) < 0 by omega), eRow, hp, DRow.enc, ← hcR, hi, DVersion.enc, hsub]
end Go.Proofs.YtnlbjfdmjlnlgaaGreat


namespace Go.Proofs.YtnlbjfdmjlnlgaaGreat
open Go Go.Px Go.RowKit Go.Proofs
set_option linter.unnecessarySimpa false
set_option linter.unusedVariables false
set_option linter.unusedSimpArgs false
set_option maxRecDepth 100000
set_option maxHeartbeats 1000000
attribute [-simp] Int.not_le Int.not_lt
def wrR (x : DEngine) (i : Nat) (t : DTxn) (k : Int) (g : Bool) (v : Int) : DEngineResult := if (writeF x i t k g v).1 ≠ 0 then badE (writeF x i t k g v).1 else ⟨0, 0, (writeF x i t k g v).2⟩
set_option maxHeartbeats 8000000 in
theorem spec_l6Write (H : HH) {r1 q1 r2 q2} {ix : Nat} {x : DEngine} {k v : Int} {g : Bool} (hl : x.le 1048576) (e0 : engF x = 0) (hix : ix < x.txns.length) (a1 : arrAt H r1 q1 = some (5, x.txns.map DTxn.enc)) (a2 : arrAt H r2 q2 = some (2, x.rows.map DRow.enc)) :
    PFun Tryz.prog 77 [.a (eRow x r1 q1 r2 q2), I ix, I k, B g, I v] H (.a (wrR x ix x.txns[ix] k g v).enc) := by
  have hl2 := hl
  obtain ⟨⟨b1, b1p⟩, b2, b2p⟩ := hl2
  obtain ⟨hrows, hlen32⟩ := engF_rows e0
  obtain ⟨hks, hso, -⟩ := rowsF_sorted hrows
  have hcb : ∀ r ∈ x.rows, chainF r.chain = 0 := rowsF_chain hrows
  obtain ⟨t, ht⟩ : ∃ t, t = x.txns[ix] := ⟨_, rfl⟩
  obtain ⟨R, hR⟩ : ∃ R, R = wrR x ix x.txns[ix] k g v := ⟨_, rfl⟩
  rw [← hR]
  rw [← ht] at hR
  have htx := engF_txns e0
  obtain ⟨⟨hn1, hn2⟩, hcl1, hcl2⟩ := engF_clock e0
  obtain ⟨hrng, hund, -⟩ := txsF_get htx t (by rw [ht]; exact List.getElem_mem hix)
  have hid : t.id_ ≠ 0 := by simp [tRange, inR] at hrng; omega
  have hu60 : t.undos.length ≤ 60 := by unfold undosF at hund; split at hund <;> omega
  have hte : t.enc = [.v (.int .i64 t.id_), .v (.int .i64 t.at_), .v (.int .i64 t.state), .v (.int .i64 t.done), .own 4 (t.undos.map DUndo.enc)] := rfl
  have hget : (x.txns.map DTxn.enc)[ix]? = some [.v (.int .i64 t.id_), .v (.int .i64 t.at_), .v (.int .i64 t.state), .v (.int .i64 t.done), .own 4 (t.undos.map DUndo.enc)] := by rw [List.getElem?_map, List.getElem?_eq_getElem hix, ← ht]; rfl
  refine PFun.of [1, 2, 3, 4, 5, 10, 11, 12, 13, 14, 15, 16, 17, 28, 39, 46, 56, 79] Tryz.func77 rfl (by simp [Tryz.f77]) ?_
  intro d hd0 hfr hcl hout
  have hcd : ∀ n q, CleanH (hit [((d, n), q)]) H := fun n q => hcl.at
  have a1_n : ∀ n, ¬ (d, n) = r1 := fun n => nm_ne (ne_of_arr hfr a1)
  have a1_d : ¬ r1.1 = d := ne_of_arr hfr a1
  have a1_m : ∀ n, ¬ r1 = (d, n) := fun n => nm_ne' (ne_of_arr hfr a1)
  have a2_n : ∀ n, ¬ (d, n) = r2 := fun n => nm_ne (ne_of_arr hfr a2)
  have a2_d : ¬ r2.1 = d := ne_of_arr hfr a2
  have a2_m : ∀ n, ¬ r2 = (d, n) := fun n => nm_ne' (ne_of_arr hfr a2)
  simp (maxSteps := 4000000) [hd0, hfr, hout, hcl, hcd, delA_none, a1, a1_n, a1_d, a1_m, a2, a2_n, a2_d, a2_m, Tryz.f77, eRow]
  refine (spec_l6Copy _ (x := x) (r1 := r1) (q1 := q1) (r2 := r2) (q2 := q2) hl (by simp (maxSteps := 4000000) [hd0, hfr, hout, hcl, hcd, delA_none, a1, a1_n, a1_d, a1_m, a2, a2_n, a2_d, a2_m]) (by simp (maxSteps := 4000000) [hd0, hfr, hout, hcl, hcd, delA_none, a1, a1_n, a1_d, a1_m, a2, a2_n, a2_d, a2_m])).useCK ?_
  simp (maxSteps := 4000000) [hd0, hfr, hout, hcl, hcd, delA_none, a1, a1_n, a1_d, a1_m, a2, a2_n, a2_d, a2_m, hix, DEngine.enc]
  refine (spec_l6Row_o _ (c0 := .v (.int .i64 x.next)) (c1 := .v (.int .i64 x.clock)) (c2 := .own 5 (x.txns.map DTxn.enc)) (l := x.rows) (k := k) b2 (by simp (maxSteps := 4000000) [hd0, hfr, hout, hcl, hcd, delA_none, a1, a1_n, a1_d, a1_m, a2, a2_n, a2_d, a2_m])).useCK ?_
  unfold wrR at hR
  obtain ⟨W, hW⟩ : ∃ W, W = writeF x ix t k g v := ⟨_, rfl⟩
  rw [← hW] at hR
  unfold writeF at hW
  by_cases hf : foundR x.rows k = true
  · obtain ⟨hp, hpk⟩ := foundR_key hf
    have hcR : chainR x.rows k = x.rows[rowP x.rows k].chain := by
      unfold chainR; rw [if_pos hf, List.getD_eq_getElem?_getD, List.getElem?_eq_getElem hp]; rfl
    have hcF : chainF (chainR x.rows k) = 0 := by rw [hcR]; exact hcb _ (List.getElem_mem hp)
    rw [ixF_rowP hso hf]
    generalize rowP x.rows k = p at *
    have hcl12 : (chainR x.rows k).length ≤ 12 := by unfold chainF at hcF; split at hcF <;> omega
    generalize hc : chainR x.rows k = c at *
    simp (maxSteps := 4000000) [hd0, hfr, hout, hcl, hcd, delA_none, a1, a1_n, a1_d, a1_m, a2, a2_n, a2_d, a2_m, hp, DRow.enc, ← hcR, hix]
    refine (spec_l6View _ (rows := x.txns.map DTxn.enc) (by simp (maxSteps := 4000000) [hd0, hfr, hout, hcl, hcd, delA_none, a1, a1_n, a1_d, a1_m, a2, a2_n, a2_d, a2_m]) hget).useCK ?_
    simp (maxSteps := 4000000) [hd0, hfr, hout, hcl, hcd, delA_none, a1, a1_n, a1_d, a1_m, a2, a2_n, a2_d, a2_m]
    refine (spec_l5May _ (l := c) (by simp (maxSteps := 4000000) [hd0, hfr, hout, hcl, hcd, delA_none, a1, a1_n, a1_d, a1_m, a2, a2_n, a2_d, a2_m, hp, DRow.enc, ← hcR])).useCK ?_
    cases hm : mayF c t.at_ t.id_ with
    | false =>
      rw [if_pos hm] at hW
      subst hW
      simp (maxSteps := 4000000) [hd0, hfr, hout, hcl, hcd, delA_none, a1, a1_n, a1_d, a1_m, a2, a2_n, a2_d, a2_m]
      refine (spec_l6Bad _).useCK ?_
      simp (maxSteps := 4000000) [hd0, hfr, hout, hcl, hcd, delA_none, a1, a1_n, a1_d, a1_m, a2, a2_n, a2_d, a2_m, badE, DEngineResult.enc, hR]
    | true =>
    rw [if_neg (by simp [hm])] at hW
    simp (maxSteps := 4000000) [hd0, hfr, hout, hcl, hcd, delA_none, a1, a1_n, a1_d, a1_m, a2, a2_n, a2_d, a2_m, hix, ← ht, hte]
    by_cases hu : t.undos.length = 60
    · rw [if_pos hu] at hW
      subst hW
      simp (maxSteps := 4000000) [hd0, hfr, hout, hcl, hcd, delA_none, a1, a1_n, a1_d, a1_m, a2, a2_n, a2_d, a2_m, eq_true (show (60 : Int) ≤ t.undos.length by omega)]
      refine (spec_l6Bad _).useCK ?_
      simp (maxSteps := 4000000) [hd0, hfr, hout, hcl, hcd, delA_none, a1, a1_n, a1_d, a1_m, a2, a2_n, a2_d, a2_m, badE, DEngineResult.enc, hR]
    rw [if_neg hu] at hW
    simp (maxSteps := 4000000) [hd0, hfr, hout, hcl, hcd, delA_none, a1, a1_n, a1_d, a1_m, a2, a2_n, a2_d, a2_m, eq_false (show ¬ (60 : Int) ≤ t.undos.length by omega), hix, ← ht, hte]
    refine DrawK.intro 7 [2, 3, 4, 10, 11, 12, 14, 15, 56] rfl (by kernel_rfl) (by decide) ?_
    simp (maxSteps := 4000000) [hd0, hfr, hout, hcl, hcd, delA_none, a1, a1_n, a1_d, a1_m, a2, a2_n, a2_d, a2_m, hix, ← ht, hte]
    refine ⟨_, spec_l5Writer _ (l := c) (by simp (maxSteps := 4000000) [hd0, hfr, hout, hcl, hcd, delA_none, a1, a1_n, a1_d, a1_m, a2, a2_n, a2_d, a2_m, hp, DRow.enc, ← hcR]), ?_⟩
    have hop := openF_writ (l := c) hid
    have hpush := fun H' h => spec_l5Push H' (r := (d, 11)) (q := [(0, 3), (p, 1)]) (l := c) (o := t.id_) (v := v) (g := g) (by omega) hid h
    have hset := fun (H' : HH) (T : List DTxn) (c : List DVersion) (hT : T.length ≤ 1048576 ∧ ∀ y ∈ T, DTxn.le 1048576 y) (hc : c.length ≤ 1048576) h1 => spec_l6Set H' (r := (d, 11)) (x := ⟨x.next, x.clock, T, x.rows⟩) (k := k) (c := c) ⟨hT, b2, b2p⟩ hso hc rfl hd0 h1
    obtain ⟨nv, nl, hnv⟩ := pushC_cons (c := c) (o := t.id_) (v := v) (g := g)
    have hnlen := pushC_len (c := c) (o := t.id_) (v := v) (g := g)
    rw [hnv] at hnlen hpush
    replace hnlen : (nv :: nl).length ≤ 13 := by (try simp only [List.length_nil] at hnlen); omega
    cases ho : openF c t.id_ with
    | true =>
      have hw : writF c = t.id_ := by rw [ho] at hop; simpa using hop.symm
      obtain ⟨w, cl, rfl, hw1, hw2⟩ := openF_cons ho
      simp (maxSteps := 4000000) [hd0, hfr, hout, hcl, hcd, delA_none, a1, a1_n, a1_d, a1_m, a2, a2_n, a2_d, a2_m, hix, ← ht, hte, hw]
      refine DrawK.intro 10 [2, 3, 4, 10, 11, 12, 14, 15, 66] rfl (by kernel_rfl) (by decide) ?_
      simp (maxSteps := 4000000) [hd0, hfr, hout, hcl, hcd, delA_none, a1, a1_n, a1_d, a1_m, a2, a2_n, a2_d, a2_m, hp, DRow.enc, ← hcR, DVersion.enc, hix, ← ht, hte]
      have hfu : fullC (w :: cl) t.id_ = false := by simp [fullC, ho]
      rw [hfu, if_neg (by simp)] at hpush
      rw [hfu, if_neg (by simp)] at hW
      refine (hpush _ (by simp (maxSteps := 4000000) [hd0, hfr, hout, hcl, hcd, delA_none, a1, a1_n, a1_d, a1_m, a2, a2_n, a2_d, a2_m, hp, DRow.enc, ← hcR, DVersion.enc])).useCK ?_
      simp (maxSteps := 4000000) [hd0, hfr, hout, hcl, hcd, delA_none, a1, a1_n, a1_d, a1_m, a2, a2_n, a2_d, a2_m]
      refine DrawK.introF 7 [2, 10, 11, 16, 82, 86, 88] rfl (by decide) (by kernel_rfl) (by kernel_rfl) (by decide) ?_
      simp (maxSteps := 4000000) [hd0, hfr, hout, hcl, hcd, delA_none, a1, a1_n, a1_d, a1_m, a2, a2_n, a2_d, a2_m, hix, ← ht, hte, DUndo.enc]
      refine ⟨by omega, ?_⟩
      have hTle : (x.txns.set ix { t with undos := t.undos ++ [⟨k, true, w.gone, w.value⟩] }).length ≤ 1048576 ∧ ∀ y ∈ x.txns.set ix { t with undos := t.undos ++ [⟨k, true, w.gone, w.value⟩] }, DTxn.le 1048576 y := by
        refine ⟨by simpa using b1, fun y hy => ?_⟩
        rcases List.mem_or_eq_of_mem_set hy with h | rfl
        · exact b1p y h
        · show (t.undos ++ [_]).length ≤ 1048576
          simp; omega
      have hs1 := hset (((d, 15), .own 4 [[.v (.int .i64 k), .v (.bool true), .v (.bool w.gone), .v (.int .i64 w.value)]]) :: ((d, 14), .own 4 []) :: ((d, 10), .own 6 [[.v (.int .i64 0), .v (.int .i64 0), .v (.int .i64 0), .v (.int .i64 0), .own 5 [], .own 2 []]]) :: ((d, 5), .own 4 [[.v (.int .i64 x.next), .v (.int .i64 x.clock), .sl r1 q1 5 0 x.txns.length, .sl r2 q2 2 0 x.rows.length]]) :: H) _ (nv :: nl) hTle (by omega) (fun q => by simp (maxSteps := 4000000) [hd0, hfr, hout, hcl, hcd, delA_none, a1, a1_n, a1_d, a1_m, a2, a2_n, a2_d, a2_m, hit, hit1])
      have hs2 := PUpdW.past (L := [((d, 15), .own 4 [[.v (.int .i64 k), .v (.bool true), .v (.bool w.gone), .v (.int .i64 w.value)]]), ((d, 14), .own 4 [])]) (H := ((d, 10), .own 6 [[.v (.int .i64 0), .v (.int .i64 0), .v (.int .i64 0), .v (.int .i64 0), .own 5 [], .own 2 []]]) :: ((d, 5), .own 4 [[.v (.int .i64 x.next), .v (.int .i64 x.clock), .sl r1 q1 5 0 x.txns.length, .sl r2 q2 2 0 x.rows.length]]) :: H) (by simp) hs1
      simp only [DEngine.enc, List.map_set, List.map_append, List.cons_append, List.nil_append] at hs2
      refine hs2.takeCK' (i := 2) (r := (d, 16)) (i0 := 0) (n := nl.length + 1) (els := (nv :: nl).map DVersion.enc) (by simp [cutD, DVersion.enc]) (by simp (maxSteps := 4000000) [hd0, hfr, hout, hcl, hcd, delA_none, a1, a1_n, a1_d, a1_m, a2, a2_n, a2_d, a2_m, DTxn.enc, DUndo.enc]) hd0 rfl rfl rfl (by simp (maxSteps := 4000000) [hd0, hfr, hout, hcl, hcd, delA_none, a1, a1_n, a1_d, a1_m, a2, a2_n, a2_d, a2_m, DVersion.enc]) (by simp) (by simp (maxSteps := 4000000) [hd0, hfr, hout, hcl, hcd, delA_none, a1, a1_n, a1_d, a1_m, a2, a2_n, a2_d, a2_m, hit, hit1]) (by simp (maxSteps := 4000000) [hd0, hfr, hout, hcl, hcd, delA_none, a1, a1_n, a1_d, a1_m, a2, a2_n, a2_d, a2_m, hit, hit1]) (by simp (maxSteps := 4000000) [hd0, hfr, hout, hcl, hcd, delA_none, a1, a1_n, a1_d, a1_m, a2, a2_n, a2_d, a2_m, hit, hit1]) (headA fun q => by simp (maxSteps := 4000000) [hd0, hfr, hout, hcl, hcd, delA_none, a1, a1_n, a1_d, a1_m, a2, a2_n, a2_d, a2_m, hit, hit1]) (headA fun q => by simp (maxSteps := 4000000) [hd0, hfr, hout, hcl, hcd, delA_none, a1, a1_n, a1_d, a1_m, a2, a2_n, a2_d, a2_m, hit, hit1]) ?_
      subst hW
      rw [if_neg (by simp)] at hR
      have hWe : wroteE x ix t k g v = ⟨x.next, x.clock, x.txns.set ix { t with undos := t.undos ++ [⟨k, true, w.gone, w.value⟩] }, outF k (nv :: nl) x.rows⟩ := by unfold wroteE undoOf; rw [hc]; simp [ho, hnv]
      rw [hWe] at hR
      simp (maxSteps := 4000000) [hd0, hfr, hout, hcl, hcd, delA_none, a1, a1_n, a1_d, a1_m, a2, a2_n, a2_d, a2_m, hit, hit1, hR, DEngineResult.enc, DEngine.enc, List.map_set]
    | false =>
      have hw : ¬ writF c = t.id_ := by rw [ho] at hop; simpa using hop.symm
      simp (maxSteps := 4000000) [hd0, hfr, hout, hcl, hcd, delA_none, a1, a1_n, a1_d, a1_m, a2, a2_n, a2_d, a2_m, hix, ← ht, hte, eq_false hw]
      refine (hpush _ (by simp (maxSteps := 4000000) [hd0, hfr, hout, hcl, hcd, delA_none, a1, a1_n, a1_d, a1_m, a2, a2_n, a2_d, a2_m, hp, DRow.enc, ← hcR, DVersion.enc])).useCK ?_
      cases hfu : fullC c t.id_ with
      | true =>
        rw [if_pos hfu] at hW
        subst hW
        simp (maxSteps := 4000000) [hd0, hfr, hout, hcl, hcd, delA_none, a1, a1_n, a1_d, a1_m, a2, a2_n, a2_d, a2_m]
        refine (spec_l6Bad _).useCK ?_
        simp (maxSteps := 4000000) [hd0, hfr, hout, hcl, hcd, delA_none, a1, a1_n, a1_d, a1_m, a2, a2_n, a2_d, a2_m, badE, DEngineResult.enc, hR]
      | false =>
      rw [hfu, if_neg (by simp)] at hW
      simp (maxSteps := 4000000) [hd0, hfr, hout, hcl, hcd, delA_none, a1, a1_n, a1_d, a1_m, a2, a2_n, a2_d, a2_m]
      refine DrawK.introF 7 [2, 10, 11, 16, 82, 86, 88] rfl (by decide) (by kernel_rfl) (by kernel_rfl) (by decide) ?_
      simp (maxSteps := 4000000) [hd0, hfr, hout, hcl, hcd, delA_none, a1, a1_n, a1_d, a1_m, a2, a2_n, a2_d, a2_m, hix, ← ht, hte, DUndo.enc]
      refine ⟨by omega, ?_⟩
      have hTle : (x.txns.set ix { t with undos := t.undos ++ [⟨k, false, false, 0⟩] }).length ≤ 1048576 ∧ ∀ y ∈ x.txns.set ix { t with undos := t.undos ++ [⟨k, false, false, 0⟩] }, DTxn.le 1048576 y := by
        refine ⟨by simpa using b1, fun y hy => ?_⟩
        rcases List.mem_or_eq_of_mem_set hy with h | rfl
        · exact b1p y h
        · show (t.undos ++ [_]).length ≤ 1048576
          simp; omega
      have hs1 := hset (((d, 15), .own 4 [[.v (.int .i64 k), .v (.bool false), .v (.bool false), .v (.int .i64 0)]]) :: ((d, 14), .own 4 []) :: ((d, 10), .own 6 [[.v (.int .i64 0), .v (.int .i64 0), .v (.int .i64 0), .v (.int .i64 0), .own 5 [], .own 2 []]]) :: ((d, 5), .own 4 [[.v (.int .i64 x.next), .v (.int .i64 x.clock), .sl r1 q1 5 0 x.txns.length, .sl r2 q2 2 0 x.rows.length]]) :: H) _ (nv :: nl) hTle (by omega) (fun q => by simp (maxSteps := 4000000) [hd0, hfr, hout, hcl, hcd, delA_none, a1, a1_n, a1_d, a1_m, a2, a2_n, a2_d, a2_m, hit, hit1])
      have hs2 := PUpdW.past (L := [((d, 15), .own 4 [[.v (.int .i64 k), .v (.bool false), .v (.bool false), .v (.int .i64 0)]]), ((d, 14), .own 4 [])]) (H := ((d, 10), .own 6 [[.v (.int .i64 0), .v (.int .i64 0), .v (.int .i64 0), .v (.int .i64 0), .own 5 [], .own 2 []]]) :: ((d, 5), .own 4 [[.v (.int .i64 x.next), .v (.int .i64 x.clock), .sl r1 q1 5 0 x.txns.length, .sl r2 q2 2 0 x.rows.length]]) :: H) (by simp) hs1
      simp only [DEngine.enc, List.map_set, List.map_append, List.cons_append, List.nil_append] at hs2
      refine hs2.takeCK' (i := 2) (r := (d, 16)) (i0 := 0) (n := nl.length + 1) (els := (nv :: nl).map DVersion.enc) (by simp [cutD, DVersion.enc]) (by simp (maxSteps := 4000000) [hd0, hfr, hout, hcl, hcd, delA_none, a1, a1_n, a1_d, a1_m, a2, a2_n, a2_d, a2_m, DTxn.enc, DUndo.enc]) hd0 rfl rfl rfl (by simp (maxSteps := 4000000) [hd0, hfr, hout, hcl, hcd, delA_none, a1, a1_n, a1_d, a1_m, a2, a2_n, a2_d, a2_m, DVersion.enc]) (by simp) (by simp (maxSteps := 4000000) [hd0, hfr, hout, hcl, hcd, delA_none, a1, a1_n, a1_d, a1_m, a2, a2_n, a2_d, a2_m, hit, hit1]) (by simp (maxSteps := 4000000) [hd0, hfr, hout, hcl, hcd, delA_none, a1, a1_n, a1_d, a1_m, a2, a2_n, a2_d, a2_m, hit, hit1]) (by simp (maxSteps := 4000000) [hd0, hfr, hout, hcl, hcd, delA_none, a1, a1_n, a1_d, a1_m, a2, a2_n, a2_d, a2_m, hit, hit1]) (headA fun q => by simp (maxSteps := 4000000) [hd0, hfr, hout, hcl, hcd, delA_none, a1, a1_n, a1_d, a1_m, a2, a2_n, a2_d, a2_m, hit, hit1]) (headA fun q => by simp (maxSteps := 4000000) [hd0, hfr, hout, hcl, hcd, delA_none, a1, a1_n, a1_d, a1_m, a2, a2_n, a2_d, a2_m, hit, hit1]) ?_
      subst hW
      rw [if_neg (by simp)] at hR
      have hWe : wroteE x ix t k g v = ⟨x.next, x.clock, x.txns.set ix { t with undos := t.undos ++ [⟨k, false, false, 0⟩] }, outF k (nv :: nl) x.rows⟩ := by unfold wroteE undoOf; rw [hc]; simp [ho, hnv]
      rw [hWe] at hR
      simp (maxSteps := 4000000) [hd0, hfr, hout, hcl, hcd, delA_none, a1, a1_n, a1_d, a1_m, a2, a2_n, a2_d, a2_m, hit, hit1, hR, DEngineResult.enc, DEngine.enc, List.map_set]
  · simp only [Bool.not_eq_true] at hf
    have hc : chainR x.rows k = [] := by unfold chainR; rw [if_neg (by simp [hf])]
    rw [ixF_noRow hf hso]
    rw [hc] at hW
    simp (maxSteps := 4000000) [hd0, hfr, hout, hcl, hcd, delA_none, a1, a1_n, a1_d, a1_m, a2, a2_n, a2_d, a2_m, hix]
    refine (spec_l6View _ (rows := x.txns.map DTxn.enc) (by simp (maxSteps := 4000000) [hd0, hfr, hout, hcl, hcd, delA_none, a1, a1_n, a1_d, a1_m, a2, a2_n, a2_d, a2_m]) hget).useCK ?_
    simp (maxSteps := 4000000) [hd0, hfr, hout, hcl, hcd, delA_none, a1, a1_n, a1_d, a1_m, a2, a2_n, a2_d, a2_m]
    refine (spec_l5May _ (l := []) (by simp (maxSteps := 4000000) [hd0, hfr, hout, hcl, hcd, delA_none, a1, a1_n, a1_d, a1_m, a2, a2_n, a2_d, a2_m])).useCK ?_
    cases hm : mayF [] t.at_ t.id_ with
    | false =>
      rw [if_pos hm] at hW
      subst hW
      simp (maxSteps := 4000000) [hd0, hfr, hout, hcl, hcd, delA_none, a1, a1_n, a1_d, a1_m, a2, a2_n, a2_d, a2_m]
      refine (spec_l6Bad _).useCK ?_
      simp (maxSteps := 4000000) [hd0, hfr, hout, hcl, hcd, delA_none, a1, a1_n, a1_d, a1_m, a2, a2_n, a2_d, a2_m, badE, DEngineResult.enc, hR]
    | true =>
    rw [if_neg (by simp [hm])] at hW
    simp (maxSteps := 4000000) [hd0, hfr, hout, hcl, hcd, delA_none, a1, a1_n, a1_d, a1_m, a2, a2_n, a2_d, a2_m, hix, ← ht, hte]
    by_cases hu : t.undos.length = 60
    · rw [if_pos hu] at hW
      subst hW
      simp (maxSteps := 4000000) [hd0, hfr, hout, hcl, hcd, delA_none, a1, a1_n, a1_d, a1_m, a2, a2_n, a2_d, a2_m, eq_true (show (60 : Int) ≤ t.undos.length by omega)]
      refine (spec_l6Bad _).useCK ?_
      simp (maxSteps := 4000000) [hd0, hfr, hout, hcl, hcd, delA_none, a1, a1_n, a1_d, a1_m, a2, a2_n, a2_d, a2_m, badE, DEngineResult.enc, hR]
    rw [if_neg hu] at hW
    simp (maxSteps := 4000000) [hd0, hfr, hout, hcl, hcd, delA_none, a1, a1_n, a1_d, a1_m, a2, a2_n, a2_d, a2_m, eq_false (show ¬ (60 : Int) ≤ t.undos.length by omega), hix, ← ht, hte]
    refine DrawK.intro 7 [2, 3, 4, 10, 11, 12, 14, 15, 56] rfl (by kernel_rfl) (by decide) ?_
    simp (maxSteps := 4000000) [hd0, hfr, hout, hcl, hcd, delA_none, a1, a1_n, a1_d, a1_m, a2, a2_n, a2_d, a2_m, hix, ← ht, hte]
    refine ⟨_, spec_l5Writer _ (l := []) (by simp (maxSteps := 4000000) [hd0, hfr, hout, hcl, hcd, delA_none, a1, a1_n, a1_d, a1_m, a2, a2_n, a2_d, a2_m]), ?_⟩
    have hop := openF_writ (l := []) hid
    have hpush := fun H' h => spec_l5Push H' (r := (d, 14)) (q := []) (l := []) (o := t.id_) (v := v) (g := g) (by simp) hid h
    have hset := fun (H' : HH) (T : List DTxn) (c : List DVersion) (hT : T.length ≤ 1048576 ∧ ∀ y ∈ T, DTxn.le 1048576 y) (hc : c.length ≤ 1048576) h1 => spec_l6Set H' (r := (d, 11)) (x := ⟨x.next, x.clock, T, x.rows⟩) (k := k) (c := c) ⟨hT, b2, b2p⟩ hso hc rfl hd0 h1
    obtain ⟨nv, nl, hnv⟩ := pushC_cons (c := []) (o := t.id_) (v := v) (g := g)
    have hnlen := pushC_len (c := []) (o := t.id_) (v := v) (g := g)
    rw [hnv] at hnlen hpush
    replace hnlen : (nv :: nl).length ≤ 13 := by (try simp only [List.length_nil] at hnlen); omega
    have ho : openF ([] : List DVersion) t.id_ = false := rfl
    have hfu : fullC ([] : List DVersion) t.id_ = false := by simp [fullC]
    rw [hfu, if_neg (by simp)] at hpush
    have hw : ¬ writF ([] : List DVersion) = t.id_ := fun h => hid (by simpa [writF] using h.symm)
    simp (maxSteps := 4000000) [hd0, hfr, hout, hcl, hcd, delA_none, a1, a1_n, a1_d, a1_m, a2, a2_n, a2_d, a2_m, hix, ← ht, hte, eq_false hw]
    refine (hpush _ (by simp (maxSteps := 4000000) [hd0, hfr, hout, hcl, hcd, delA_none, a1, a1_n, a1_d, a1_m, a2, a2_n, a2_d, a2_m])).useCK ?_
    rw [hfu, if_neg (by simp)] at hW
    simp (maxSteps := 4000000) [hd0, hfr, hout, hcl, hcd, delA_none, a1, a1_n, a1_d, a1_m, a2, a2_n, a2_d, a2_m]
    refine DrawK.introF 7 [2, 10, 11, 16, 82, 86, 88] rfl (by decide) (by kernel_rfl) (by kernel_rfl) (by decide) ?_
    simp (maxSteps := 4000000) [hd0, hfr, hout, hcl, hcd, delA_none, a1, a1_n, a1_d, a1_m, a2, a2_n, a2_d, a2_m, hix, ← ht, hte, DUndo.enc]
    refine ⟨by omega, ?_⟩
    have hTle : (x.txns.set ix { t with undos := t.undos ++ [⟨k, false, false, 0⟩] }).length ≤ 1048576 ∧ ∀ y ∈ x.txns.set ix { t with undos := t.undos ++ [⟨k, false, false, 0⟩] }, DTxn.le 1048576 y := by
      refine ⟨by simpa using b1, fun y hy => ?_⟩
      rcases List.mem_or_eq_of_mem_set hy with h | rfl
      · exact b1p y h
      · show (t.undos ++ [_]).length ≤ 1048576
        simp; omega
    have hs1 := hset (((d, 15), .own 4 [[.v (.int .i64 k), .v (.bool false), .v (.bool false), .v (.int .i64 0)]]) :: ((d, 14), .own 4 []) :: ((d, 10), .own 6 [[.v (.int .i64 0), .v (.int .i64 0), .v (.int .i64 0), .v (.int .i64 0), .own 5 [], .own 2 []]]) :: ((d, 5), .own 4 [[.v (.int .i64 x.next), .v (.int .i64 x.clock), .sl r1 q1 5 0 x.txns.length, .sl r2 q2 2 0 x.rows.length]]) :: H) _ (nv :: nl) hTle (by omega) (fun q => by simp (maxSteps := 4000000) [hd0, hfr, hout, hcl, hcd, delA_none, a1, a1_n, a1_d, a1_m, a2, a2_n, a2_d, a2_m, hit, hit1])
    have hs2 := PUpdW.past (L := [((d, 15), .own 4 [[.v (.int .i64 k), .v (.bool false), .v (.bool false), .v (.int .i64 0)]]), ((d, 14), .own 4 [])]) (H := ((d, 10), .own 6 [[.v (.int .i64 0), .v (.int .i64 0), .v (.int .i64 0), .v (.int .i64 0), .own 5 [], .own 2 []]]) :: ((d, 5), .own 4 [[.v (.int .i64 x.next), .v (.int .i64 x.clock), .sl r1 q1 5 0 x.txns.length, .sl r2 q2 2 0 x.rows.length]]) :: H) (by simp) hs1
    simp only [DEngine.enc, List.map_set, List.map_append, List.cons_append, List.nil_append] at hs2
    refine hs2.takeCK' (i := 2) (r := (d, 16)) (i0 := 0) (n := nl.length + 1) (els := (nv :: nl).map DVersion.enc) (by simp [cutD, DVersion.enc]) (by simp (maxSteps := 4000000) [hd0, hfr, hout, hcl, hcd, delA_none, a1, a1_n, a1_d, a1_m, a2, a2_n, a2_d, a2_m, DTxn.enc, DUndo.enc]) hd0 rfl rfl rfl (by simp (maxSteps := 4000000) [hd0, hfr, hout, hcl, hcd, delA_none, a1, a1_n, a1_d, a1_m, a2, a2_n, a2_d, a2_m, DVersion.enc]) (by simp) (by simp (maxSteps := 4000000) [hd0, hfr, hout, hcl, hcd, delA_none, a1, a1_n, a1_d, a1_m, a2, a2_n, a2_d, a2_m, hit, hit1]) (by simp (maxSteps := 4000000) [hd0, hfr, hout, hcl, hcd, delA_none, a1, a1_n, a1_d, a1_m, a2, a2_n, a2_d, a2_m, hit, hit1]) (by simp (maxSteps := 4000000) [hd0, hfr, hout, hcl, hcd, delA_none, a1, a1_n, a1_d, a1_m, a2, a2_n, a2_d, a2_m, hit, hit1]) (headA fun q => by simp (maxSteps := 4000000) [hd0, hfr, hout, hcl, hcd, delA_none, a1, a1_n, a1_d, a1_m, a2, a2_n, a2_d, a2_m, hit, hit1]) (headA fun q => by simp (maxSteps := 4000000) [hd0, hfr, hout, hcl, hcd, delA_none, a1, a1_n, a1_d, a1_m, a2, a2_n, a2_d, a2_m, hit, hit1]) ?_
    subst hW
    rw [if_neg (by simp)] at hR
    have hWe : wroteE x ix t k g v = ⟨x.next, x.clock, x.txns.set ix { t with undos := t.undos ++ [⟨k, false, false, 0⟩] }, outF k (nv :: nl) x.rows⟩ := by unfold wroteE undoOf; rw [hc]; simp [ho, hnv]
    rw [hWe] at hR
    simp (maxSteps := 4000000) [hd0, hfr, hout, hcl, hcd, delA_none, a1, a1_n, a1_d, a1_m, a2, a2_n, a2_d, a2_m, hit, hit1, hR, DEngineResult.enc, DEngine.enc, List.map_set]
end Go.Proofs.YtnlbjfdmjlnlgaaGreat


namespace Go.Proofs.YtnlbjfdmjlnlgaaGreat
open Go Go.Px Go.RowKit Go.Proofs
set_option linter.unnecessarySimpa false
set_option linter.unusedVariables false
set_option linter.unusedSimpArgs false
set_option maxRecDepth 100000
set_option maxHeartbeats 1000000
attribute [-simp] Int.not_le Int.not_lt
theorem res_wr {x : DEngine} {i : Nat} {t : DTxn} {k v : Int} {g : Bool} (e0 : engF x = 0) : resF x (writeF x i t k g v).2 0 (writeF x i t k g v).1 = wrR x i t k g v := by
  unfold wrR
  by_cases h : (writeF x i t k g v).1 = 0
  · rw [if_neg (by simp [h]), h, resF_ok e0]
  · rw [if_pos h, resF_code e0 h]
set_option maxHeartbeats 8000000 in
theorem spec_DropKey (H : HH) {r1 q1 r2 q2} {x : DEngine} {id k : Int} (hl : x.le 1048576) (a1 : arrAt H r1 q1 = some (5, x.txns.map DTxn.enc)) (a2 : arrAt H r2 q2 = some (2, x.rows.map DRow.enc)) :
    PFun Tryz.prog 27 [.a (eRow x r1 q1 r2 q2), I id, I k] H (.a (dropR x id k).enc) := by
  have hl2 := hl
  obtain ⟨⟨b1, b1p⟩, b2, b2p⟩ := hl2
  obtain ⟨R, hR⟩ : ∃ R, R = dropR x id k := ⟨_, rfl⟩
  rw [← hR]
  unfold dropR at hR
  refine PFun.of [1, 2, 3, 6, 7, 8, 10, 17, 22, 35] Tryz.func27 rfl (by simp [Tryz.f27]) ?_
  intro d hd0 hfr hcl hout
  have hcd : ∀ n q, CleanH (hit [((d, n), q)]) H := fun n q => hcl.at
  have a1_n : ∀ n, ¬ (d, n) = r1 := fun n => nm_ne (ne_of_arr hfr a1)
  have a1_d : ¬ r1.1 = d := ne_of_arr hfr a1
  have a1_m : ∀ n, ¬ r1 = (d, n) := fun n => nm_ne' (ne_of_arr hfr a1)
  have a2_n : ∀ n, ¬ (d, n) = r2 := fun n => nm_ne (ne_of_arr hfr a2)
  have a2_d : ¬ r2.1 = d := ne_of_arr hfr a2
  have a2_m : ∀ n, ¬ r2 = (d, n) := fun n => nm_ne' (ne_of_arr hfr a2)
  simp (maxSteps := 4000000) [hd0, hfr, hout, hcl, hcd, delA_none, a1, a1_n, a1_d, a1_m, a2, a2_n, a2_d, a2_m, Tryz.f27, eRow]
  refine (spec_l6Asked _ (x := x) (r1 := r1) (q1 := q1) (r2 := r2) (q2 := q2) hl (by simp (maxSteps := 4000000) [hd0, hfr, hout, hcl, hcd, delA_none, a1, a1_n, a1_d, a1_m, a2, a2_n, a2_d, a2_m, eRow]) (by simp (maxSteps := 4000000) [hd0, hfr, hout, hcl, hcd, delA_none, a1, a1_n, a1_d, a1_m, a2, a2_n, a2_d, a2_m]) (by simp (maxSteps := 4000000) [hd0, hfr, hout, hcl, hcd, delA_none, a1, a1_n, a1_d, a1_m, a2, a2_n, a2_d, a2_m])).useCK ?_
  by_cases e0 : engF x = 0
  case neg =>
    rw [resF_bad e0] at hR
    rw [askF_bad e0]
    simp (maxSteps := 4000000) [hd0, hfr, hout, hcl, hcd, delA_none, a1, a1_n, a1_d, a1_m, a2, a2_n, a2_d, a2_m, eq_false e0]
    refine (spec_l6Bad _).useCK ?_
    simp (maxSteps := 4000000) [hd0, hfr, hout, hcl, hcd, delA_none, a1, a1_n, a1_d, a1_m, a2, a2_n, a2_d, a2_m, badE, DEngineResult.enc, hR]
  rcases ixF_some (p := fun t : DTxn => decide (t.id_ = id)) (l := x.txns) (n := 0) with ⟨h2, h3⟩ | ⟨i, hi, h2, h3⟩
  · have h3' : ∀ t ∈ x.txns, t.id_ ≠ id := fun t ht => by simpa using h3 t ht
    rw [rolR_none h3', resF_code e0 (by simp)] at hR
    rw [askF_none e0 h3']
    simp (maxSteps := 4000000) [hd0, hfr, hout, hcl, hcd, delA_none, a1, a1_n, a1_d, a1_m, a2, a2_n, a2_d, a2_m]
    refine (spec_l6Bad _).useCK ?_
    simp (maxSteps := 4000000) [hd0, hfr, hout, hcl, hcd, delA_none, a1, a1_n, a1_d, a1_m, a2, a2_n, a2_d, a2_m, badE, DEngineResult.enc, hR]
  have h2' : ixF (fun t : DTxn => decide (t.id_ = id)) 0 x.txns = i := by rw [h2]; omega
  have hid : x.txns[i].id_ = id := by simpa using h3
  rw [rolR_some hi h2'] at hR
  rw [askF_some e0 hi h2']
  by_cases h5 : x.txns[i].state = 1
  case neg =>
    rw [if_pos h5, resF_code e0 (by simp)] at hR
    rw [if_pos h5]
    simp (maxSteps := 4000000) [hd0, hfr, hout, hcl, hcd, delA_none, a1, a1_n, a1_d, a1_m, a2, a2_n, a2_d, a2_m]
    refine (spec_l6Bad _).useCK ?_
    simp (maxSteps := 4000000) [hd0, hfr, hout, hcl, hcd, delA_none, a1, a1_n, a1_d, a1_m, a2, a2_n, a2_d, a2_m, badE, DEngineResult.enc, hR]
  have h5' : ¬ x.txns[i].state ≠ 1 := fun h => h h5
  rw [if_neg h5'] at hR
  rw [if_neg h5']
  obtain ⟨hrows, hlen32⟩ := engF_rows e0
  obtain ⟨hks, hso, -⟩ := rowsF_sorted hrows
  have hat : ∀ r ∈ x.rows, ∀ v ∈ r.chain, 0 ≤ v.at_ := fun r hr => chainF_at (rowsF_chain hrows r hr)
  have hget : (x.txns.map DTxn.enc)[i]? = some [.v (.int .i64 x.txns[i].id_), .v (.int .i64 x.txns[i].at_), .v (.int .i64 x.txns[i].state), .v (.int .i64 x.txns[i].done), .own 4 (x.txns[i].undos.map DUndo.enc)] := by rw [List.getElem?_map, List.getElem?_eq_getElem hi]; rfl
  unfold dropG at hR
  simp (maxSteps := 4000000) [hd0, hfr, hout, hcl, hcd, delA_none, a1, a1_n, a1_d, a1_m, a2, a2_n, a2_d, a2_m]
  refine (spec_l1Key _ _).useCK ?_
  cases hk : inR k 0 31 with
  | false =>
    rw [if_neg (by simp [hk]), resF_code e0 (by simp)] at hR
    simp (maxSteps := 4000000) [hd0, hfr, hout, hcl, hcd, delA_none, a1, a1_n, a1_d, a1_m, a2, a2_n, a2_d, a2_m]
    refine (spec_l6Bad _).useCK ?_
    simp (maxSteps := 4000000) [hd0, hfr, hout, hcl, hcd, delA_none, a1, a1_n, a1_d, a1_m, a2, a2_n, a2_d, a2_m, badE, DEngineResult.enc, hR]
  | true =>
  rw [if_pos hk] at hR
  have hw := fun H' h1 h2 => spec_l6Write H' (r1 := r1) (q1 := q1) (r2 := r2) (q2 := q2) (x := x) (k := k) (v := 0) (g := true) hl e0 hi h1 h2
  simp only [eRow] at hw
  simp (maxSteps := 4000000) [hd0, hfr, hout, hcl, hcd, delA_none, a1, a1_n, a1_d, a1_m, a2, a2_n, a2_d, a2_m, hi]
  refine (spec_l6View _ (rows := x.txns.map DTxn.enc) (by simp (maxSteps := 4000000) [hd0, hfr, hout, hcl, hcd, delA_none, a1, a1_n, a1_d, a1_m, a2, a2_n, a2_d, a2_m]) hget).useCK ?_
  simp (maxSteps := 4000000) [hd0, hfr, hout, hcl, hcd, delA_none, a1, a1_n, a1_d, a1_m, a2, a2_n, a2_d, a2_m]
  refine (spec_l6Read _ (x := x) (r1 := r1) (q1 := q1) (r2 := r2) (q2 := q2) (k := k) hl hso hat (by simp (maxSteps := 4000000) [hd0, hfr, hout, hcl, hcd, delA_none, a1, a1_n, a1_d, a1_m, a2, a2_n, a2_d, a2_m, eRow]) (by simp (maxSteps := 4000000) [hd0, hfr, hout, hcl, hcd, delA_none, a1, a1_n, a1_d, a1_m, a2, a2_n, a2_d, a2_m])).useCK ?_
  cases hrd : readC (chainR x.rows k) x.txns[i].at_ x.txns[i].id_ with
  | none =>
    rw [if_pos hrd, resF_code e0 (by simp)] at hR
    simp (maxSteps := 4000000) [hd0, hfr, hout, hcl, hcd, delA_none, a1, a1_n, a1_d, a1_m, a2, a2_n, a2_d, a2_m]
    refine (spec_l6Bad _).useCK ?_
    simp (maxSteps := 4000000) [hd0, hfr, hout, hcl, hcd, delA_none, a1, a1_n, a1_d, a1_m, a2, a2_n, a2_d, a2_m, badE, DEngineResult.enc, hR]
  | some rv =>
    rw [if_neg (by rw [hrd]; simp), res_wr e0] at hR
    rw [← hR] at hw
    simp (maxSteps := 4000000) [hd0, hfr, hout, hcl, hcd, delA_none, a1, a1_n, a1_d, a1_m, a2, a2_n, a2_d, a2_m]
    refine (hw _ (by simp (maxSteps := 4000000) [hd0, hfr, hout, hcl, hcd, delA_none, a1, a1_n, a1_d, a1_m, a2, a2_n, a2_d, a2_m]) (by simp (maxSteps := 4000000) [hd0, hfr, hout, hcl, hcd, delA_none, a1, a1_n, a1_d, a1_m, a2, a2_n, a2_d, a2_m])).useCK ?_
    simp (maxSteps := 4000000) [hd0, hfr, hout, hcl, hcd, delA_none, a1, a1_n, a1_d, a1_m, a2, a2_n, a2_d, a2_m, DEngineResult.enc]
theorem outF_le {l : List DRow} {k : Int} {c : List DVersion} {B : Nat} (h1 : l.length + 1 ≤ B) (h2 : ∀ r ∈ l, DRow.le B r) (hc : c.length ≤ B) : (outF k c l).length ≤ B ∧ ∀ r ∈ outF k c l, DRow.le B r := by
  refine ⟨Nat.le_trans (outF_len (.inr trivial)) h1, fun r hr => ?_⟩
  unfold outF at hr
  split at hr
  · exact h2 r (List.mem_filter.1 hr).1
  · simp only [List.mem_append, List.mem_filter, List.mem_singleton, List.mem_cons, or_assoc] at hr
    rcases hr with hr | hr | hr
    · exact h2 r hr.1
    · subst hr; exact hc
    · exact h2 r hr.1
theorem writeF_le {x : DEngine} {i : Nat} {k v : Int} {g : Bool} (hi : i < x.txns.length) (h : x.le 1048576) (e0 : engF x = 0) : (writeF x i x.txns[i] k g v).2.le 1048576 := by
  obtain ⟨hrows, hlen32⟩ := engF_rows e0
  have hund := (txsF_get (engF_txns e0) _ (List.getElem_mem hi)).2.1
  have hu60 : x.txns[i].undos.length ≤ 60 := by unfold undosF at hund; split at hund <;> omega
  have hc12 : (chainR x.rows k).length ≤ 12 := by
    by_cases hf : foundR x.rows k = true
    · obtain ⟨r, hr, -, hrc⟩ := row_of hf
      have := rowsF_chain hrows r hr
      rw [hrc]
      unfold chainF at this; split at this <;> omega
    · unfold chainR; rw [if_neg hf]; simp
  unfold writeF
  split
  · exact h
  · split
    · exact h
    · split
      · exact h
      · obtain ⟨⟨b1, b1p⟩, b2, b2p⟩ := h
        have hp := pushC_len (c := chainR x.rows k) (o := x.txns[i].id_) (v := v) (g := g)
        obtain ⟨k1, k2⟩ := outF_le (k := k) (c := pushC (chainR x.rows k) x.txns[i].id_ g v) (B := 1048576) (l := x.rows) (by omega) b2p (by omega)
        refine ⟨⟨by simpa [wroteE] using b1, fun y hy => ?_⟩, k1, k2⟩
        rcases List.mem_or_eq_of_mem_set hy with h | rfl
        · exact b1p y h
        · show (_ ++ [_]).length ≤ 1048576
          simp; omega
theorem dropR_le {x : DEngine} {id k : Int} (h : x.le 1048576) : (dropR x id k).le 1048576 := by
  by_cases e0 : engF x = 0
  · exact resF_le (rolG_le h fun i hi => by
      unfold dropG
      split
      · split
        · exact h
        · exact writeF_le hi h e0
      · exact h)
  · unfold dropR; rw [resF_bad e0]; exact badE_le
end Go.Proofs.YtnlbjfdmjlnlgaaGreat


namespace Go.Proofs.YtnlbjfdmjlnlgaaGreat
open Go Go.Px Go.RowKit Go.Proofs
set_option linter.unnecessarySimpa false
set_option linter.unusedVariables false
set_option linter.unusedSimpArgs false
set_option maxRecDepth 100000
set_option maxHeartbeats 1000000
attribute [-simp] Int.not_le Int.not_lt
theorem laws_FnExactDropKey (H : HH) {r0_2 q0_2} {r0_3 q0_3} {x0 : DEngine} {x1 : Int} {x2 : Int} (w0 : x0.wf) (w1 : (Lit.int .i64 x1).wf = true) (w2 : (Lit.int .i64 x2).wf = true) (hm0 : x0.le 9223372036854775807)
    (a0_2 : arrAt H r0_2 q0_2 = some (5, x0.txns.map DTxn.enc)) (a0_3 : arrAt H r0_3 q0_3 = some (2, x0.rows.map DRow.enc)) :
    PFun Tryz.prog 7 [.a [.v (.int .i64 x0.next), .v (.int .i64 x0.clock), .sl r0_2 q0_2 5 0 x0.txns.length, .sl r0_3 q0_3 2 0 x0.rows.length], .c (.v (.int .i64 x1)), .c (.v (.int .i64 x2))] H (B true) := by
  refine PFun.of [1, 2, 3, 6, 7, 8, 9, 10, 11, 12, 13, 14, 19, 34, 39, 50, 58, 61, 70, 75, 78] Tryz.func7 rfl (by simp [Tryz.f7]) ?_
  intro d hd0 hfr hcl hout
  have hcd : ∀ n q, CleanH (hit [((d, n), q)]) H := fun n q => hcl.at
  have a0_2_n : ∀ n, ¬ (d, n) = r0_2 := fun n => nm_ne (ne_of_arr hfr a0_2)
  have a0_2_d : ¬ r0_2.1 = d := ne_of_arr hfr a0_2
  have a0_2_m : ∀ n, ¬ r0_2 = (d, n) := fun n => nm_ne' (ne_of_arr hfr a0_2)
  have a0_3_n : ∀ n, ¬ (d, n) = r0_3 := fun n => nm_ne (ne_of_arr hfr a0_3)
  have a0_3_d : ¬ r0_3.1 = d := ne_of_arr hfr a0_3
  have a0_3_m : ∀ n, ¬ r0_3 = (d, n) := fun n => nm_ne' (ne_of_arr hfr a0_3)
  simp (maxSteps := 4000000) [hd0, hfr, hout, hcl, hcd, delA_none, a0_2, a0_2_n, a0_2_d, a0_2_m, a0_3, a0_3_n, a0_3_d, a0_3_m, Tryz.f7]
  have hok0 := DEngine.ok.2 hm0
  refine (laws_szEngine _ (row := x0.enc) hok0 (by simp only [DEngine.enc, Refs_v, Refs_own, Refs_nil, List.length_map]; exact ⟨_, rfl, ⟨_, rfl, ⟨_, _, _, rfl, by simp (maxSteps := 4000000) [hd0, hfr, hout, hcl, hcd, delA_none, a0_2, a0_2_n, a0_2_d, a0_2_m, a0_3, a0_3_n, a0_3_d, a0_3_m], ⟨_, _, _, rfl, by simp (maxSteps := 4000000) [hd0, hfr, hout, hcl, hcd, delA_none, a0_2, a0_2_n, a0_2_d, a0_2_m, a0_3, a0_3_n, a0_3_d, a0_3_m], rfl⟩⟩⟩⟩) (by omega) (by omega)).useCK ?_
  by_cases s0 : (cntR x0.enc : Int) ≤ 1048576
  case neg => rw [szV_neg s0]; simp (maxSteps := 4000000) [hd0, hfr, hout, hcl, hcd, delA_none, a0_2, a0_2_n, a0_2_d, a0_2_m, a0_3, a0_3_n, a0_3_d, a0_3_m]
  rw [szV_pos s0]
  obtain ⟨L1, hL1⟩ : ∃ L : Int, L = 1048576 - (cntR x0.enc : Int) := ⟨_, rfl⟩
  rw [← hL1]
  simp (maxSteps := 4000000) [hd0, hfr, hout, hcl, hcd, delA_none, a0_2, a0_2_n, a0_2_d, a0_2_m, a0_3, a0_3_n, a0_3_d, a0_3_m, show ¬ (L1 < 0) by omega]
  have hok02 : okEngine 1048576 x0.enc := okEngine_le hok0 (by omega)
  have hl0 : x0.le 1048576 := DEngine.ok.1 hok02
  have hT0 : ∀ H {r0_2 q0_2} {r0_3 q0_3}, arrAt H r0_2 q0_2 = some (5, x0.txns.map DTxn.enc) → arrAt H r0_3 q0_3 = some (2, x0.rows.map DRow.enc) → PFun Tryz.prog 14 [.a [.v (.int .i64 x0.next), .v (.int .i64 x0.clock), .sl r0_2 q0_2 5 0 x0.txns.length, .sl r0_3 q0_3 2 0 x0.rows.length]] H (.a [.v (.int .i64 x0.next), .v (.int .i64 x0.clock), .own 5 (x0.txns.map DTxn.enc), .own 2 (x0.rows.map DRow.enc)]) := fun H r0_2 q0_2 r0_3 q0_3 h0 h1 =>
    laws_toEngine H (row := x0.enc) hok02 (by simp only [DEngine.enc, Refs_v, Refs_own, Refs_nil, List.length_map]; exact ⟨_, rfl, ⟨_, rfl, ⟨_, _, _, rfl, h0, ⟨_, _, _, rfl, h1, rfl⟩⟩⟩⟩)
  obtain ⟨y, hy⟩ : ∃ y, y = dropR x0 x1 x2 := ⟨_, rfl⟩
  have hyl : y.le 1048576 := by rw [hy]; exact dropR_le hl0
  have hSr : ∀ H {r0_2 q0_2} {r0_3 q0_3}, arrAt H r0_2 q0_2 = some (5, x0.txns.map DTxn.enc) → arrAt H r0_3 q0_3 = some (2, x0.rows.map DRow.enc) → PFun Tryz.prog 27 [.a [.v (.int .i64 x0.next), .v (.int .i64 x0.clock), .sl r0_2 q0_2 5 0 x0.txns.length, .sl r0_3 q0_3 2 0 x0.rows.length], .c (.v (.int .i64 x1)), .c (.v (.int .i64 x2))] H (.a y.enc) := fun H r0_2 q0_2 r0_3 q0_3 h0 h1 => by rw [hy]; exact spec_DropKey _ hl0 h0 h1
  have hIr : ∀ H {r0_2 q0_2} {r0_3 q0_3}, arrAt H r0_2 q0_2 = some (5, x0.txns.map DTxn.enc) → arrAt H r0_3 q0_3 = some (2, x0.rows.map DRow.enc) → PFun Tryz.prog 28 [.a [.v (.int .i64 x0.next), .v (.int .i64 x0.clock), .sl r0_2 q0_2 5 0 x0.txns.length, .sl r0_3 q0_3 2 0 x0.rows.length], .c (.v (.int .i64 x1)), .c (.v (.int .i64 x2))] H (.a y.enc) := fun H r0_2 q0_2 r0_3 q0_3 h0 h1 => by rw [hy]; exact impl_DropKey _ hl0 h0 h1
  have hS : ∀ H, PFun Tryz.prog 27 [.a [.v (.int .i64 x0.next), .v (.int .i64 x0.clock), .own 5 (x0.txns.map DTxn.enc), .own 2 (x0.rows.map DRow.enc)], .c (.v (.int .i64 x1)), .c (.v (.int .i64 x2))] H (.a y.enc) := fun H => PFun.root rfl (fun d => y.pure _) (fun d hd hf => by simpa using hSr _ (r0_2 := (d, 2)) (q0_2 := []) (r0_3 := (d, 3)) (q0_3 := []) (by simp) (by simp))
  have hI : ∀ H, PFun Tryz.prog 28 [.a [.v (.int .i64 x0.next), .v (.int .i64 x0.clock), .own 5 (x0.txns.map DTxn.enc), .own 2 (x0.rows.map DRow.enc)], .c (.v (.int .i64 x1)), .c (.v (.int .i64 x2))] H (.a y.enc) := fun H => PFun.root rfl (fun d => y.pure _) (fun d hd hf => by simpa using hIr _ (r0_2 := (d, 2)) (q0_2 := []) (r0_3 := (d, 3)) (q0_3 := []) (by simp) (by simp))
  clear hy
  have hyok : okEngineResult 1048576 y.enc := DEngineResult.ok.2 hyl
  have hylv := okEngineResult_lvsb hyok
  have hE : ∀ H {n m : Nat}, arrAt H (d, n) [] = some (6, [y.enc]) → arrAt H (d, m) [] = some (6, [y.enc]) → PFun Tryz.prog 16 [.a [.v (.int .i64 y.code), .v (.int .i64 y.value), .v (.int .i64 y.engine.next), .v (.int .i64 y.engine.clock), .sl (d, n) [(0, 4)] 5 0 y.engine.txns.length, .sl (d, n) [(0, 5)] 2 0 y.engine.rows.length], .a [.v (.int .i64 y.code), .v (.int .i64 y.value), .v (.int .i64 y.engine.next), .v (.int .i64 y.engine.clock), .sl (d, m) [(0, 4)] 5 0 y.engine.txns.length, .sl (d, m) [(0, 5)] 2 0 y.engine.rows.length]] H (B true) := fun H n m h1 h2 =>
    laws_eqEngineResult H (row := y.enc) hyok (by simp only [DEngineResult.enc, Refs_v, Refs_own, Refs_nil, List.length_map]; exact ⟨_, rfl, ⟨_, rfl, ⟨_, rfl, ⟨_, rfl, ⟨_, _, _, rfl, arrAt_sub h1 (i := 0) (f := 4) rfl rfl, ⟨_, _, _, rfl, arrAt_sub h1 (i := 0) (f := 5) rfl rfl, rfl⟩⟩⟩⟩⟩⟩) (by simp only [DEngineResult.enc, Refs_v, Refs_own, Refs_nil, List.length_map]; exact ⟨_, rfl, ⟨_, rfl, ⟨_, rfl, ⟨_, rfl, ⟨_, _, _, rfl, arrAt_sub h2 (i := 0) (f := 4) rfl rfl, ⟨_, _, _, rfl, arrAt_sub h2 (i := 0) (f := 5) rfl rfl, rfl⟩⟩⟩⟩⟩⟩)
  refine (hT0 _ (by simp (maxSteps := 4000000) [hd0, hfr, hout, hcl, hcd, delA_none, a0_2, a0_2_n, a0_2_d, a0_2_m, a0_3, a0_3_n, a0_3_d, a0_3_m]) (by simp (maxSteps := 4000000) [hd0, hfr, hout, hcl, hcd, delA_none, a0_2, a0_2_n, a0_2_d, a0_2_m, a0_3, a0_3_n, a0_3_d, a0_3_m])).useCK ?_
  simp (maxSteps := 4000000) [hd0, hfr, hout, hcl, hcd, delA_none, a0_2, a0_2_n, a0_2_d, a0_2_m, a0_3, a0_3_n, a0_3_d, a0_3_m]
  refine (hS _).useCK ?_
  simp (maxSteps := 4000000) [hd0, hfr, hout, hcl, hcd, delA_none, a0_2, a0_2_n, a0_2_d, a0_2_m, a0_3, a0_3_n, a0_3_d, a0_3_m, DEngineResult.enc]
  refine (hT0 _ (by simp (maxSteps := 4000000) [hd0, hfr, hout, hcl, hcd, delA_none, a0_2, a0_2_n, a0_2_d, a0_2_m, a0_3, a0_3_n, a0_3_d, a0_3_m]) (by simp (maxSteps := 4000000) [hd0, hfr, hout, hcl, hcd, delA_none, a0_2, a0_2_n, a0_2_d, a0_2_m, a0_3, a0_3_n, a0_3_d, a0_3_m])).useCK ?_
  simp (maxSteps := 4000000) [hd0, hfr, hout, hcl, hcd, delA_none, a0_2, a0_2_n, a0_2_d, a0_2_m, a0_3, a0_3_n, a0_3_d, a0_3_m]
  refine (hIr _ (by simp (maxSteps := 4000000) [hd0, hfr, hout, hcl, hcd, delA_none, a0_2, a0_2_n, a0_2_d, a0_2_m, a0_3, a0_3_n, a0_3_d, a0_3_m]) (by simp (maxSteps := 4000000) [hd0, hfr, hout, hcl, hcd, delA_none, a0_2, a0_2_n, a0_2_d, a0_2_m, a0_3, a0_3_n, a0_3_d, a0_3_m])).useCK ?_
  simp (maxSteps := 4000000) [hd0, hfr, hout, hcl, hcd, delA_none, a0_2, a0_2_n, a0_2_d, a0_2_m, a0_3, a0_3_n, a0_3_d, a0_3_m, DEngineResult.enc]
  refine (hE _ (by simp (maxSteps := 4000000) [hd0, hfr, hout, hcl, hcd, delA_none, a0_2, a0_2_n, a0_2_d, a0_2_m, a0_3, a0_3_n, a0_3_d, a0_3_m, DEngineResult.enc]) (by simp (maxSteps := 4000000) [hd0, hfr, hout, hcl, hcd, delA_none, a0_2, a0_2_n, a0_2_d, a0_2_m, a0_3, a0_3_n, a0_3_d, a0_3_m, DEngineResult.enc])).useCK ?_
  simp (maxSteps := 4000000) [hd0, hfr, hout, hcl, hcd, delA_none, a0_2, a0_2_n, a0_2_d, a0_2_m, a0_3, a0_3_n, a0_3_d, a0_3_m]
  refine DrawK.intro 5 [1, 2, 3, 8, 9, 10, 39] rfl (by kernel_rfl) (by decide) ?_
  simp (maxSteps := 4000000) [hd0, hfr, hout, hcl, hcd, delA_none, a0_2, a0_2_n, a0_2_d, a0_2_m, a0_3, a0_3_n, a0_3_d, a0_3_m]
  refine ⟨_, hT0 _ (by simp (maxSteps := 4000000) [hd0, hfr, hout, hcl, hcd, delA_none, a0_2, a0_2_n, a0_2_d, a0_2_m, a0_3, a0_3_n, a0_3_d, a0_3_m]) (by simp (maxSteps := 4000000) [hd0, hfr, hout, hcl, hcd, delA_none, a0_2, a0_2_n, a0_2_d, a0_2_m, a0_3, a0_3_n, a0_3_d, a0_3_m]), ?_⟩
  simp (maxSteps := 4000000) [hd0, hfr, hout, hcl, hcd, delA_none, a0_2, a0_2_n, a0_2_d, a0_2_m, a0_3, a0_3_n, a0_3_d, a0_3_m]
  repeat (first | (refine And.intro (by kernel_rfl) ?_) | (refine And.intro (by omega) ?_))
  have hEx0 : ∀ H, arrAt H (d, 9) [] = some (4, [x0.enc]) → PFun Tryz.prog 17 [.a [.v (.int .i64 x0.next), .v (.int .i64 x0.clock), .sl (d, 9) [(0, 2)] 5 0 x0.txns.length, .sl (d, 9) [(0, 3)] 2 0 x0.rows.length], .a [.v (.int .i64 x0.next), .v (.int .i64 x0.clock), .own 5 (x0.txns.map DTxn.enc), .own 2 (x0.rows.map DRow.enc)]] H (B true) := fun H h => by
    refine PFun.root rfl (fun d => by simp) (fun d2 hd hf => ?_)
    have n1 : ∀ n, ¬ (d2, n) = (d, 9) := fun n => nm_ne (ne_of_arr hf h)
    have := laws_eqEngine (((d2, 6), .own 5 (x0.txns.map DTxn.enc)) :: ((d2, 7), .own 2 (x0.rows.map DRow.enc)) :: H) (row := x0.enc) (cs := [.v (.int .i64 x0.next), .v (.int .i64 x0.clock), .sl (d, 9) [(0, 2)] 5 0 x0.txns.length, .sl (d, 9) [(0, 3)] 2 0 x0.rows.length]) (cs' := [.v (.int .i64 x0.next), .v (.int .i64 x0.clock), .sl (d2, 6) [] 5 0 x0.txns.length, .sl (d2, 7) [] 2 0 x0.rows.length]) hok02 (by simp only [DEngine.enc, Refs_v, Refs_own, Refs_nil, List.length_map]; exact ⟨_, rfl, ⟨_, rfl, ⟨_, _, _, rfl, (by simp only [arrAt_cons, n1, if_false]; exact arrAt_sub h (i := 0) (f := 2) rfl rfl), ⟨_, _, _, rfl, (by simp only [arrAt_cons, n1, if_false]; exact arrAt_sub h (i := 0) (f := 3) rfl rfl), rfl⟩⟩⟩⟩) (by simp only [DEngine.enc, Refs_v, Refs_own, Refs_nil, List.length_map]; exact ⟨_, rfl, ⟨_, rfl, ⟨_, _, _, rfl, by simp, ⟨_, _, _, rfl, by simp, rfl⟩⟩⟩⟩)
    simpa using this
  refine ⟨_, hEx0 _ (by simp (maxSteps := 4000000) [hd0, hfr, hout, hcl, hcd, delA_none, a0_2, a0_2_n, a0_2_d, a0_2_m, a0_3, a0_3_n, a0_3_d, a0_3_m, DEngine.enc]), ?_⟩
  simp (maxSteps := 4000000) [hd0, hfr, hout, hcl, hcd, delA_none, a0_2, a0_2_n, a0_2_d, a0_2_m, a0_3, a0_3_n, a0_3_d, a0_3_m]
  have hlv0 := okEngine_lvsb hok02
  have hM0 : ∀ H, arrAt H (d, 9) [] = some (4, [x0.enc]) → PUpd Tryz.prog 18 [.a [.v (.int .i64 x0.next), .v (.int .i64 x0.clock), .sl (d, 9) [(0, 2)] 5 0 x0.txns.length, .sl (d, 9) [(0, 3)] 2 0 x0.rows.length], I (1)] H (I (1 + lvS x0.enc)) (setA H (d, 9) [] (.own 4 [mkS (1) x0.enc])) := fun H h => by
    have := laws_markEngine H (r := (d, 9)) (q := []) (z := 4) (i := 0) (f := 0) (rows := [x0.enc]) (pre := []) (seg := x0.enc) (post := []) (k := 1) hok02 (by omega) (by omega) h hd0 (by simp) rfl
    simpa [ldcs, ldc, DEngine.enc] using this
  have hmx0 : mkS (1) x0.enc = [.v (.int .i64 x0.next), .v (.int .i64 x0.clock), .own 5 (mkRs (1) (x0.txns.map DTxn.enc)), .own 2 (mkRs (1 + lvRs (x0.txns.map DTxn.enc)) (x0.rows.map DRow.enc))] := by simp [DEngine.enc, mkS]
  refine (hM0 _ (by simp (maxSteps := 4000000) [hd0, hfr, hout, hcl, hcd, delA_none, a0_2, a0_2_n, a0_2_d, a0_2_m, a0_3, a0_3_n, a0_3_d, a0_3_m, DEngine.enc])).useCK ?_
  simp (maxSteps := 4000000) [hd0, hfr, hout, hcl, hcd, delA_none, a0_2, a0_2_n, a0_2_d, a0_2_m, a0_3, a0_3_n, a0_3_d, a0_3_m, hmx0, show ¬ (1 + (lvS x0.enc : Int) < 0) by omega]
  refine (hE _ (by simp (maxSteps := 4000000) [hd0, hfr, hout, hcl, hcd, delA_none, a0_2, a0_2_n, a0_2_d, a0_2_m, a0_3, a0_3_n, a0_3_d, a0_3_m, DEngineResult.enc]) (by simp (maxSteps := 4000000) [hd0, hfr, hout, hcl, hcd, delA_none, a0_2, a0_2_n, a0_2_d, a0_2_m, a0_3, a0_3_n, a0_3_d, a0_3_m, DEngineResult.enc])).useCK ?_
  simp (maxSteps := 4000000) [hd0, hfr, hout, hcl, hcd, delA_none, a0_2, a0_2_n, a0_2_d, a0_2_m, a0_3, a0_3_n, a0_3_d, a0_3_m]
  have hMR : ∀ H, arrAt H (d, 10) [] = some (6, [y.enc]) → PUpd Tryz.prog 19 [.a [.v (.int .i64 y.code), .v (.int .i64 y.value), .v (.int .i64 y.engine.next), .v (.int .i64 y.engine.clock), .sl (d, 10) [(0, 4)] 5 0 y.engine.txns.length, .sl (d, 10) [(0, 5)] 2 0 y.engine.rows.length], I 1] H (I (1 + lvS y.enc)) (setA H (d, 10) [] (.own 6 [mkS 1 y.enc])) := fun H h => by
    have := laws_markEngineResult H (r := (d, 10)) (q := []) (z := 6) (i := 0) (f := 0) (rows := [y.enc]) (pre := []) (seg := y.enc) (post := []) (k := 1) hyok (by omega) (by omega) h hd0 (by simp) rfl
    simpa [ldcs, ldc, DEngineResult.enc] using this
  have hmy : mkS 1 y.enc = [.v (.int .i64 y.code), .v (.int .i64 y.value), .v (.int .i64 y.engine.next), .v (.int .i64 y.engine.clock), .own 5 (mkRs (1) (y.engine.txns.map DTxn.enc)), .own 2 (mkRs (1 + lvRs (y.engine.txns.map DTxn.enc)) (y.engine.rows.map DRow.enc))] := by simp [DEngineResult.enc, mkS]
  refine (hMR _ (by simp (maxSteps := 4000000) [hd0, hfr, hout, hcl, hcd, delA_none, a0_2, a0_2_n, a0_2_d, a0_2_m, a0_3, a0_3_n, a0_3_d, a0_3_m, DEngineResult.enc])).useCK ?_
  simp (maxSteps := 4000000) [hd0, hfr, hout, hcl, hcd, delA_none, a0_2, a0_2_n, a0_2_d, a0_2_m, a0_3, a0_3_n, a0_3_d, a0_3_m, hmy, mkRs_length]
  have hH : ∀ H, arrAt H (d, 10) [] = some (6, [mkS 1 y.enc]) → PFun Tryz.prog 20 [.a [.v (.int .i64 y.code), .v (.int .i64 y.value), .v (.int .i64 y.engine.next), .v (.int .i64 y.engine.clock), .sl (d, 10) [(0, 4)] 5 0 y.engine.txns.length, .sl (d, 10) [(0, 5)] 2 0 y.engine.rows.length], I 1] H (I (1 + lvS y.enc)) := fun H h =>
    laws_heldEngineResult H (row := y.enc) hyok (by omega) (by omega) (by rw [hmy] at h ⊢; simp only [Refs_v, Refs_own, Refs_nil, List.length_map, mkRs_length]; exact ⟨_, rfl, ⟨_, rfl, ⟨_, rfl, ⟨_, rfl, ⟨_, _, _, rfl, arrAt_sub h (i := 0) (f := 4) rfl rfl, ⟨_, _, _, rfl, arrAt_sub h (i := 0) (f := 5) rfl rfl, rfl⟩⟩⟩⟩⟩⟩)
  refine (hH _ (by simp (maxSteps := 4000000) [hd0, hfr, hout, hcl, hcd, delA_none, a0_2, a0_2_n, a0_2_d, a0_2_m, a0_3, a0_3_n, a0_3_d, a0_3_m, hmy])).useCK ?_
  simp (maxSteps := 4000000) [hd0, hfr, hout, hcl, hcd, delA_none, a0_2, a0_2_n, a0_2_d, a0_2_m, a0_3, a0_3_n, a0_3_d, a0_3_m, hmy, mkRs_length, show ¬ (1 + (lvS y.enc : Int) < 0) by omega]
  refine (hT0 _ (by simp (maxSteps := 4000000) [hd0, hfr, hout, hcl, hcd, delA_none, a0_2, a0_2_n, a0_2_d, a0_2_m, a0_3, a0_3_n, a0_3_d, a0_3_m]) (by simp (maxSteps := 4000000) [hd0, hfr, hout, hcl, hcd, delA_none, a0_2, a0_2_n, a0_2_d, a0_2_m, a0_3, a0_3_n, a0_3_d, a0_3_m])).useCK ?_
  simp (maxSteps := 4000000) [hd0, hfr, hout, hcl, hcd, delA_none, a0_2, a0_2_n, a0_2_d, a0_2_m, a0_3, a0_3_n, a0_3_d, a0_3_m, hmy, mkRs_length]
  refine (hI _).useCK ?_
  simp (maxSteps := 4000000) [hd0, hfr, hout, hcl, hcd, delA_none, a0_2, a0_2_n, a0_2_d, a0_2_m, a0_3, a0_3_n, a0_3_d, a0_3_m, hmy, mkRs_length, DEngineResult.enc]
  refine (hE _ (by simp (maxSteps := 4000000) [hd0, hfr, hout, hcl, hcd, delA_none, a0_2, a0_2_n, a0_2_d, a0_2_m, a0_3, a0_3_n, a0_3_d, a0_3_m, DEngineResult.enc]) (by simp (maxSteps := 4000000) [hd0, hfr, hout, hcl, hcd, delA_none, a0_2, a0_2_n, a0_2_d, a0_2_m, a0_3, a0_3_n, a0_3_d, a0_3_m, DEngineResult.enc])).useCK ?_
  simp (maxSteps := 4000000) [hd0, hfr, hout, hcl, hcd, delA_none, a0_2, a0_2_n, a0_2_d, a0_2_m, a0_3, a0_3_n, a0_3_d, a0_3_m, hmy, mkRs_length, mkRs_length]
  refine (hH _ (by simp (maxSteps := 4000000) [hd0, hfr, hout, hcl, hcd, delA_none, a0_2, a0_2_n, a0_2_d, a0_2_m, a0_3, a0_3_n, a0_3_d, a0_3_m, hmy])).useCK ?_
  simp (maxSteps := 4000000) [hd0, hfr, hout, hcl, hcd, delA_none, a0_2, a0_2_n, a0_2_d, a0_2_m, a0_3, a0_3_n, a0_3_d, a0_3_m, hmy, mkRs_length, show ¬ (1 + (lvS y.enc : Int) < 0) by omega]
  try simp [DEngineResult.enc]
end Go.Proofs.YtnlbjfdmjlnlgaaGreat


namespace Go.Px
set_option linter.unusedSimpArgs false
open Go.RowKit Go.Deep
set_option linter.unusedVariables false
/-- Values that are read as cells, whatever references mean. -/
def In (w : World) (L : List Cell) (V : List Value) : Prop := ∃ F, (∀ R, VRep R w L V F) ∧ ∀ b ∈ F, b < w.heap.size
theorem In.nil {w} : In w [] [] := ⟨[], fun _ => .nil, by simp⟩
theorem In.append {w L V L' V'} (h : In w L V) (h' : In w L' V') : In w (L ++ L') (V ++ V') := by
  obtain ⟨F, h1, h2⟩ := h
  obtain ⟨F', h3, h4⟩ := h'
  exact ⟨F ++ F', fun R => (h1 R).append (h3 R), fun b hb => (List.mem_append.1 hb).elim (h2 b) (h4 b)⟩
theorem In.length {w L V} (h : In w L V) : V.length = L.length := by
  obtain ⟨F, h1, _⟩ := h
  exact (h1 fun _ _ => True).length
theorem look_roots {l : List Cell} : ∀ {k j : Nat} {z els}, l[j]? = some (.own z els) → look (roots k l) (0, k + j) = some (.own z els) := by
  induction l with
  | nil => intro k j z els h; simp at h
  | cons c t ih =>
    intro k j z els h
    cases j with
    | zero => simp at h; subst h; simp [roots, look]
    | succ j =>
      have := ih (k := k + 1) (j := j) (by simpa using h)
      rw [show k + 1 + j = k + (j + 1) by omega] at this
      cases c with
      | own z' els' =>
        simp only [roots, look]
        rw [if_neg (fun e => by have := congrArg Prod.snd e; simp at this)]
        exact this
      | _ => simpa [roots] using this
/-- What came in, as named objects; and the references of each argument. -/
theorem In.open {w : World} {L : List Cell} {V : List Value} (h : In w L V) : ∃ β : Nm → Value, Holds w.heap.size (VP w β (roots 0 L)) w β (roots 0 L) [] ∧
    ∀ L0 L1 L2 V0 V1 V2, L = L0 ++ L1 ++ L2 → V = V0 ++ V1 ++ V2 → In w L0 V0 → In w L1 V1 → noRef L1 = true → VRep (VP w β (roots 0 L)) w (refs L0.length L1) V1 [] := by
  have hlen := h.length
  obtain ⟨F, h1, h2⟩ := h
  refine ⟨fun r => V.getD r.2 undef, roots_holds (h1 _) h2 (fun j v hj => ?_), fun L0 L1 L2 V0 V1 V2 hL hV i0 i1 hn => ?_⟩
  · show V.getD (0 + j) undef = v
    rw [Nat.zero_add, List.getD_eq_getElem?_getD, hj]; rfl
  · have l0 := i0.length
    have l1 := i1.length
    obtain ⟨F1, k1, k2⟩ := i1
    refine refs_rep (R := fun _ _ => True) (R' := fun _ _ => True) hn (k1 _) (fun j v hj => ?_) (fun j z els hj => ?_)
    · show V.getD (L0.length + j) undef = v
      have hlt := (List.getElem?_eq_some_iff.1 hj).1
      rw [List.getD_eq_getElem?_getD, hV, List.append_assoc, List.getElem?_append_right (by omega), List.getElem?_append_left (by omega), ← l0, Nat.add_sub_cancel_left, hj]; rfl
    · have hlt := (List.getElem?_eq_some_iff.1 hj).1
      have : L[L0.length + j]? = some (.own z els) := by
        rw [hL, List.append_assoc, List.getElem?_append_right (by omega), List.getElem?_append_left (by omega), Nat.add_sub_cancel_left, hj]
      have := look_roots (k := 0) this
      rwa [Nat.zero_add] at this
theorem Px.Op.in_ {α : Type} {P : Program} {t : TypeId} {n : Nat} {enc : α → List Cell} {q : α → Prop} (h : Px.Op P t n enc q) {H : Type} {e : TypeId × Value → H} {w : World} {base : Nat} {held : Bool} {fuel : Nat} {cs : List Value} {x : DataW H × List MemPlace}
    (hx : DataW.trod e P w base (fun _ => true) held fuel t cs = some x) (hz : w.noneFrozen x.2) : ∃ v : α, In w (enc v) cs ∧ q v := by
  obtain ⟨v, F, h1, h2, h3, h4⟩ := h H e w base held fuel cs x hx hz
  exact ⟨v, ⟨F, h1, h3⟩, h4⟩
theorem VRep.single {R w c v F} (h : VRep R w [c] [v] F) : Rep R w c v F := by
  cases h with | cons a b => cases b; simpa using a
end Go.Px

