/- The machine's side of one law: functions as plain Lean functions, and that the calls do what these say. Written by a program of this session; no condition beyond those that each theorem names. -/
import Derived.Test.YtifpmjnbkodgfaaXFnExactHasCyclex0
namespace Go.Proofs.Ytifpmjnbkodgfaa.XFnExactHasCycle
open Go.RowKit Go.Proofs.YtifpmjnbkodgfaaW.PrintWords Go.Proofs.YtifpmjnbkodgfaaW.PrintLast Go.Proofs.YtifpmjnbkodgfaaW.PrintMore
attribute [local go_sem] max2_int min2_int max_two min_two max_three min_three max_four min_four   -- for this text's walks alone
set_option linter.unusedVariables false
set_option linter.unusedSimpArgs false

/-! ### impl_leads: function 41 -/
def succs (es : List S58) (p : S58 → Bool) (a : Int) : List Int := (es.filter (fun e => p e && e.f0 == a)).map (fun e => e.f1)
inductive Path (es : List S58) (p : S58 → Bool) (a : Int) : Int → Prop
  | one (b : Int) : b ∈ succs es p a → Path es p a b
  | snoc (b c : Int) : Path es p a b → c ∈ succs es p b → Path es p a c
theorem succs_mem (es : List S58) (p : S58 → Bool) (a b : Int) (h : b ∈ succs es p a) : b ∈ es.map (fun e => e.f1) := by
  unfold succs at h
  obtain ⟨e, he, rfl⟩ := List.mem_map.1 h
  exact List.mem_map.2 ⟨e, (List.mem_filter.1 he).1, rfl⟩
def innerB (tt : Int) : List Int → List Int → List Int → Option (List Int × List Int)
  | [], w, m => some (w, m)
  | n :: ns, w, m => if n = tt then none else if m.contains n = true then innerB tt ns w m else innerB tt ns (w ++ [n]) (m ++ [n])
def bfs (es : List S58) (p : S58 → Bool) (tt : Int) : Nat → List Int → List Int → Option Bool
  | 0, _, _ => none
  | _ + 1, [], _ => some false
  | k + 1, a :: w, m => match innerB tt (succs es p a) (a :: w) m with
    | none => some true
    | some (w', m') => bfs es p tt k w'.tail m'
theorem nodup_len : ∀ (m l : List Int), m.Nodup → (∀ x ∈ m, x ∈ l) → m.length ≤ l.length
  | [], l, _, _ => Nat.zero_le _
  | a :: m, l, hn, hs => by
    obtain ⟨h1, h2⟩ := List.nodup_cons.1 hn
    have ha : a ∈ l := hs a (by simp)
    have := nodup_len m (l.erase a) h2 (fun x hx => (List.mem_erase_of_ne (fun e : x = a => h1 (e ▸ hx))).2 (hs x (by simp [hx])))
    rw [List.length_erase_of_mem ha] at this
    have := List.length_pos_of_mem ha
    simp; omega
theorem innerB_spec (tt : Int) : ∀ (ns w m : List Int), m.Nodup → (innerB tt ns w m = none ∧ tt ∈ ns) ∨ ∃ nw, innerB tt ns w m = some (w ++ nw, m ++ nw) ∧ (m ++ nw).Nodup ∧ (∀ x ∈ nw, x ∈ ns ∧ x ≠ tt) ∧ ∀ n ∈ ns, n ∈ m ++ nw
  | [], w, m, h => .inr ⟨[], by simp [innerB], by simpa using h, by simp, by simp⟩
  | n :: ns, w, m, h => by
    unfold innerB
    by_cases c : n = tt
    · rw [if_pos c]; exact .inl ⟨rfl, by simp [c]⟩
    · rw [if_neg c]
      by_cases d : m.contains n = true
      · rw [if_pos d]
        have d' : n ∈ m := by simpa using d
        rcases innerB_spec tt ns w m h with ⟨h1, h2⟩ | ⟨nw, h1, h2, h3, h4⟩
        · exact .inl ⟨h1, by simp [h2]⟩
        · refine .inr ⟨nw, h1, h2, fun x hx => ⟨by simp [(h3 x hx).1], (h3 x hx).2⟩, fun x hx => ?_⟩
          rcases List.mem_cons.1 hx with rfl | hx
          · exact List.mem_append_left _ d'
          · exact h4 x hx
      · rw [if_neg d]
        have d' : n ∉ m := by simpa using d
        have hn : (m ++ [n]).Nodup := List.nodup_append.2 ⟨h, by simp, fun x hx y hy e => by rw [List.mem_singleton.1 hy] at e; exact d' (e ▸ hx)⟩
        rcases innerB_spec tt ns (w ++ [n]) (m ++ [n]) hn with ⟨h1, h2⟩ | ⟨nw, h1, h2, h3, h4⟩
        · exact .inl ⟨h1, by simp [h2]⟩
        · refine .inr ⟨n :: nw, by simpa using h1, by simpa using h2, fun x hx => ?_, fun x hx => ?_⟩
          · rcases List.mem_cons.1 hx with rfl | hx
            · exact ⟨by simp, c⟩
            · exact ⟨by simp [(h3 x hx).1], (h3 x hx).2⟩
          · rcases List.mem_cons.1 hx with rfl | hx
            · simp
            · simpa using h4 x hx
theorem bfs_spec (es : List S58) (p : S58 → Bool) (fr tt : Int) : ∀ (k : Nat) (w m : List Int), m.Nodup → (∀ x ∈ m, x ∈ es.map (fun e => e.f1)) → (∀ x ∈ m, Path es p fr x ∧ x ≠ tt) → (∀ x ∈ w, x = fr ∨ x ∈ m) →
    (∀ x, (x = fr ∨ x ∈ m) → x ∈ w ∨ ∀ n ∈ succs es p x, n ∈ m) → w.length + (es.length - m.length) < k → ∃ r, bfs es p tt k w m = some r ∧ (r = true ↔ Path es p fr tt)
  | 0, _, _, _, _, _, _, _, h => absurd h (Nat.not_lt_zero _)
  | k + 1, [], m, h1, h2, h3, h4, h5, h6 => by
    refine ⟨false, rfl, ?_⟩
    have hc : ∀ y, Path es p fr y → y ∈ m := fun y hy => by
      induction hy with
      | one b hb =>
        rcases h5 fr (.inl rfl) with h | h
        · simp at h
        · exact h b hb
      | snoc b c _ hc ih =>
        rcases h5 b (.inr ih) with h | h
        · simp at h
        · exact h c hc
    simp only [Bool.false_eq_true, false_iff]
    exact fun h => (h3 tt (hc tt h)).2 rfl
  | k + 1, a :: w, m, h1, h2, h3, h4, h5, h6 => by
    have ha := h4 a (by simp)
    have hpa : ∀ n ∈ succs es p a, Path es p fr n := fun n hn => by
      rcases ha with rfl | ha
      · exact .one n hn
      · exact .snoc a n (h3 a ha).1 hn
    unfold bfs
    rcases innerB_spec tt (succs es p a) (a :: w) m h1 with ⟨g1, g2⟩ | ⟨nw, g1, g2, g3, g4⟩
    · rw [g1]
      exact ⟨true, rfl, by simp [hpa tt g2]⟩
    · rw [g1]
      have hsub : ∀ x ∈ m ++ nw, x ∈ es.map (fun e => e.f1) := fun x hx => by
        rcases List.mem_append.1 hx with hx | hx
        · exact h2 x hx
        · exact succs_mem es p a x (g3 x hx).1
      have hlen := nodup_len _ _ g2 hsub
      rw [List.length_map, List.length_append] at hlen
      refine bfs_spec es p fr tt k (w ++ nw) (m ++ nw) g2 hsub (fun x hx => ?_) (fun x hx => ?_) (fun x hx => ?_) ?_
      · rcases List.mem_append.1 hx with hx | hx
        · exact h3 x hx
        · exact ⟨hpa x (g3 x hx).1, (g3 x hx).2⟩
      · rcases List.mem_append.1 hx with hx | hx
        · rcases h4 x (by simp [hx]) with h | h
          · exact .inl h
          · exact .inr (List.mem_append_left _ h)
        · exact .inr (List.mem_append_right _ hx)
      · by_cases hxn : x ∈ nw
        · exact .inl (List.mem_append_right _ hxn)
        · have hx' : x = fr ∨ x ∈ m := by
            rcases hx with h | h
            · exact .inl h
            · rcases List.mem_append.1 h with h | h
              · exact .inr h
              · exact absurd h hxn
          rcases h5 x hx' with h | h
          · rcases List.mem_cons.1 h with rfl | h
            · exact .inr g4
            · exact .inl (List.mem_append_left _ h)
          · exact .inr (fun n hn => List.mem_append_left _ (h n hn))
      · simp only [List.length_append, List.length_cons] at h6 ⊢
        omega
def leadsB (es : List S58) (p : S58 → Bool) (fr tt : Int) : Bool := (bfs es p tt (es.length + 2) [fr] []).getD false
theorem leads_bfs (es : List S58) (p : S58 → Bool) (fr tt : Int) : bfs es p tt (es.length + 2) [fr] [] = some (leadsB es p fr tt) ∧ (leadsB es p fr tt = true ↔ Path es p fr tt) := by
  obtain ⟨r, h1, h2⟩ := bfs_spec es p fr tt (es.length + 2) [fr] [] List.nodup_nil (by simp) (by simp) (by simp) (by simp) (by simp; omega)
  unfold leadsB
  rw [h1]
  exact ⟨rfl, h2⟩
def amongB (ks : Int) (e : S58) : Bool := Go.bits .and .i64 e.f2 ks != 0
def edgesOk (l : List S58) : Bool := l.all fun e => (Lit.int .i64 e.f0).wf && (Lit.int .i64 e.f1).wf
theorem edgesOk_at {l : List S58} (h : edgesOk l = true) : ∀ e ∈ l, (Lit.int .i64 e.f0).wf = true ∧ (Lit.int .i64 e.f1).wf = true := fun e he => by
  have := List.all_eq_true.1 h e he
  simpa using this
theorem zero46 (w : World) : (zeroValue 46).run Try.prog w = .ok (.slice none 0 0) w := by kernel_rfl
theorem zero3 (w : World) : (zeroValue 3).run Try.prog w = .ok (.int .i64 0) w := by kernel_rfl
theorem succs_take (es : List S58) (p : S58 → Bool) (kk : Nat) (h : kk < es.length) (e : S58) (he : es[kk] = e) (b : Int) : succs (es.take (kk + 1)) p b = if p e && e.f0 == b then succs (es.take kk) p b ++ [e.f1] else succs (es.take kk) p b := by
  unfold succs
  rw [List.take_succ_eq_append_getElem h, he, List.filter_append, List.map_append]
  cases hq : (p e && e.f0 == b) with
  | true => rw [List.filter_cons_of_pos (by simpa using hq)]; simp
  | false => rw [List.filter_cons_of_neg (by simp [hq])]; simp
open Go.Maps Go.ChangeShapes in
set_option maxHeartbeats 8000000 in
set_option maxRecDepth 100000 in
theorem impl_leads.calls (A0 : Option Addr) (c0 : Nat) (es : List S58) (fr tt : Int) (gf : Nat) (lb : Array Value) (p : S58 → Bool) (w : World) (eg : ∀ args w, (callFunc gf args).run Try.prog w = .ok (.enter gf args) w) (hr0 : Kd.C k58 w A0 es.length es) (hc0 : es.length ≤ c0)
    (hlen : es.length ≤ 1048576) (hwf : ∀ e ∈ es, (Lit.int .i64 e.f0).wf = true ∧ (Lit.int .i64 e.f1).wf = true) (hfr : (Lit.int .i64 fr).wf = true)
    (hp : ∀ (W : World) (x : S58), x ∈ es → Below w.heap.size w W → Calls Try.prog gf (#[.agg #[.int .i64 x.f0, .int .i64 x.f1, .int .i64 x.f2]] ++ lb) W fun e w' => e = .returned (.bool (p x)) ∧ Below W.heap.size W w') :
    Calls Try.prog 41 #[.slice A0 es.length c0, .int .i64 fr, .int .i64 tt, .func (.func gf) #[] lb] w fun e w' => e = .returned (.bool (leadsB es p fr tt)) ∧ Below w.heap.size w w' := by
  have hmm := @run_makeMap Try.prog
  obtain ⟨hbf, _⟩ := leads_bfs es p fr tt
  generalize leadsB es p fr tt = r at hbf ⊢
  have HBF := Aside0.mk hbf
  have HSW : Aside0 (∀ a n, n ∈ succs es p a → (Lit.int .i64 n).wf = true) := ⟨fun a n hn => by
    obtain ⟨e, he, rfl⟩ := List.mem_map.1 (succs_mem es p a n hn)
    exact (hwf e he).2⟩
  clear hbf
  have hu := Try.underlying58
  obtain ⟨i0, hi, hz0, hz1, hz2⟩ := info_parts info2
  go_enter Try.func41, Try.ntmps41
  go_wp2
  go_loopg [19] es.length (fun gg s19 wr => ∃ (kk : Nat) (D : DataW Unit), kk ≤ es.length ∧ es.length - kk ≤ gg ∧ s19 = .int .i64 kk ∧ Aside0 (Below w.heap.size w wr) ∧ Aside0 (w.heap.size + 1 ≤ wr.heap.size) ∧ Aside0 (wr.ownsGroups Try.prog 2 (w.heap.size + 1) 2 .i64 w.heap.size kk D) ∧ Aside0 (Gof D (succs (es.take kk) p)))
  case atStart => exact ⟨0, .map [], by omega, by omega, rfl, ⟨below_alloc (Below.refl _ _) _⟩, ⟨by simp⟩, ⟨World.ownsGroups_made _ _ _ _ _⟩, ⟨Gof_nil⟩⟩
  case round =>
    obtain ⟨kk, D, hkk, hg, rfl, BW, HN, HG, HD⟩ := hrel
    by_cases hlt : kk < es.length
    · have hltz : (kk : Int) < (es.length : Int) := by omega
      have h0z : (0 : Int) ≤ (kk : Int) := by omega
      have hx : rd_T58 es (kk : Int) = es[kk]'hlt := by show es.getD kk _ = _; rw [List.getD_eq_getElem?_getD, List.getElem?_eq_getElem hlt]; rfl
      have hmem : rd_T58 es (kk : Int) ∈ es := by rw [hx]; exact List.getElem_mem _
      obtain ⟨ad, e0, q0, q1, q2⟩ := at_T58 (Kd.C_below hr0 BW.out) (kk : Int) (by omega) (by omega)
      subst e0
      simp only [Int.toNat_natCast] at q0 q1 q2
      have HX := Aside0.mk (succs_take es p kk hlt _ hx.symm)
      have hw2 := hwf _ hmem
      have HP := Aside0.mk (fun W h => hp W _ hmem h)
      clear hx hmem
      generalize rd_T58 es (kk : Int) = x at *
      obtain ⟨f, t, k⟩ := x
      dsimp only at q0 q1 q2 hw2
      have HB1 := Aside0.mk (below_alloc BW.out (.cells #[.int .i64 f, .int .i64 t, .int .i64 k] 58))
      have HCall := Aside0.mk (HP.out _ HB1.out)
      obtain ⟨x0, x1, x2⟩ := cells3 (heap_alloc_new wr (.cells #[.int .i64 f, .int .i64 t, .int .i64 k] 58))
      have HBx := Aside0.mk (heap_alloc_new wr (.cells #[.int .i64 f, .int .i64 t, .int .i64 k] 58))
      clear HP hp hr0 hwf
      cases hq : p ⟨f, t, k⟩ with
      | false =>
        rw [hq] at HCall
        have HQ := Aside0.mk hq
        clear hq
        go_wp2_with (go_at_fn gf; refine HCall.out.mono ?_; rintro e w5 ⟨rfl, hb5⟩)
        go_roundg (es.length - (kk + 1))
        case measure => omega
        case rel =>
          have HGd := groups_keep (groups_keep HG.out (below_alloc (Below.refl _ wr) (.cells #[.int .i64 f, .int .i64 t, .int .i64 k] 58))) hb5
          refine ⟨kk + 1, D, by omega, by omega, by go_num, ⟨below_step HB1.out hb5⟩, ⟨by have h1 := hb5.size; have h2 := HN.out; simp at h1 ⊢; omega⟩, ⟨?_⟩, ⟨HD.out.1, fun b hb => by rw [HX.out]; simp only [HQ.out, Bool.false_and]; exact HD.out.2 b hb⟩⟩
          obtain ⟨es', ck', g1, g2, g3, g4⟩ := HGd
          exact ⟨es', ck', g1, g2, by omega, g4.1, g4.2.1, fun x hx zs hz => Nat.le_succ_of_le (g4.2.2.1 x hx zs hz), g4.2.2.2⟩
      | true =>
        rw [hq] at HCall
        have HQ := Aside0.mk hq
        clear hq
        go_upto_region 6 with (go_at_fn gf; refine HCall.out.mono ?_; rintro e w5 ⟨rfl, hb5⟩)
        have HBd : Aside0 (w5.drew.heap[wr.heap.size]? = some (.cells #[.int .i64 f, .int .i64 t, .int .i64 k] 58 (0, 0))) := ⟨show w5.heap[wr.heap.size]? = some (.cells #[.int .i64 f, .int .i64 t, .int .i64 k] 58 (0, 0)) from blk_below HBx.out hb5⟩
        obtain ⟨d0, d1, d2⟩ := cells3 HBd.out
        have HGd := Aside0.mk (groups_keep (groups_keep (groups_keep HG.out (below_alloc (Below.refl _ wr) (.cells #[.int .i64 f, .int .i64 t, .int .i64 k] 58))) hb5) (Below.drew (Below.refl _ w5)))
        have HNd : Aside0 (w.heap.size + 1 ≤ w5.drew.heap.size) := ⟨by have h1 := hb5.size; have h2 := HN.out; simp at h1 ⊢; omega⟩
        have HBw : Aside0 (Below w.heap.size w w5.drew) := ⟨below_drew (below_step HB1.out hb5)⟩
        obtain ⟨v, zs, mes, mck, hmap, hlook, hat, hoi, hzl, hback⟩ := groups_at_all HGd.out (int_keyed Try.underlying2) Try.underlying92 zero46 (by unfold maxLen; omega) (keyOf_int_mk Try.underlying2 hw2.1)
        have hzs := gd_row hoi ((HD.out.2 f hw2.1).symm.trans hat)
        have hoi := Aside0.mk hoi
        have hback := Aside0.mk hback
        have hzl := Aside0.mk hzl
        have hlook := Aside0.mk hlook
        have hmap := Aside0.mk hmap
        have HZ := Aside0.mk hzs
        clear hb5 hzs hat d2 x0 x1 x2 q0 q1 q2 HCall HBx HB1 HG HGd HN BW
        refine start_ (n := 12) (S := fun w' => w'.cell? ⟨wr.heap.size, 0, none⟩ = some (.int .i64 f) ∧ w'.cell? ⟨wr.heap.size, 1, none⟩ = some (.int .i64 t) ∧ w'.heap[w.heap.size]? = some (.map mes mck)) (ds := [11]) #[false, false, false, false, false, false, false, false, false, false, false, false] (by kernel_rfl) rfl rfl ⟨d0, d1, hmap.out⟩ (fun hHeld => ?_)
        generalize w5.drew = Wd at *
        refine pure_ (i := 0) (N := some 26) (v := ?_) (a' := ?_) #[true, false, false, false, false, false, false, false, false, false, false, false] rfl rfl (by kernel_rfl) (fun _ _ _ h => h) (Or.inl ⟨by rfl, ?_⟩) ?_ ?_
        rotate_left
        · intro w'
          go_simp
          with_reducible rfl
        rotate_left
        · simp only [Act.put, List.setIfInBounds_toArray, List.set_cons_zero, List.set_cons_succ, i64_w, i32_w]
          rfl
        refine pure_ (i := 1) (N := some 27) (v := ?_) (a' := ?_) #[true, true, false, false, false, false, false, false, false, false, false, false] rfl rfl (by kernel_rfl) (fun _ _ _ h => h) (Or.inl ⟨by rfl, ?_⟩) ?_ ?_
        rotate_left
        · intro w'
          go_simp
          with_reducible rfl
        rotate_left
        · simp only [Act.put, List.setIfInBounds_toArray, List.set_cons_zero, List.set_cons_succ, i64_w, i32_w]
          rfl
        refine pure_ (i := 3) (N := some 29) (v := ?_) (a' := ?_) #[true, true, false, true, false, false, false, false, false, false, false, false] rfl rfl (by kernel_rfl) (fun _ _ _ h => h) (Or.inl ⟨by rfl, ?_⟩) ?_ ?_
        rotate_left
        · intro w'
          go_simp
          with_reducible rfl
        rotate_left
        · simp only [Act.put, List.setIfInBounds_toArray, List.set_cons_zero, List.set_cons_succ, i64_w, i32_w]
          rfl
        refine pure_ (i := 4) (N := some 30) (v := ?_) (a' := ?_) #[true, true, false, true, true, false, false, false, false, false, false, false] rfl rfl (by kernel_rfl) (fun _ _ _ h => h) (Or.inl ⟨by rfl, ?_⟩) ?_ ?_
        rotate_left
        · intro w'
          go_simp
          with_reducible rfl
        rotate_left
        · simp only [Act.put, List.setIfInBounds_toArray, List.set_cons_zero, List.set_cons_succ, i64_w, i32_w]
          rfl
        refine pure_ (i := 7) (N := some 33) (v := ?_) (a' := ?_) #[true, true, false, true, true, false, false, true, false, false, false, false] rfl rfl (by kernel_rfl) (fun _ _ _ h => h) (Or.inl ⟨by rfl, ?_⟩) ?_ ?_
        rotate_left
        · intro w'
          go_simp
          with_reducible rfl
        rotate_left
        · simp only [Act.put, List.setIfInBounds_toArray, List.set_cons_zero, List.set_cons_succ, i64_w, i32_w]
          rfl
        refine take_ (i := 2) (N := some 28) (v := ?_) (a' := ?_) #[true, true, true, true, true, false, false, true, false, false, false, false] rfl rfl (by kernel_rfl) (fun _ _ _ h => h) (Or.inl ⟨by rfl, ?_⟩) hHeld ?_ ?_
        rotate_left
        · rintro w' ⟨s0, s1, s2⟩
          have s3 := hlook.out w' s2
          go_simp
          with_reducible rfl
        rotate_left
        · simp only [Act.put, List.setIfInBounds_toArray, List.set_cons_zero, List.set_cons_succ, i64_w, i32_w]
          rfl
        refine take_ (i := 5) (N := some 31) (v := ?_) (a' := ?_) #[true, true, true, true, true, true, false, true, false, false, false, false] rfl rfl (by kernel_rfl) (fun _ _ _ h => h) (Or.inl ⟨by rfl, ?_⟩) hHeld ?_ ?_
        rotate_left
        · rintro w' ⟨s0, s1, s2⟩
          have s3 := hlook.out w' s2
          go_simp
          with_reducible rfl
        rotate_left
        · simp only [Act.put, List.setIfInBounds_toArray, List.set_cons_zero, List.set_cons_succ, i64_w, i32_w]
          rfl
        refine take_ (i := 6) (N := some 32) (v := ?_) (a' := ?_) #[true, true, true, true, true, true, true, true, false, false, false, false] rfl rfl (by kernel_rfl) (fun _ _ _ h => h) (Or.inl ⟨by rfl, ?_⟩) hHeld ?_ ?_
        rotate_left
        · rintro w' ⟨s0, s1, s2⟩
          have s3 := hlook.out w' s2
          go_simp
          with_reducible rfl
        rotate_left
        · simp only [Act.put, List.setIfInBounds_toArray, List.set_cons_zero, List.set_cons_succ, i64_w, i32_w]
          rfl
        refine take_ (i := 8) (N := some 34) (v := ?_) (a' := ?_) #[true, true, true, true, true, true, true, true, true, false, false, false] rfl rfl (by kernel_rfl) (fun _ _ _ h => h) (Or.inl ⟨by rfl, ?_⟩) hHeld ?_ ?_
        rotate_left
        · rintro w' ⟨s0, s1, s2⟩
          have s3 := hlook.out w' s2
          go_simp
          with_reducible rfl
        rotate_left
        · simp only [Act.put, List.setIfInBounds_toArray, List.set_cons_zero, List.set_cons_succ, i64_w, i32_w]
          rfl
        refine one_ (i := 9) (N := some 35) #[true, true, true, true, true, true, true, true, true, true, false, false] rfl rfl (by kernel_rfl) (by decide) (fun K hK => ?_)
        refine value_ (w1 := ?_) (v := ?_) (by rfl) rfl ?_ ?_
        rotate_left 2
        · go_simp
          constructor
          · rfl
          · rfl
        have hG9 := World.grownBy_alloc Wd (.cells #[.int .i64 t] 2) none
        refine hK.out _ _ ⟨(cells3 (blk_alloc HBd.out _)).1, (cells3 (blk_alloc HBd.out _)).2.1, (map_alloc hmap.out _)⟩ (fun hHeld => ?_)
        clear hK K
        refine norm_ (a' := ?_) ?_ ?_
        rotate_left
        · show Act.put _ (some 35) _ = _
          simp only [Act.put, List.setIfInBounds_toArray, List.set_cons_zero, List.set_cons_succ, i64_w, i32_w]
          rfl
        refine one_ (i := 10) (N := some 36) #[true, true, true, true, true, true, true, true, true, true, true, false] rfl rfl (by kernel_rfl) (by decide) (fun K hK => ?_)
        refine append_at_step (by rfl) rfl (.tmp 32) (.tmp 35) 46 rfl (w.heap.size + 1) 2 i0 (.int .i64 0) 1 8 Try.underlying46 hi hz0 hz1 hz2 rfl (by decide) v zs.length (zs.map (Value.int .i64)) rfl (hoi.out.1.alloc _) ⟨Wd.heap.size, 0, none⟩ 1 1 [.int .i64 t] rfl rfl (cell_one_new _ _ _) (ints_oneCell .i64 [t]) (by have := hzl.out; unfold maxLen; omega) (by have := hzl.out; omega) (by have := HNd.out; simp; omega) ?_
        intro v' w7 hown' hgrow hloc
        have hG7 := Aside0.mk (blk_grown (blk_alloc HBd.out _) hgrow (row_ne hoi.out HBd.out (by decide)))
        refine hK.out _ _ ⟨(cells3 hG7.out).1, (cells3 hG7.out).2.1, (map_grown (map_alloc hmap.out _) hgrow (row_gt hoi.out))⟩ (fun hHeld => ?_)
        clear hK K
        refine norm_ (a' := ?_) ?_ ?_
        rotate_left
        · show Act.put _ (some 36) _ = _
          simp only [Act.put, List.setIfInBounds_toArray, List.set_cons_zero, List.set_cons_succ, i64_w, i32_w]
          rfl
        refine last_ (i := 11) (N := none) #[true, true, true, true, true, true, true, true, true, true, true, true] rfl rfl (by kernel_rfl) (by decide) (fun K hK => ?_)
        refine update_back_step (by rfl) rfl (.tmp 26) (.tmp 28) (.tmp 36) 92 rfl hback.out rfl rfl rfl ((World.grownBy_alloc _ _ _).trans hgrow) (hoi.out.appended hown' hw2.2) (by have := hzl.out; simp; omega) (hloc.imp id (fun h => ⟨_, h, by simp⟩)) ?_
        intro w8 hown2 hgrow2
        refine hK.out _ _ ?_
        clear hK K
        refine done_ (by kernel_rfl) ?_
        have hoi2 := hoi.out.appended hown' hw2.2
        have hall := (World.grownBy_alloc Wd (.cells #[.int .i64 t] 2) v.ownBlock).trans hgrow
        go_wp2
        go_roundg (es.length - (kk + 1))
        case measure => omega
        case rel =>
          refine ⟨kk + 1, _, by omega, by omega, by go_num, ⟨HBw.out.groups hoi.out hall hgrow2 (by have := HNd.out; omega) (Nat.le_succ _) (Nat.le_refl _)⟩, ⟨by have := HNd.out; have := hall.size; have := hgrow2.size; omega⟩, ⟨hown2⟩, ⟨?_⟩⟩
          have hz := HZ.out
          subst hz
          refine Gof_put HD.out hoi2 (by rw [HX.out]; simp [HQ.out]) (fun b hb => by rw [HX.out]; simp [HQ.out, Ne.symm hb])
    · obtain rfl : kk = es.length := by omega
      have hltz : ¬ (es.length : Int) < (es.length : Int) := by omega
      have HD1 : Aside0 (Gof D (succs es p)) := ⟨by have := HD.out; rwa [List.take_length] at this⟩
      have HSh : Aside0 (w.heap.size < wr.heap.size) := ⟨HN.out⟩
      clear HD hp hr0 hwf
      rename World => W1
      go_wp2
      go_loopg [13] (es.length + 2) (fun gq s13 w2 => ∃ (ws ms : List Int) (Dm : DataW Unit), Aside0 (bfs es p tt gq ws ms = some r) ∧ Aside0 (Below W1.heap.size W1 w2) ∧ Aside0 (Kd.Q (Kd.int .i64) 2 w2 W1.heap.size (fun _ => True) s13 ws) ∧ Aside0 (w2.ownsMap Try.prog 2 (plainElem Try.prog 3) W1.heap.size ms.length Dm) ∧ Aside0 (Mof Dm ms) ∧ Aside0 ms.Nodup ∧ Aside0 (∀ x ∈ ms, x ∈ es.map (fun e => e.f1)) ∧ Aside0 (ws.length ≤ 1 + ms.length) ∧ Aside0 (∀ x ∈ ws, (Lit.int .i64 x).wf = true) ∧ Aside0 (W1.heap.size + 1 ≤ w2.heap.size))
      case atStart =>
        refine ⟨[fr], [], .map [], HBF, ⟨below_alloc (below_alloc (Below.refl _ W1) (.map #[] 0)) _⟩, ⟨?_⟩, ⟨(World.ownsMap_made W1 _ _ _).alloc _⟩, ⟨Mof_nil⟩, ⟨List.nodup_nil⟩, ⟨by simp⟩, ⟨by simp⟩, ⟨by simpa using hfr⟩, ⟨by simp⟩⟩
        have hq := q_one (w := W1.alloc (.map #[] 0)) (base := W1.heap.size) (e := 2) fr (by simp)
        simpa using hq
      case round =>
        rename World => W2
        obtain ⟨ws, ms, Dm, HBf, BW2, HQ, HM, HMd, HNdp, HSub, HLen, HWf, HNs⟩ := hrel
        cases gk with
        | zero => exact absurd HBf.out (by simp [bfs])
        | succ k1 =>
          cases ws with
          | nil =>
            obtain ⟨A13, c13, rfl, hc13⟩ := Kd.Q_slice HQ.out
            have hr : r = false := by have := HBf.out; simp only [bfs, Option.some.injEq] at this; exact this.symm
            subst hr
            go_wp2
            go_ret
            exact ⟨rfl, below_step BW.out BW2.out⟩
          | cons a w0 =>
            obtain ⟨A13, c13, rfl, hc13⟩ := Kd.Q_slice HQ.out
            obtain ⟨_, _, hC13⟩ := Kd.Q_reads' HQ.out
            obtain ⟨ad13, rfl, h13⟩ := Kd.at_int hC13 0 (by omega) (by simp)
            rw [show rd (a :: w0) 0 = a from rfl] at h13
            simp only [Int.toNat_zero] at h13
            rw [show ad13.add 0 = ad13 from rfl] at h13
            have hwa := HWf.out a (by simp)
            obtain ⟨v, zs, mes, mck, hmap, hlook, hat, hoi, hzl, _⟩ := groups_at_all HG.out (int_keyed Try.underlying2) Try.underlying92 zero46 (by unfold maxLen; omega) (keyOf_int_mk Try.underlying2 hwa)
            have hzs := gd_row hoi ((HD1.out.2 a hwa).symm.trans hat)
            have hrun := hlook W2 ((BW2.out.block _ HSh.out).trans hmap)
            have hR : Kd.R (Kd.int .i64) 2 W1 (w.heap.size + 1) (fun _ => True) v zs := Kd.R_of_own hoi.1 (fun _ _ => trivial)
            obtain ⟨Av, cv, rfl, hcv, hCv⟩ := Kd.R_reads hR
            have HZw : Aside0 (∀ n ∈ zs, (Lit.int .i64 n).wf = true) := ⟨fun n hn => HSW.out a n (hzs ▸ hn)⟩
            have HZs : Aside0 (∀ n ∈ zs, n ∈ es.map (fun e => e.f1)) := ⟨fun n hn => succs_mem es p a n (hzs ▸ hn)⟩
            have hbf2 : (match innerB tt zs (a :: w0) ms with | none => some true | some (w', m') => bfs es p tt k1 w'.tail m') = some r := by rw [hzs]; exact HBf.out
            have HBf2 := Aside0.mk hbf2
            have HCv := Aside0.mk hCv
            have hlpos : (0 : Int) < ((a :: w0).length : Int) := by simp
            have HZl := Aside0.mk hzl
            clear hbf2 hzs hat hR hlook hmap hCv hzl HBf hC13
            go_wp2
            go_loopg [13, 52] zs.length (fun g2 s13 s52 w3 => ∃ (j : Nat) (ws ms : List Int) (Dm : DataW Unit), j ≤ zs.length ∧ zs.length - j ≤ g2 ∧ s52 = .int .i64 j ∧ Aside0 ((match innerB tt (zs.drop j) ws ms with | none => some true | some (w', m') => bfs es p tt k1 w'.tail m') = some r) ∧ Aside0 (0 < ws.length) ∧ Aside0 (Below W1.heap.size W1 w3) ∧ Aside0 (Kd.Q (Kd.int .i64) 2 w3 W1.heap.size (fun _ => True) s13 ws) ∧ Aside0 (w3.ownsMap Try.prog 2 (plainElem Try.prog 3) W1.heap.size ms.length Dm) ∧ Aside0 (Mof Dm ms) ∧ Aside0 ms.Nodup ∧ Aside0 (∀ x ∈ ms, x ∈ es.map (fun e => e.f1)) ∧ Aside0 (ws.length ≤ 1 + ms.length) ∧ Aside0 (∀ x ∈ ws, (Lit.int .i64 x).wf = true) ∧ Aside0 (W1.heap.size + 1 ≤ w3.heap.size))
            case atStart => exact ⟨0, a :: w0, ms, Dm, by omega, by omega, rfl, HBf2, ⟨by simp⟩, BW2, HQ, HM, HMd, HNdp, HSub, HLen, HWf, HNs⟩
            case round =>
              clear HBf2 BW2 HQ HM HMd HNdp HSub HLen HWf HNs h13 hwa hrun hlpos
              rename World => W3
              obtain ⟨j, ws, ms, Dm, hjz, hg2, rfl, HBf, HPos, BW3, HQ, HM, HMd, HNdp, HSub, HLen, HWf, HNs⟩ := hrel
              have hcell := Kd.C_below HCv.out BW3.out
              obtain ⟨A13, c13, rfl, hc13⟩ := Kd.Q_slice HQ.out
              have hz20 : zs.length ≤ 1048576 := Nat.le_trans HZl.out hlen
              by_cases hj : j < zs.length
              · have hjz2 : (j : Int) < (zs.length : Int) := by omega
                have hj0 : (0 : Int) ≤ (j : Int) := by omega
                obtain ⟨adv, rfl, hn⟩ := Kd.at_int hcell (j : Int) (by omega) (by omega)
                simp only [Int.toNat_natCast] at hn
                have hx : rd zs (j : Int) = zs[j]'hj := by show zs.getD j 0 = _; rw [List.getD_eq_getElem?_getD, List.getElem?_eq_getElem hj]; rfl
                have hmem : rd zs (j : Int) ∈ zs := by rw [hx]; exact List.getElem_mem _
                have hdr : zs.drop j = rd zs (j : Int) :: zs.drop (j + 1) := by rw [List.drop_eq_getElem_cons hj, hx]
                have hwn := HZw.out _ hmem
                have HTn := Aside0.mk (HZs.out _ hmem)
                have hbf := HBf.out
                rw [hdr] at hbf
                clear hx hmem hdr hcell HBf
                generalize rd zs (j : Int) = n at *
                by_cases hnt : n = tt
                · subst hnt
                  have hr : r = true := by simpa [innerB] using hbf.symm
                  subst hr
                  clear hbf
                  go_wp2
                  go_ret
                  exact ⟨rfl, below_step BW.out BW3.out⟩
                · have hnt1 : (n == tt) = false := beq_eq_false_iff_ne.2 hnt
                  unfold innerB at hbf
                  rw [if_neg hnt] at hbf
                  clear hnt
                  obtain ⟨c, hrunc, hatc, _⟩ := HM.out.lookup_int (int_keyed Try.underlying2) Try.underlying62 Try.underlying3 (zero3 _) (keyOf_int_mk Try.underlying2 hwn)
                  have hc := Mof_at HMd.out hatc
                  clear hatc
                  by_cases hm : ms.contains n = true
                  · rw [if_pos hm] at hbf hc
                    subst hc
                    have HBf := Aside0.mk hbf
                    clear hbf hm
                    go_wp2
                    go_roundg (zs.length - (j + 1))
                    case measure => omega
                    case rel => exact ⟨j + 1, ws, ms, Dm, by omega, by omega, by go_num, HBf, HPos, BW3, HQ, HM, HMd, HNdp, HSub, HLen, HWf, HNs⟩
                  · rw [if_neg hm] at hbf hc
                    subst hc
                    have HBf := Aside0.mk hbf
                    have hnm : n ∉ ms := by simpa using hm
                    have hnd : (ms ++ [n]).Nodup := List.nodup_append.2 ⟨HNdp.out, by simp, fun x hx y hy e => by rw [List.mem_singleton.1 hy] at e; exact hnm (e ▸ hx)⟩
                    have hsub : ∀ x ∈ ms ++ [n], x ∈ es.map (fun e => e.f1) := fun x hx => by
                      rcases List.mem_append.1 hx with hx | hx
                      · exact HSub.out x hx
                      · rw [List.mem_singleton.1 hx]; exact HTn.out
                    have hml := nodup_len _ _ hnd hsub
                    rw [List.length_map, List.length_append, List.length_singleton] at hml
                    have HNd2 := Aside0.mk hnd
                    have HSub2 := Aside0.mk hsub
                    have HMl := Aside0.mk hml
                    clear hbf hm hnm hnd hsub hml HNdp HSub
                    go_wp2_with (first | (at_mapUpdate; refine wpList_mapUpdate_own _ rfl _ _ _ 62 rfl 2 3 (int_keyed Try.underlying2) Try.underlying62 _ W1.heap.size ms.length _ rfl HM.out (by have := HMl.out; unfold maxLen; omega) _ _ _ rfl rfl (keyOf_int_mk Try.underlying2 hwn) _ [] (plainElem_int Try.underlying3 (by decide)) ?_; intro w6 hown6 hgrow6; have HQ6 := Aside0.mk (q_keep_map HQ.out HM.out hgrow6); have HM6 := Aside0.mk hown6; have BW6 := Aside0.mk (pw_below_grown BW3.out _ BW3.out.size hgrow6 (fun k hk => by injection hk with hk; omega)); have HN6 : Aside0 (W1.heap.size + 1 ≤ w6.heap.size) := ⟨Nat.le_trans HNs.out hgrow6.size⟩; clear hgrow6 hown6) | (at_builtin; refine Kd.Q_append (Kd.int .i64) (w0 := W1) W1.heap.size rfl (.tmp 65) (.tmp 67) 46 2 (.int .i64 0) 8 rfl Try.underlying46 info2 rfl (by decide) (by omega) _ ws n [.int .i64 n] (fun _ => True) (fun _ => False) rfl rfl ?aP (fun _ hk => hk.elim) ?aF ?aO ?aB ?aS ?aL ?_; (case aP => exact rfl); (case aF => exact (fun _ _ => trivial)); (case aO => exact HQ6.out); (case aB => exact BW6.out); (case aS => exact BW6.out.size); (case aL => have := HLen.out; have := HMl.out; omega); intro v7 w7 hq7 hb7 hg7 hat7))
                    have HM7 : Aside0 (w7.ownsMap Try.prog 2 (plainElem Try.prog 3) W1.heap.size (ms.length + 1) (Dm.put (.int .i64 n) (.lit (.int .i64 1)))) := ⟨HM6.out.kept hg7 (q_ne_map HQ6.out HM6.out)⟩
                    go_roundg (zs.length - (j + 1))
                    case measure => omega
                    case rel => exact ⟨j + 1, ws ++ [n], ms ++ [n], _, by omega, by omega, by go_num, HBf, ⟨by simp⟩, ⟨hb7⟩, ⟨hq7⟩, ⟨by rw [List.length_append, List.length_singleton]; exact HM7.out⟩, ⟨Mof_put HMd.out n⟩, HNd2, HSub2, ⟨by have := HLen.out; simp; omega⟩, ⟨fun x hx => by
                      rcases List.mem_append.1 hx with hx | hx
                      · exact HWf.out x hx
                      · rw [List.mem_singleton.1 hx]; exact hwn⟩, ⟨Nat.le_trans HN6.out hg7.size⟩⟩
              · obtain rfl : j = zs.length := by omega
                have hjz2 : ¬ (zs.length : Int) < (zs.length : Int) := by omega
                have hbf := HBf.out
                rw [List.drop_length] at hbf
                have HBfe : Aside0 (bfs es p tt k1 ws.tail ms = some r) := ⟨by simpa [innerB] using hbf⟩
                have hp1 : (1 : Int) ≤ (ws.length : Int) := by have := HPos.out; omega
                have hp2 : (ws.length : Int) ≤ (c13 : Int) := by omega
                have hp3 : (1 : Int) ≤ (c13 : Int) := by omega
                have HD := Aside0.mk (Kd.Q_drop (k := 1) HQ.out HPos.out)
                clear hbf HBf hcell
                by_cases hc1 : c13 = 1
                · subst hc1
                  rw [if_pos rfl] at HD
                  go_wp2
                  go_roundg k1
                  case measure => omega
                  case rel => exact ⟨ws.tail, ms, Dm, HBfe, BW3, ⟨by have h := HD.out; rw [show ws.length - 1 = 0 by omega] at h; rw [← List.drop_one]; exact h⟩, HM, HMd, HNdp, HSub, ⟨by have := HLen.out; rw [List.length_tail]; omega⟩, ⟨fun x hx => HWf.out x (List.mem_of_mem_tail hx)⟩, HNs⟩
                · have hc2 : (c13 == 1) = false := beq_eq_false_iff_ne.2 hc1
                  rw [if_neg hc1] at HD
                  go_wp2
                  go_roundg k1
                  case measure => omega
                  case rel => exact ⟨ws.tail, ms, Dm, HBfe, BW3, ⟨by rw [← List.drop_one]; exact HD.out⟩, HM, HMd, HNdp, HSub, ⟨by have := HLen.out; rw [List.length_tail]; omega⟩, ⟨fun x hx => HWf.out x (List.mem_of_mem_tail hx)⟩, HNs⟩


/-! ### impl_HasCycle: function 13 -/
set_option maxHeartbeats 4000000 in
theorem impl_HasCycle_1.calls (e : S58) (bk : Nat) (ks : Int) (w : World) (h : w.heap[bk]? = some (.cells #[.int .i64 ks] 2 (0, 0))) :
    Calls Try.prog 40 #[.agg #[.int .i64 e.f0, .int .i64 e.f1, .int .i64 e.f2], .pointer (some ⟨bk, 0, none⟩)] w fun e' w' => e' = .returned (.bool (amongB ks e)) ∧ Below w.heap.size w w' := by
  have hu := Try.underlying58
  have hh := cells1 (blk_alloc h (.cells #[.int .i64 e.f0, .int .i64 e.f1, .int .i64 e.f2] 58))
  obtain ⟨x0, x1, x2⟩ := cells3 (heap_alloc_new w (.cells #[.int .i64 e.f0, .int .i64 e.f1, .int .i64 e.f2] 58))
  have HB := Aside0.mk (below_alloc (Below.refl w.heap.size w) (.cells #[.int .i64 e.f0, .int .i64 e.f1, .int .i64 e.f2] 58))
  clear h
  go_enter Try.func40, Try.ntmps40
  go_wp2
  go_ret
  exact ⟨rfl, HB.out⟩
def hasGo (es : List S58) (p : S58 → Bool) : List S58 → List Int → Bool
  | [], _ => false
  | e :: l, ts => if p e = true then (if ts.contains e.f0 = true then hasGo es p l ts else if leadsB es p e.f0 e.f0 = true then true else hasGo es p l (ts ++ [e.f0])) else hasGo es p l ts
def impl_HasCycle.f (l : List S58) (ks : Int) : Option Bool := if l.length ≤ 1048576 ∧ edgesOk l = true then some (hasGo l (amongB ks) l []) else none
open Go.Maps Go.ChangeShapes in
set_option maxHeartbeats 8000000 in
set_option maxRecDepth 100000 in
theorem impl_HasCycle.calls (A0 : Option Addr) (c0 : Nat) (l0 : List S58) (a1 : Int) (r : Bool) (w : World) (hr0 : Kd.C k58 w A0 l0.length l0) (hc0 : l0.length ≤ c0) (h : impl_HasCycle.f l0 a1 = some r) :
    Calls Try.prog 13 #[.slice A0 l0.length c0, .int .i64 a1] w fun e w' => e = .returned (.bool r) ∧ Below w.heap.size w w' := by
  unfold impl_HasCycle.f at h
  by_cases hg : l0.length ≤ 1048576 ∧ edgesOk l0 = true
  · rw [if_pos hg] at h
    obtain ⟨hlen, hok⟩ := hg
    have HWF := Aside0.mk (edgesOk_at hok)
    injection h with h
    have HRes := Aside0.mk h
    have HR := Aside0.mk hr0
    have HCc := Aside0.mk hc0
    clear h hok hr0 hc0
    have hmm := @run_makeMap Try.prog
    have hu := Try.underlying58
    go_enter Try.func13, Try.ntmps13
    go_wp2
    go_loopg [13] l0.length (fun gg s13 wr => ∃ (kk : Nat) (ts : List Int) (Dm : DataW Unit), kk ≤ l0.length ∧ l0.length - kk ≤ gg ∧ s13 = .int .i64 kk ∧ Aside0 (hasGo l0 (amongB a1) (l0.drop kk) ts = r) ∧ Aside0 (Below w.heap.size w wr) ∧ Aside0 (wr.heap[w.heap.size]? = some (.cells #[.int .i64 a1] 2 (0, 0))) ∧ Aside0 (wr.ownsMap Try.prog 2 (plainElem Try.prog 3) (w.heap.size + 1) ts.length Dm) ∧ Aside0 (Mof Dm ts) ∧ Aside0 (ts.length ≤ kk))
    case atStart =>
      refine ⟨0, [], .map [], by omega, by omega, rfl, HRes, ⟨below_alloc (below_alloc (Below.refl _ w) _) _⟩, ⟨?_⟩, ⟨?_⟩, ⟨Mof_nil⟩, ⟨Nat.le_refl _⟩⟩
      · exact (Below.heap_alloc _ (.map #[] 0) w.heap.size (by simp)).trans (heap_alloc_new w (.cells #[.int .i64 a1] 2))
      · have := World.ownsMap_made (H := Unit) (w.alloc (.cells #[.int .i64 a1] 2)) Try.prog 2 (plainElem Try.prog 3); simpa using this
    case round =>
      clear HRes
      obtain ⟨kk, ts, Dm, hkk, hgg, rfl, HRes, BW, HBk, HM, HMd, HTl⟩ := hrel
      by_cases hlt : kk < l0.length
      · have hltz : (kk : Int) < (l0.length : Int) := by omega
        have h0z : (0 : Int) ≤ (kk : Int) := by omega
        have hx : rd_T58 l0 (kk : Int) = l0[kk]'hlt := by show l0.getD kk _ = _; rw [List.getD_eq_getElem?_getD, List.getElem?_eq_getElem hlt]; rfl
        have hmem : rd_T58 l0 (kk : Int) ∈ l0 := by rw [hx]; exact List.getElem_mem _
        obtain ⟨ad, e0, q0, q1, q2⟩ := at_T58 (Kd.C_below HR.out BW.out) (kk : Int) (by omega) (by omega)
        subst e0
        simp only [Int.toNat_natCast] at q0 q1 q2
        have hdr : l0.drop kk = rd_T58 l0 (kk : Int) :: l0.drop (kk + 1) := by rw [List.drop_eq_getElem_cons hlt, hx]
        have hres := HRes.out
        rw [hdr] at hres
        have hw2 := HWF.out _ hmem
        clear hx hmem hdr HRes
        generalize rd_T58 l0 (kk : Int) = x at *
        obtain ⟨f, t, k⟩ := x
        dsimp only at q0 q1 q2 hw2
        obtain ⟨hw2, _⟩ := hw2
        have HBx := Aside0.mk (heap_alloc_new wr (.cells #[.int .i64 f, .int .i64 t, .int .i64 k] 58))
        obtain ⟨x0, x1, x2⟩ := cells3 HBx.out
        have HCall := Aside0.mk (impl_HasCycle_1.calls ⟨f, t, k⟩ w.heap.size a1 (wr.alloc (.cells #[.int .i64 f, .int .i64 t, .int .i64 k] 58)) (blk_alloc HBk.out _))
        have HB1 := Aside0.mk (below_alloc BW.out (.cells #[.int .i64 f, .int .i64 t, .int .i64 k] 58))
        have HBk1 := Aside0.mk (blk_alloc HBk.out (.cells #[.int .i64 f, .int .i64 t, .int .i64 k] 58))
        have HM1 := Aside0.mk (HM.out.alloc (.cells #[.int .i64 f, .int .i64 t, .int .i64 k] 58))
        unfold hasGo at hres
        cases hq : amongB a1 ⟨f, t, k⟩ with
        | false =>
          rw [hq] at HCall hres
          rw [if_neg (by decide)] at hres
          have HRes := Aside0.mk hres
          clear hq hres
          go_wp2_with (go_at_call 40; refine HCall.out.mono ?_; rintro e w5 ⟨rfl, hb5⟩)
          go_roundg (l0.length - (kk + 1))
          case measure => omega
          case rel => exact ⟨kk + 1, ts, Dm, by omega, by omega, by go_num, HRes, ⟨below_step HB1.out hb5⟩, ⟨blk_below HBk1.out hb5⟩, ⟨map_keep HM1.out hb5⟩, HMd, ⟨Nat.le_succ_of_le HTl.out⟩⟩
        | true =>
          rw [hq] at HCall hres
          rw [if_pos rfl] at hres
          have HQ := Aside0.mk hq
          clear hq
          by_cases hm : ts.contains f = true
          · rw [if_pos hm] at hres
            have HRes := Aside0.mk hres
            clear hres
            go_wp2_with (go_at_call 40; refine HCall.out.mono ?_; rintro e w5 ⟨rfl, hb5⟩; obtain ⟨y0, y1, y2⟩ := cells3 (blk_below HBx.out hb5); obtain ⟨c, hrunc, hatc, _⟩ := (map_keep HM1.out hb5).lookup_int (int_keyed Try.underlying2) Try.underlying62 Try.underlying3 (zero3 _) (keyOf_int_mk Try.underlying2 hw2); have hc := Mof_at HMd.out hatc; rw [if_pos hm] at hc; subst hc; clear hatc)
            go_roundg (l0.length - (kk + 1))
            case measure => omega
            case rel => exact ⟨kk + 1, ts, Dm, by omega, by omega, by go_num, HRes, ⟨below_step HB1.out hb5⟩, ⟨blk_below HBk1.out hb5⟩, ⟨map_keep HM1.out hb5⟩, HMd, ⟨Nat.le_succ_of_le HTl.out⟩⟩
          · rw [if_neg hm] at hres
            have HRes := Aside0.mk hres
            clear hres
            go_upto_region 7 with (go_at_call 40; refine HCall.out.mono ?_; rintro e w5 ⟨rfl, hb5⟩; obtain ⟨y0, y1, y2⟩ := cells3 (blk_below HBx.out hb5); obtain ⟨c, hrunc, hatc, _⟩ := (map_keep HM1.out hb5).lookup_int (int_keyed Try.underlying2) Try.underlying62 Try.underlying3 (zero3 _) (keyOf_int_mk Try.underlying2 hw2); have hc := Mof_at HMd.out hatc; rw [if_neg hm] at hc; subst hc; clear hatc)
            have HM5 := Aside0.mk (map_keep HM1.out hb5)
            have HBk5 := Aside0.mk (blk_below HBk1.out hb5)
            have HB5 := Aside0.mk (below_step HB1.out hb5)
            have HBx5 := Aside0.mk (blk_below HBx.out hb5)
            clear hb5 hrunc x0 x1 x2 q0 q1 q2 hm HM HM1 HBk HBk1 HB1 BW HCall HBx
            go_upto_region 8 with (at_mapUpdate; refine wpList_mapUpdate_own _ rfl _ _ _ 62 rfl 2 3 (int_keyed Try.underlying2) Try.underlying62 _ (w.heap.size + 1) ts.length _ rfl HM5.out (by have := HTl.out; unfold maxLen; omega) _ _ _ rfl rfl (keyOf_int_mk Try.underlying2 hw2) _ [] (plainElem_int Try.underlying3 (by decide)) ?_; intro w6 hown6 hgrow6)
            have HM6 := Aside0.mk hown6
            have HBk6 := Aside0.mk (blk_grown HBk5.out hgrow6 (by simp))
            have HBx6 := Aside0.mk (blk_grown HBx5.out hgrow6 (fun e => by injection e with e; obtain ⟨es', ck', g1, _⟩ := HM5.out; have g2 := HBx5.out; rw [e, g1] at g2; injection g2 with g2; injection g2))
            have HB6 := Aside0.mk (pw_below_grown HB5.out _ HB5.out.size hgrow6 (fun k hk => by injection hk with hk; omega))
            obtain ⟨z0, z1, z2⟩ := cells3 HBx6.out
            have HL := Aside0.mk (impl_leads.calls (some ad) c0 l0 f f 40 #[.pointer (some ⟨w.heap.size, 0, none⟩)] (amongB a1) w6 (enters_of Try.func40 (by kernel_rfl) rfl) (Kd.C_below HR.out HB6.out) HCc.out hlen HWF.out hw2 (fun W x _ hb => impl_HasCycle_1.calls x w.heap.size a1 W (blk_below HBk6.out hb)))
            clear hown6 hgrow6 y0 y1 y2 HM5 HBk5 HBx5 HB5
            cases hl : leadsB l0 (amongB a1) f f with
            | true =>
              rw [hl] at HL HRes
              have hr : r = true := by have := HRes.out; simpa using this.symm
              subst hr
              clear hl
              go_wp2_with (go_at_call 41; refine HL.out.mono ?_; rintro e w8 ⟨rfl, hb8⟩)
              go_ret
              exact ⟨rfl, below_step HB6.out hb8⟩
            | false =>
              rw [hl] at HL HRes
              have HRes2 := Aside0.mk (HRes.out)
              clear hl
              go_wp2_with (go_at_call 41; refine HL.out.mono ?_; rintro e w8 ⟨rfl, hb8⟩)
              go_roundg (l0.length - (kk + 1))
              case measure => omega
              case rel => exact ⟨kk + 1, ts ++ [f], _, by omega, by omega, by go_num, ⟨by simpa using HRes2.out⟩, ⟨below_step HB6.out hb8⟩, ⟨blk_below HBk6.out hb8⟩, ⟨by rw [List.length_append, List.length_singleton]; exact map_keep HM6.out hb8⟩, ⟨Mof_put HMd.out f⟩, ⟨by have := HTl.out; simp; omega⟩⟩
      · have hltz : ¬ (kk : Int) < (l0.length : Int) := by omega
        obtain rfl : kk = l0.length := by omega
        have hr : r = false := by have := HRes.out; rw [List.drop_length] at this; simpa [hasGo] using this.symm
        subst hr
        go_wp2
        go_ret
        exact ⟨rfl, BW.out⟩
  · rw [if_neg hg] at h
    exact absurd h (by simp)


/-! ### laws_eqEdge: function 42 -/
def laws_eqEdge.f (a0_0 : Int) (a0_1 : Int) (a0_2 : Int) (a1_0 : Int) (a1_1 : Int) (a1_2 : Int) : Option (Bool) := if a0_0 = a1_0 then (if a0_1 = a1_1 then (if a0_2 = a1_2 then (some true) else (some false)) else (some false)) else (some false)
set_option maxHeartbeats 8000000 in
set_option maxRecDepth 100000 in
theorem laws_eqEdge.calls (a0_0 : Int) (a0_1 : Int) (a0_2 : Int) (a1_0 : Int) (a1_1 : Int) (a1_2 : Int) (r : Bool) (w : World) (h : laws_eqEdge.f a0_0 a0_1 a0_2 a1_0 a1_1 a1_2 = some r) :
    Calls Try.prog 42 #[.agg #[.int .i64 a0_0, .int .i64 a0_1, .int .i64 a0_2], .agg #[.int .i64 a1_0, .int .i64 a1_1, .int .i64 a1_2]] w fun e w' => e = .returned (.bool r) ∧ Below w.heap.size w w' := by
  have hu58 := Try.underlying58
  have HB := Aside0.mk (Below.refl w.heap.size w)
  have H : (if a0_0 = a1_0 then (if a0_1 = a1_1 then (if a0_2 = a1_2 then (some true) else (some false)) else (some false)) else (some false)) = some r := h
  clear h
  by_cases c3 : a0_0 = a1_0
  · rw [if_pos c3] at H
    have c3b0 : (a0_0 == a1_0) = true := beq_iff_eq.mpr c3
    have c3b1 : (a0_0 != a1_0) = false := bne_eq_false_iff_eq.mpr c3
    clear c3
    by_cases c4 : a0_1 = a1_1
    · rw [if_pos c4] at H
      have c4b0 : (a0_1 == a1_1) = true := beq_iff_eq.mpr c4
      have c4b1 : (a0_1 != a1_1) = false := bne_eq_false_iff_eq.mpr c4
      clear c4
      by_cases c5 : a0_2 = a1_2
      · rw [if_pos c5] at H
        have c5b0 : (a0_2 == a1_2) = true := beq_iff_eq.mpr c5
        have c5b1 : (a0_2 != a1_2) = false := bne_eq_false_iff_eq.mpr c5
        clear c5
        obtain rfl := Option.some.inj H
        go_enter Try.func42, Try.ntmps42
        go_wp2_with (first | ((with_reducible refine gate_dst (N := 2) rfl ?_); refine box_event ?hg (N := 2) ?hd (cs := #[.int .i64 a0_0, .int .i64 a0_1, .int .i64 a0_2]) (t := 58) ?hr ?_; (case hd => rfl); (case hg => rfl); (case hr => first | (go_simp; done) | (go_simp; rfl)); intro gb133 hg w6 hbox hb; have n0_ := Aside0.mk (below_step bo hb); have n1_ := Aside0.mk (hbox); have n2_ := Aside0.mk ((by rw [hg]; exact (below_size bo) : w.heap.size ≤ gb133)); have n3_ := Aside0.mk ((by rw [hg]; exact (below_size bo) : w.heap.size ≤ gb133)); clear HB; have HB := n0_; have BK133 := n1_; have GW133 := n2_; have GE133 := n3_; clear n0_ n1_ n2_ n3_; clear hb hbox hg) | ((with_reducible refine gate_dst (N := 3) rfl ?_); refine box_event ?hg (N := 3) ?hd (cs := #[.int .i64 a1_0, .int .i64 a1_1, .int .i64 a1_2]) (t := 58) ?hr ?_; (case hd => rfl); (case hg => rfl); (case hr => first | (go_simp; done) | (go_simp; rfl)); intro gb134 hg w7 hbox hb; have n0_ := Aside0.mk (blk_below (g := gb133) (o := .cells #[.int .i64 a0_0, .int .i64 a0_1, .int .i64 a0_2] 58 (0, 0)) (by (with_reducible repeat (first | refine blk_drewN ?_ _ | refine blk_drew ?_ | refine blk_alloc ?_ _)); exact BK133.out) hb); have n1_ := Aside0.mk (below_step (by repeat (first | (with_reducible first | exact HB.out | apply below_alloc | apply pw_below_drewN | apply below_drew1 | refine below_set ?_ GE133.out) | exact HB.out)) hb); have n2_ := Aside0.mk (hbox); have n3_ := Aside0.mk ((by rw [hg]; exact (below_size (by repeat (first | (with_reducible first | exact HB.out | apply below_alloc | apply pw_below_drewN | apply below_drew1 | refine below_set ?_ GE133.out) | exact HB.out))) : w.heap.size ≤ gb134)); have n4_ := Aside0.mk ((by rw [hg]; exact (below_size (by repeat (first | (with_reducible first | exact HB.out | apply below_alloc | apply pw_below_drewN | apply below_drew1 | refine below_set ?_ GE133.out) | exact HB.out))) : w.heap.size ≤ gb134)); have n5_ := Aside0.mk ((by rw [hg]; exact Nat.ne_of_lt (blk_lt (g := gb133) (o := .cells #[.int .i64 a0_0, .int .i64 a0_1, .int .i64 a0_2] 58 (0, 0)) (by (with_reducible repeat (first | refine blk_drewN ?_ _ | refine blk_drew ?_ | refine blk_alloc ?_ _)); exact BK133.out)) : gb133 ≠ gb134)); have n6_ := Aside0.mk ((by rw [hg]; exact Nat.ne_of_gt (blk_lt (g := gb133) (o := .cells #[.int .i64 a0_0, .int .i64 a0_1, .int .i64 a0_2] 58 (0, 0)) (by (with_reducible repeat (first | refine blk_drewN ?_ _ | refine blk_drew ?_ | refine blk_alloc ?_ _)); exact BK133.out)) : gb134 ≠ gb133)); clear BK133; clear HB; have BK133 := n0_; have HB := n1_; have BK134 := n2_; have GW134 := n3_; have GE134 := n4_; have NB133_134 := n5_; have NB134_133 := n6_; clear n0_ n1_ n2_ n3_ n4_ n5_ n6_; clear hb hbox hg; have hnb8 := NB133_134.out; have hnc8 := NB134_133.out; have hcz9_0 : w7.cell? ⟨gb133, 0, none⟩ = some (.int .i64 a0_0) := (blk_cell BK133.out 0).trans rfl; have hcz9_1 : w7.cell? ⟨gb133, 1, none⟩ = some (.int .i64 a0_1) := (blk_cell BK133.out 1).trans rfl; have hcz9_2 : w7.cell? ⟨gb133, 2, none⟩ = some (.int .i64 a0_2) := (blk_cell BK133.out 2).trans rfl; have hfz9_0 := blk_frozen BK133.out 0; have hfz9_1 := blk_frozen BK133.out 1; have hfz9_2 := blk_frozen BK133.out 2; have hcz10_0 : w7.cell? ⟨gb134, 0, none⟩ = some (.int .i64 a1_0) := (blk_cell BK134.out 0).trans rfl; have hcz10_1 : w7.cell? ⟨gb134, 1, none⟩ = some (.int .i64 a1_1) := (blk_cell BK134.out 1).trans rfl; have hcz10_2 : w7.cell? ⟨gb134, 2, none⟩ = some (.int .i64 a1_2) := (blk_cell BK134.out 2).trans rfl; have hfz10_0 := blk_frozen BK134.out 0; have hfz10_1 := blk_frozen BK134.out 1; have hfz10_2 := blk_frozen BK134.out 2))
        go_ret
        exact ⟨by first | rfl | (simp [errW_none, errW_some] <;> rfl) | (simp [*, errW_none, errW_some] <;> rfl), by repeat (first | (with_reducible first | exact HB.out | apply below_alloc | apply pw_below_drewN | apply below_drew1 | refine below_set ?_ GE133.out | refine below_set ?_ GE134.out) | exact HB.out)⟩
      · rw [if_neg c5] at H
        have c5b0 : (a0_2 == a1_2) = false := beq_eq_false_iff_ne.mpr c5
        have c5b1 : (a0_2 != a1_2) = true := bne_iff_ne.mpr c5
        obtain rfl := Option.some.inj H
        go_enter Try.func42, Try.ntmps42
        go_wp2_with (first | ((with_reducible refine gate_dst (N := 2) rfl ?_); refine box_event ?hg (N := 2) ?hd (cs := #[.int .i64 a0_0, .int .i64 a0_1, .int .i64 a0_2]) (t := 58) ?hr ?_; (case hd => rfl); (case hg => rfl); (case hr => first | (go_simp; done) | (go_simp; rfl)); intro gb133 hg w11 hbox hb; have n0_ := Aside0.mk (below_step bo hb); have n1_ := Aside0.mk (hbox); have n2_ := Aside0.mk ((by rw [hg]; exact (below_size bo) : w.heap.size ≤ gb133)); have n3_ := Aside0.mk ((by rw [hg]; exact (below_size bo) : w.heap.size ≤ gb133)); clear HB; have HB := n0_; have BK133 := n1_; have GW133 := n2_; have GE133 := n3_; clear n0_ n1_ n2_ n3_; clear hb hbox hg) | ((with_reducible refine gate_dst (N := 3) rfl ?_); refine box_event ?hg (N := 3) ?hd (cs := #[.int .i64 a1_0, .int .i64 a1_1, .int .i64 a1_2]) (t := 58) ?hr ?_; (case hd => rfl); (case hg => rfl); (case hr => first | (go_simp; done) | (go_simp; rfl)); intro gb134 hg w12 hbox hb; have n0_ := Aside0.mk (blk_below (g := gb133) (o := .cells #[.int .i64 a0_0, .int .i64 a0_1, .int .i64 a0_2] 58 (0, 0)) (by (with_reducible repeat (first | refine blk_drewN ?_ _ | refine blk_drew ?_ | refine blk_alloc ?_ _)); exact BK133.out) hb); have n1_ := Aside0.mk (below_step (by repeat (first | (with_reducible first | exact HB.out | apply below_alloc | apply pw_below_drewN | apply below_drew1 | refine below_set ?_ GE133.out) | exact HB.out)) hb); have n2_ := Aside0.mk (hbox); have n3_ := Aside0.mk ((by rw [hg]; exact (below_size (by repeat (first | (with_reducible first | exact HB.out | apply below_alloc | apply pw_below_drewN | apply below_drew1 | refine below_set ?_ GE133.out) | exact HB.out))) : w.heap.size ≤ gb134)); have n4_ := Aside0.mk ((by rw [hg]; exact (below_size (by repeat (first | (with_reducible first | exact HB.out | apply below_alloc | apply pw_below_drewN | apply below_drew1 | refine below_set ?_ GE133.out) | exact HB.out))) : w.heap.size ≤ gb134)); have n5_ := Aside0.mk ((by rw [hg]; exact Nat.ne_of_lt (blk_lt (g := gb133) (o := .cells #[.int .i64 a0_0, .int .i64 a0_1, .int .i64 a0_2] 58 (0, 0)) (by (with_reducible repeat (first | refine blk_drewN ?_ _ | refine blk_drew ?_ | refine blk_alloc ?_ _)); exact BK133.out)) : gb133 ≠ gb134)); have n6_ := Aside0.mk ((by rw [hg]; exact Nat.ne_of_gt (blk_lt (g := gb133) (o := .cells #[.int .i64 a0_0, .int .i64 a0_1, .int .i64 a0_2] 58 (0, 0)) (by (with_reducible repeat (first | refine blk_drewN ?_ _ | refine blk_drew ?_ | refine blk_alloc ?_ _)); exact BK133.out)) : gb134 ≠ gb133)); clear BK133; clear HB; have BK133 := n0_; have HB := n1_; have BK134 := n2_; have GW134 := n3_; have GE134 := n4_; have NB133_134 := n5_; have NB134_133 := n6_; clear n0_ n1_ n2_ n3_ n4_ n5_ n6_; clear hb hbox hg; have hnb13 := NB133_134.out; have hnc13 := NB134_133.out; have hcz14_0 : w12.cell? ⟨gb133, 0, none⟩ = some (.int .i64 a0_0) := (blk_cell BK133.out 0).trans rfl; have hcz14_1 : w12.cell? ⟨gb133, 1, none⟩ = some (.int .i64 a0_1) := (blk_cell BK133.out 1).trans rfl; have hcz14_2 : w12.cell? ⟨gb133, 2, none⟩ = some (.int .i64 a0_2) := (blk_cell BK133.out 2).trans rfl; have hfz14_0 := blk_frozen BK133.out 0; have hfz14_1 := blk_frozen BK133.out 1; have hfz14_2 := blk_frozen BK133.out 2; have hcz15_0 : w12.cell? ⟨gb134, 0, none⟩ = some (.int .i64 a1_0) := (blk_cell BK134.out 0).trans rfl; have hcz15_1 : w12.cell? ⟨gb134, 1, none⟩ = some (.int .i64 a1_1) := (blk_cell BK134.out 1).trans rfl; have hcz15_2 : w12.cell? ⟨gb134, 2, none⟩ = some (.int .i64 a1_2) := (blk_cell BK134.out 2).trans rfl; have hfz15_0 := blk_frozen BK134.out 0; have hfz15_1 := blk_frozen BK134.out 1; have hfz15_2 := blk_frozen BK134.out 2))
        go_ret
        exact ⟨by first | rfl | (simp [errW_none, errW_some] <;> rfl) | (simp [*, errW_none, errW_some] <;> rfl), by repeat (first | (with_reducible first | exact HB.out | apply below_alloc | apply pw_below_drewN | apply below_drew1 | refine below_set ?_ GE133.out | refine below_set ?_ GE134.out) | exact HB.out)⟩
    · rw [if_neg c4] at H
      have c4b0 : (a0_1 == a1_1) = false := beq_eq_false_iff_ne.mpr c4
      have c4b1 : (a0_1 != a1_1) = true := bne_iff_ne.mpr c4
      obtain rfl := Option.some.inj H
      go_enter Try.func42, Try.ntmps42
      go_wp2_with (first | ((with_reducible refine gate_dst (N := 2) rfl ?_); refine box_event ?hg (N := 2) ?hd (cs := #[.int .i64 a0_0, .int .i64 a0_1, .int .i64 a0_2]) (t := 58) ?hr ?_; (case hd => rfl); (case hg => rfl); (case hr => first | (go_simp; done) | (go_simp; rfl)); intro gb133 hg w16 hbox hb; have n0_ := Aside0.mk (below_step bo hb); have n1_ := Aside0.mk (hbox); have n2_ := Aside0.mk ((by rw [hg]; exact (below_size bo) : w.heap.size ≤ gb133)); have n3_ := Aside0.mk ((by rw [hg]; exact (below_size bo) : w.heap.size ≤ gb133)); clear HB; have HB := n0_; have BK133 := n1_; have GW133 := n2_; have GE133 := n3_; clear n0_ n1_ n2_ n3_; clear hb hbox hg) | ((with_reducible refine gate_dst (N := 3) rfl ?_); refine box_event ?hg (N := 3) ?hd (cs := #[.int .i64 a1_0, .int .i64 a1_1, .int .i64 a1_2]) (t := 58) ?hr ?_; (case hd => rfl); (case hg => rfl); (case hr => first | (go_simp; done) | (go_simp; rfl)); intro gb134 hg w17 hbox hb; have n0_ := Aside0.mk (blk_below (g := gb133) (o := .cells #[.int .i64 a0_0, .int .i64 a0_1, .int .i64 a0_2] 58 (0, 0)) (by (with_reducible repeat (first | refine blk_drewN ?_ _ | refine blk_drew ?_ | refine blk_alloc ?_ _)); exact BK133.out) hb); have n1_ := Aside0.mk (below_step (by repeat (first | (with_reducible first | exact HB.out | apply below_alloc | apply pw_below_drewN | apply below_drew1 | refine below_set ?_ GE133.out) | exact HB.out)) hb); have n2_ := Aside0.mk (hbox); have n3_ := Aside0.mk ((by rw [hg]; exact (below_size (by repeat (first | (with_reducible first | exact HB.out | apply below_alloc | apply pw_below_drewN | apply below_drew1 | refine below_set ?_ GE133.out) | exact HB.out))) : w.heap.size ≤ gb134)); have n4_ := Aside0.mk ((by rw [hg]; exact (below_size (by repeat (first | (with_reducible first | exact HB.out | apply below_alloc | apply pw_below_drewN | apply below_drew1 | refine below_set ?_ GE133.out) | exact HB.out))) : w.heap.size ≤ gb134)); have n5_ := Aside0.mk ((by rw [hg]; exact Nat.ne_of_lt (blk_lt (g := gb133) (o := .cells #[.int .i64 a0_0, .int .i64 a0_1, .int .i64 a0_2] 58 (0, 0)) (by (with_reducible repeat (first | refine blk_drewN ?_ _ | refine blk_drew ?_ | refine blk_alloc ?_ _)); exact BK133.out)) : gb133 ≠ gb134)); have n6_ := Aside0.mk ((by rw [hg]; exact Nat.ne_of_gt (blk_lt (g := gb133) (o := .cells #[.int .i64 a0_0, .int .i64 a0_1, .int .i64 a0_2] 58 (0, 0)) (by (with_reducible repeat (first | refine blk_drewN ?_ _ | refine blk_drew ?_ | refine blk_alloc ?_ _)); exact BK133.out)) : gb134 ≠ gb133)); clear BK133; clear HB; have BK133 := n0_; have HB := n1_; have BK134 := n2_; have GW134 := n3_; have GE134 := n4_; have NB133_134 := n5_; have NB134_133 := n6_; clear n0_ n1_ n2_ n3_ n4_ n5_ n6_; clear hb hbox hg; have hnb18 := NB133_134.out; have hnc18 := NB134_133.out; have hcz19_0 : w17.cell? ⟨gb133, 0, none⟩ = some (.int .i64 a0_0) := (blk_cell BK133.out 0).trans rfl; have hcz19_1 : w17.cell? ⟨gb133, 1, none⟩ = some (.int .i64 a0_1) := (blk_cell BK133.out 1).trans rfl; have hcz19_2 : w17.cell? ⟨gb133, 2, none⟩ = some (.int .i64 a0_2) := (blk_cell BK133.out 2).trans rfl; have hfz19_0 := blk_frozen BK133.out 0; have hfz19_1 := blk_frozen BK133.out 1; have hfz19_2 := blk_frozen BK133.out 2; have hcz20_0 : w17.cell? ⟨gb134, 0, none⟩ = some (.int .i64 a1_0) := (blk_cell BK134.out 0).trans rfl; have hcz20_1 : w17.cell? ⟨gb134, 1, none⟩ = some (.int .i64 a1_1) := (blk_cell BK134.out 1).trans rfl; have hcz20_2 : w17.cell? ⟨gb134, 2, none⟩ = some (.int .i64 a1_2) := (blk_cell BK134.out 2).trans rfl; have hfz20_0 := blk_frozen BK134.out 0; have hfz20_1 := blk_frozen BK134.out 1; have hfz20_2 := blk_frozen BK134.out 2))
      go_ret
      exact ⟨by first | rfl | (simp [errW_none, errW_some] <;> rfl) | (simp [*, errW_none, errW_some] <;> rfl), by repeat (first | (with_reducible first | exact HB.out | apply below_alloc | apply pw_below_drewN | apply below_drew1 | refine below_set ?_ GE133.out | refine below_set ?_ GE134.out) | exact HB.out)⟩
  · rw [if_neg c3] at H
    have c3b0 : (a0_0 == a1_0) = false := beq_eq_false_iff_ne.mpr c3
    have c3b1 : (a0_0 != a1_0) = true := bne_iff_ne.mpr c3
    obtain rfl := Option.some.inj H
    go_enter Try.func42, Try.ntmps42
    go_wp2_with (first | ((with_reducible refine gate_dst (N := 2) rfl ?_); refine box_event ?hg (N := 2) ?hd (cs := #[.int .i64 a0_0, .int .i64 a0_1, .int .i64 a0_2]) (t := 58) ?hr ?_; (case hd => rfl); (case hg => rfl); (case hr => first | (go_simp; done) | (go_simp; rfl)); intro gb133 hg w21 hbox hb; have n0_ := Aside0.mk (below_step bo hb); have n1_ := Aside0.mk (hbox); have n2_ := Aside0.mk ((by rw [hg]; exact (below_size bo) : w.heap.size ≤ gb133)); have n3_ := Aside0.mk ((by rw [hg]; exact (below_size bo) : w.heap.size ≤ gb133)); clear HB; have HB := n0_; have BK133 := n1_; have GW133 := n2_; have GE133 := n3_; clear n0_ n1_ n2_ n3_; clear hb hbox hg) | ((with_reducible refine gate_dst (N := 3) rfl ?_); refine box_event ?hg (N := 3) ?hd (cs := #[.int .i64 a1_0, .int .i64 a1_1, .int .i64 a1_2]) (t := 58) ?hr ?_; (case hd => rfl); (case hg => rfl); (case hr => first | (go_simp; done) | (go_simp; rfl)); intro gb134 hg w22 hbox hb; have n0_ := Aside0.mk (blk_below (g := gb133) (o := .cells #[.int .i64 a0_0, .int .i64 a0_1, .int .i64 a0_2] 58 (0, 0)) (by (with_reducible repeat (first | refine blk_drewN ?_ _ | refine blk_drew ?_ | refine blk_alloc ?_ _)); exact BK133.out) hb); have n1_ := Aside0.mk (below_step (by repeat (first | (with_reducible first | exact HB.out | apply below_alloc | apply pw_below_drewN | apply below_drew1 | refine below_set ?_ GE133.out) | exact HB.out)) hb); have n2_ := Aside0.mk (hbox); have n3_ := Aside0.mk ((by rw [hg]; exact (below_size (by repeat (first | (with_reducible first | exact HB.out | apply below_alloc | apply pw_below_drewN | apply below_drew1 | refine below_set ?_ GE133.out) | exact HB.out))) : w.heap.size ≤ gb134)); have n4_ := Aside0.mk ((by rw [hg]; exact (below_size (by repeat (first | (with_reducible first | exact HB.out | apply below_alloc | apply pw_below_drewN | apply below_drew1 | refine below_set ?_ GE133.out) | exact HB.out))) : w.heap.size ≤ gb134)); have n5_ := Aside0.mk ((by rw [hg]; exact Nat.ne_of_lt (blk_lt (g := gb133) (o := .cells #[.int .i64 a0_0, .int .i64 a0_1, .int .i64 a0_2] 58 (0, 0)) (by (with_reducible repeat (first | refine blk_drewN ?_ _ | refine blk_drew ?_ | refine blk_alloc ?_ _)); exact BK133.out)) : gb133 ≠ gb134)); have n6_ := Aside0.mk ((by rw [hg]; exact Nat.ne_of_gt (blk_lt (g := gb133) (o := .cells #[.int .i64 a0_0, .int .i64 a0_1, .int .i64 a0_2] 58 (0, 0)) (by (with_reducible repeat (first | refine blk_drewN ?_ _ | refine blk_drew ?_ | refine blk_alloc ?_ _)); exact BK133.out)) : gb134 ≠ gb133)); clear BK133; clear HB; have BK133 := n0_; have HB := n1_; have BK134 := n2_; have GW134 := n3_; have GE134 := n4_; have NB133_134 := n5_; have NB134_133 := n6_; clear n0_ n1_ n2_ n3_ n4_ n5_ n6_; clear hb hbox hg; have hnb23 := NB133_134.out; have hnc23 := NB134_133.out; have hcz24_0 : w22.cell? ⟨gb133, 0, none⟩ = some (.int .i64 a0_0) := (blk_cell BK133.out 0).trans rfl; have hcz24_1 : w22.cell? ⟨gb133, 1, none⟩ = some (.int .i64 a0_1) := (blk_cell BK133.out 1).trans rfl; have hcz24_2 : w22.cell? ⟨gb133, 2, none⟩ = some (.int .i64 a0_2) := (blk_cell BK133.out 2).trans rfl; have hfz24_0 := blk_frozen BK133.out 0; have hfz24_1 := blk_frozen BK133.out 1; have hfz24_2 := blk_frozen BK133.out 2; have hcz25_0 : w22.cell? ⟨gb134, 0, none⟩ = some (.int .i64 a1_0) := (blk_cell BK134.out 0).trans rfl; have hcz25_1 : w22.cell? ⟨gb134, 1, none⟩ = some (.int .i64 a1_1) := (blk_cell BK134.out 1).trans rfl; have hcz25_2 : w22.cell? ⟨gb134, 2, none⟩ = some (.int .i64 a1_2) := (blk_cell BK134.out 2).trans rfl; have hfz25_0 := blk_frozen BK134.out 0; have hfz25_1 := blk_frozen BK134.out 1; have hfz25_2 := blk_frozen BK134.out 2))
    go_ret
    exact ⟨by first | rfl | (simp [errW_none, errW_some] <;> rfl) | (simp [*, errW_none, errW_some] <;> rfl), by repeat (first | (with_reducible first | exact HB.out | apply below_alloc | apply pw_below_drewN | apply below_drew1 | refine below_set ?_ GE133.out | refine below_set ?_ GE134.out) | exact HB.out)⟩

end Go.Proofs.Ytifpmjnbkodgfaa.XFnExactHasCycle
