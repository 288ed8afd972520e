/- The machine's side of one law: functions as plain Lean functions, and that the calls do what these say. Written by a program of this session; no condition beyond those that each theorem names. -/
import Derived.Test.YtkabmhjnhcfkcaaXFnExactSerialOrderx0
import Derived.Test.YtkabmhjnhcfkcaaXFnExactSerialOrderx1
import Derived.Test.YtkabmhjnhcfkcaaXFnExactSerialOrderx11
namespace Go.Proofs.Ytkabmhjnhcfkcaa.XFnExactSerialOrder
open Go.RowKit Go.Proofs.YtkabmhjnhcfkcaaW.PrintWords Go.Proofs.YtkabmhjnhcfkcaaW.PrintLast Go.Proofs.YtkabmhjnhcfkcaaW.PrintMore
attribute [local go_sem] max2_int min2_int max_two min_two max_three min_three max_four min_four   -- for this text's walks alone
set_option linter.unusedVariables false
set_option linter.unusedSimpArgs false

attribute [local go_sem high] eqA45
/-! ### slices_IndexFunc_int64_int64: function 59 -/
set_option maxHeartbeats 4000000 in
set_option maxRecDepth 100000 in
theorem slices_IndexFunc_int64_int64.calls (A0 : Option Addr) (c0 : Nat) (l0 : List (Int)) (gf : Nat) (lb : Array Value) (p : Int → Bool) (w : World) (eg : ∀ args w, (callFunc gf args).run Try.prog w = .ok (.enter gf args) w) (hr0 : Kd.C (Kd.int .i64) w A0 l0.length l0)
    (hp : ∀ (W : World) (x : Int), x ∈ l0 → Below w.heap.size w W → Calls Try.prog gf (#[.int .i64 x] ++ lb) W fun e w' => e = .returned (.bool (p x)) ∧ Below w.heap.size w w') :
    Calls Try.prog 59 #[.slice A0 l0.length c0, .func (.func gf) #[] lb] w fun e w' => e = .returned (.int .i64 (idxP p l0)) ∧ Below w.heap.size w w' := by
  have hlen := Kd.C_max hr0
  go_enter Try.func59, Try.ntmps59
  go_wp2
  go_loopg [5, 8] l0.length (fun gg _ s8 wr => ∃ kk : Nat, kk ≤ l0.length ∧ l0.length - kk ≤ gg ∧ s8 = .int .i64 kk ∧ Aside0 (Below w.heap.size w wr) ∧ Aside0 (∀ j, j < kk → p (l0.getD j 0) = false))
  case atStart => exact ⟨0, Nat.zero_le _, by omega, rfl, ⟨Below.refl _ w⟩, ⟨fun j hj => absurd hj (Nat.not_lt_zero _)⟩⟩
  case round =>
    obtain ⟨kk, hkk, hg, rfl, BW, HA⟩ := hrel
    by_cases hlt : kk < l0.length
    · have hltz : (kk : Int) < (l0.length : Int) := by omega
      have hrd := Kd.C_below hr0 BW.out
      obtain ⟨ade, eA, hce_0⟩ := Kd.at_int hrd (kk : Int) (by omega) (by omega)
      subst eA
      have hcall := hp wr (rd l0 (kk : Int))  (getD_mem_ _ _ _ hlt) BW.out 
      have hx : rd l0 (kk : Int) = l0.getD kk 0 := rfl
      simp only [Int.toNat_natCast] at hce_0
      clear hr0 hp hrd
      have HX := Aside0.mk hx
      clear hx
      skip
      cases hq : p (rd l0 (kk : Int)) with
      | true =>
        rw [hq] at hcall
        have HQ := Aside0.mk hq
        clear hq
        go_wp2_with (go_at_fn gf; refine hcall.mono ?_; rintro e w' ⟨rfl, hb'⟩)
        go_ret
        exact ⟨by rw [idxP_hit p 0 l0 kk hlt HA.out (by rw [← HX.out]; exact HQ.out)]; rfl, hb'⟩
      | false =>
        rw [hq] at hcall
        have HQ := Aside0.mk hq
        clear hq
        go_wp2_with (go_at_fn gf; refine hcall.mono ?_; rintro e w' ⟨rfl, hb'⟩)
        go_roundg (l0.length - (kk + 1))
        case measure => omega
        case rel =>
          refine ⟨kk + 1, by omega, by omega, by go_num, ⟨hb'⟩, ⟨fun j hj => ?_⟩⟩
          by_cases e : j = kk
          · subst e; rw [← HX.out]; exact HQ.out
          · exact HA.out j (by omega)
    · have hltz : ¬ (kk : Int) < (l0.length : Int) := by omega
      have : kk = l0.length := by omega
      subst this
      clear hr0 hp
      go_wp2
      go_ret
      exact ⟨by rw [idxP_miss p 0 l0 HA.out]; rfl, BW.out⟩

/-! ### slices_DeleteFunc_int64_int64: function 77 -/
set_option maxHeartbeats 4000000 in
set_option maxRecDepth 100000 in
theorem slices_DeleteFunc_int64_int64.calls (gf : Nat) (lb : Array Value) (p : Int → Bool) (base : Nat) (ok : Nat → Prop) (v : Value) (l0 : List Int) (w : World) (eg : ∀ args w, (callFunc gf args).run Try.prog w = .ok (.enter gf args) w) (ho : Kd.R (Kd.int .i64) 2 w base ok v l0)
    (hp : ∀ (W : World) (x : Int), x ∈ l0 → w.grownBy W v.ownBlock → Calls Try.prog gf (#[.int .i64 x] ++ lb) W fun e w' => e = .returned (.bool (p x)) ∧ Below W.heap.size W w') :
    Calls Try.prog 77 #[v, .func (.func gf) #[] lb] w fun e w' => ∃ v', e = .returned v' ∧ Kd.R (Kd.int .i64) 2 w' base ok v' (l0.filter (fun x => !p x)) ∧ w.grownBy w' v.ownBlock := by
  obtain ⟨A, c, rfl, hc, hC⟩ := Kd.R_reads ho
  have hlen := Kd.C_max hC
  have hidx := slices_IndexFunc_int64_int64.calls A c l0 gf lb p w eg hC (fun W x hx hb => (hp W x hx (grown_of_below hb _)).mono fun e w' h => ⟨h.1, below_step hb h.2⟩)
  by_cases hneg : idxP p l0 < 0
  · have hm1 : idxP p l0 = -1 := by have := (idxP_ge p l0).1; omega
    have hall := (idxP_neg p l0).1 hneg
    have hfil : l0.filter (fun x => !p x) = l0 := List.filter_eq_self.2 (fun x hx => by rw [hall x hx]; rfl)
    rw [hm1] at hidx
    have HI := Aside0.mk hidx
    have HF := Aside0.mk hfil
    have HO := Aside0.mk ho
    clear hidx hfil ho hm1 hneg hall hp hC
    go_enter Try.func77, Try.ntmps77
    go_wp2_with (go_at_call 59; refine HI.out.mono ?_; rintro e w1 ⟨rfl, hb⟩)
    go_ret
    exact ⟨_, rfl, by rw [HF.out]; exact Kd.R_below HO.out hb, grown_of_below hb _⟩
  · obtain ⟨k0, hk0⟩ : ∃ k0 : Nat, idxP p l0 = k0 := ⟨(idxP p l0).toNat, by omega⟩
    have hklt : k0 < l0.length := by have := (idxP_ge p l0).2; omega
    obtain ⟨g, cap, hv, hbase, hglt, _⟩ := Kd.R_form ho (by omega)
    injection hv with hA _ hcap
    subst hA
    subst hcap
    have hfirst : (l0.take (k0 + 1)).filter (fun x => !p x) = l0.take k0 ∧ p (l0.getD k0 0) = true := by
      have h1 : ∀ (l : List Int) (k : Nat), k < l.length → idxP p l = k → (l.take (k + 1)).filter (fun x => !p x) = l.take k ∧ p (l.getD k 0) = true := by
        intro l
        induction l with
        | nil => intro k hk; simp at hk
        | cons x xs ih =>
          intro k hk hi
          simp only [idxP] at hi
          by_cases hx : p x = true
          · rw [if_pos hx] at hi
            have : k = 0 := by omega
            subst this
            simp [hx]
          · rw [if_neg hx] at hi
            have hx' : p x = false := by simpa using hx
            by_cases hn : idxP p xs < 0
            · rw [if_pos hn] at hi; omega
            · rw [if_neg hn] at hi
              obtain ⟨m, rfl⟩ : ∃ m, k = m + 1 := ⟨k - 1, by omega⟩
              obtain ⟨h2, h3⟩ := ih m (by simpa using hk) (by omega)
              refine ⟨?_, by simpa using h3⟩
              rw [List.take_succ_cons, List.filter_cons, hx', List.take_succ_cons, h2]
              rfl
      exact h1 l0 k0 hklt hk0
    rw [hk0] at hidx
    have hne1 : ((k0 : Int) == -1) = false := beq_eq_false_iff_ne.2 (by omega)
    have HI := Aside0.mk hidx
    have HO := Aside0.mk ho
    have HF := Aside0.mk hfirst
    have HP := Aside0.mk hp
    clear hidx hfirst ho hp hk0 hneg hC
    go_enter Try.func77, Try.ntmps77
    go_wp2_with (go_at_call 59; refine HI.out.mono ?_; rintro e w1 ⟨rfl, hb⟩)
    go_loopg [5, 6, 7] l0.length (fun gg s5 s6 _ wr => ∃ (i j : Nat) (cur : List Int), s5 = .int .i64 i ∧ s6 = .int .i64 j ∧ i < j ∧ j ≤ l0.length ∧ l0.length - j ≤ gg ∧ cur.length = l0.length ∧ Aside0 (cur.take i = (l0.take j).filter (fun x => !p x)) ∧ Aside0 (cur.drop j = l0.drop j) ∧ Aside0 (Kd.R (Kd.int .i64) 2 wr base ok (.slice (some ⟨g, 0, none⟩) l0.length c) cur) ∧ Aside0 (w.grownBy wr (some g)))
    case atStart => exact ⟨k0, k0 + 1, l0, rfl, by go_num, by omega, by omega, by omega, rfl, ⟨HF.out.1.symm⟩, ⟨rfl⟩, ⟨Kd.R_below HO.out hb⟩, ⟨grown_of_below hb _⟩⟩
    case round =>
      obtain ⟨i, j, cur, rfl, rfl, hij, hjl, hgg, hcl, HT, HD, HR, HG⟩ := hrel
      by_cases hlt : j < l0.length
      · have hltz : (j : Int) < (l0.length : Int) := by omega
        have hcj := Kd.R_celln 0 HR.out (j : Int) (by omega) (by omega)
        have hci := Kd.R_celln 0 HR.out (i : Int) (by omega) (by omega)
        have hx : rdOf 0 cur (j : Int) = l0.getD j 0 := by
          show cur.getD j 0 = _
          have := congrArg List.head? HD.out
          rw [List.head?_drop, List.head?_drop] at this
          exact getD_of 0 this
        rw [hx] at hcj
        have hcall := HP.out wr (l0.getD j 0) (getD_mem_ _ _ _ hlt) HG.out
        have hft := filter_take_succ (fun x => !p x) l0 j hlt 0
        rw [← HT.out] at hft
        have hset := fun W (h : Kd.R (Kd.int .i64) 2 W base ok (.slice (some ⟨g, 0, none⟩) l0.length c) cur) => Kd.R_putg h (i : Int) (l0.getD j 0)
        generalize l0.getD j 0 = x at hcj hcall hft hset
        generalize rdOf 0 cur (i : Int) = old at hci
        obtain ⟨hcj1, hcj2⟩ := hcj
        obtain ⟨hci1, hci2⟩ := hci
        simp only [Int.toNat_natCast] at hcj1 hcj2 hci1 hci2 hset
        clear hx
        have HFT := Aside0.mk hft
        have HSET := Aside0.mk hset
        clear hft hset
        cases hq : p x with
        | false =>
          rw [hq] at hcall
          have HQ := Aside0.mk hq
          clear hq
          have hgl : g < wr.heap.size := Nat.lt_of_lt_of_le hglt HG.out.size
          have HGL := Aside0.mk hgl
          clear hgl
          go_wp2_with (go_at_fn gf; refine hcall.mono ?_; rintro e w2 ⟨rfl, hb2⟩; have hci3 := (hb2.cell (p := ⟨g, i, none⟩) HGL.out).trans hci1; have hci4 := (hb2.frozen (p := ⟨g, i, none⟩) HGL.out).trans hci2; clear hci1 hci2)
          have hs2 := HSET.out w2 (Kd.R_below HR.out hb2)
          have hn : j < cur.length := by omega
          go_roundg (l0.length - (j + 1))
          case measure => omega
          case rel =>
            refine ⟨i + 1, j + 1, cur.set i x, by go_num, by go_num, by omega, by omega, by omega, by simpa using hcl, ⟨?_⟩, ⟨?_⟩, ⟨hs2.1⟩, ⟨(HG.out.trans (grown_of_below hb2 _)).trans hs2.2⟩⟩
            · rw [HFT.out, HQ.out]
              simp only [Bool.not_false, if_true]
              rw [List.take_succ_eq_append_getElem (by simp; omega), List.take_set_of_le (Nat.le_refl _), List.getElem_set_self]
            · rw [List.drop_set_of_lt (by omega)]
              have := congrArg (List.drop 1) HD.out
              rwa [List.drop_drop, List.drop_drop] at this
        | true =>
          rw [hq] at hcall
          have HQ := Aside0.mk hq
          clear hq hci1 hci2
          go_wp2_with (go_at_fn gf; refine hcall.mono ?_; rintro e w2 ⟨rfl, hb2⟩)
          go_roundg (l0.length - (j + 1))
          case measure => omega
          case rel =>
            refine ⟨i, j + 1, cur, rfl, by go_num, by omega, by omega, by omega, hcl, ⟨?_⟩, ⟨?_⟩, ⟨Kd.R_below HR.out hb2⟩, ⟨HG.out.trans (grown_of_below hb2 _)⟩⟩
            · rw [HFT.out, HQ.out]
              simp
            · have := congrArg (List.drop 1) HD.out
              rwa [List.drop_drop, List.drop_drop] at this
      · have hltz : ¬ (j : Int) < (l0.length : Int) := by omega
        obtain rfl : j = l0.length := by omega
        have hci := fun q (hq : q < l0.length) => Kd.R_celln 0 HR.out (q : Int) (by omega) (by omega)
        have hclr : ∀ ty, (Builtin.clear_ #[29] ty #[.slice (some ⟨g, i, none⟩) (l0.length - i) (c - i)]).run Try.prog wr = .ok (.tuple #[]) (wr.setCells g i (List.replicate (l0.length - i) (.int .i64 0))) := fun ty =>
          Lib.run_clear_slice wr 29 2 ty _ Try.underlying29 Try.zeroValue2 rfl rfl g i _ _ (by omega) (fun q hq => by have := (hci (i + q) (by omega)).1; simp only [Int.toNat_natCast] at this; rw [this]; rfl) (fun q hq => by have := (hci (i + q) (by omega)).2; simpa only [Int.toNat_natCast] using this)
        obtain ⟨ys, y1, y2, y3, y4⟩ := Kd.R_setCells (0 : Int) (l0.length - i) i wr cur HR.out
        have hilt : (i : Int) ≤ (l0.length : Int) := by omega
        have hil2 : (0 : Int) ≤ (i : Int) := by omega
        have hic : (i : Int) ≤ (c : Int) := by omega
        have hlc : (l0.length : Int) ≤ (c : Int) := by omega
        have hcne : ¬ c = i := by omega
        have Y1 := Aside0.mk y1
        have Y4 := Aside0.mk y4
        have Y2 := Aside0.mk y2
        have Y3 := Aside0.mk y3
        clear hci y1 y2 y3 y4
        generalize wr.setCells g i (List.replicate (l0.length - i) (Value.int .i64 0)) = w9 at hclr Y1 Y4
        go_wp2
        go_ret
        have hfin : ys.take i = l0.filter (fun x => !p x) := by rw [Y2.out, HT.out, List.take_length]
        refine ⟨_, rfl, ?_, ?_⟩
        · rw [← hfin]
          exact Kd.R_take Y1.out (by have := Y3.out; omega)
        · show w.grownBy w9 (some g)
          exact HG.out.trans Y4.out


/-! ### impl_Hop_79: function 79 -/
set_option maxHeartbeats 4000000 in
set_option maxRecDepth 100000 in
theorem impl_Hop_79.calls (A0 : Option Addr) (c0 : Nat) (l0 : List (S48)) (gf : Nat) (lb : Array Value) (p : S48 → Bool) (w : World) (eg : ∀ args w, (callFunc gf args).run Try.prog w = .ok (.enter gf args) w) (hr0 : Kd.C k48 w A0 l0.length l0)
    (hp : ∀ (W : World) (x : S48), x ∈ l0 → Below w.heap.size w W → Calls Try.prog gf (#[.agg #[.int .i64 x.f0, .int .i64 x.f1, .int .i64 x.f2, .int .i64 x.f3]] ++ lb) W fun e w' => e = .returned (.bool (p x)) ∧ Below w.heap.size w w') :
    Calls Try.prog 79 #[.slice A0 l0.length c0, .func (.func gf) #[] lb] w fun e w' => e = .returned (.bool (l0.any p)) ∧ Below w.heap.size w w' := by
  have hcon := impl_Hop_74.calls A0 c0 l0 gf lb p w eg hr0 hp
  have HE := Aside0.mk (idxP_any p l0)
  generalize idxP p l0 = r at hcon HE
  clear hp hr0
  go_enter Try.func79, Try.ntmps79
  go_wp2_with (go_at_call 74; refine hcon.mono ?_; rintro e w' ⟨rfl, hb'⟩)
  go_ret
  exact ⟨by rw [← HE.out]; rfl, hb'⟩

/-! ### impl_writers: function 41 -/
def wroteP (txn key : Int) (x : S48) : Bool := x.f0 == 3 && x.f1 == txn && x.f2 == key
set_option maxHeartbeats 4000000 in
theorem impl_writers_1_1.calls (x : S48) (b1 b2 : Nat) (txn key : Int) (w : World) (h1 : w.cell? ⟨b1, 0, none⟩ = some (.int .i64 txn)) (h2 : w.cell? ⟨b2, 0, none⟩ = some (.int .i64 key)) (l1 : b1 < w.heap.size) (l2 : b2 < w.heap.size) :
    Calls Try.prog 80 #[.agg #[.int .i64 x.f0, .int .i64 x.f1, .int .i64 x.f2, .int .i64 x.f3], .pointer (some ⟨b1, 0, none⟩), .pointer (some ⟨b2, 0, none⟩)] w fun e w' => e = .returned (.bool (wroteP txn key x)) ∧ Below w.heap.size w w' := by
  obtain ⟨x0, x1, x2, x3⟩ := x
  have HP := Aside0.mk (show wroteP txn key ⟨x0, x1, x2, x3⟩ = (x0 == 3 && x1 == txn && x2 == key) from rfl)
  generalize wroteP txn key ⟨x0, x1, x2, x3⟩ = r at HP ⊢
  dsimp only
  cases e1 : (x0 == 3) with
  | false =>
    go_enter Try.func80, Try.ntmps80
    go_wp2
    go_ret
    exact ⟨by rw [HP.out, e1]; rfl, below_alloc (Below.refl _ _) _⟩
  | true =>
    cases e2 : (x1 == txn) with
    | false =>
      go_enter Try.func80, Try.ntmps80
      go_wp2
      go_ret
      exact ⟨by rw [HP.out, e1, e2]; rfl, below_alloc (Below.refl _ _) _⟩
    | true =>
      go_enter Try.func80, Try.ntmps80
      go_wp2
      go_ret
      exact ⟨by rw [HP.out, e1, e2]; rfl, below_alloc (Below.refl _ _) _⟩
set_option maxHeartbeats 4000000 in
theorem impl_writers_1.calls (txn : Int) (b1 b2 : Nat) (key : Int) (A0 : Option Addr) (c0 : Nat) (l0 : List S48) (w : World) (h1 : w.cell? ⟨b1, 0, none⟩ = some (.slice A0 l0.length c0)) (h2 : w.cell? ⟨b2, 0, none⟩ = some (.int .i64 key)) (l1 : b1 < w.heap.size) (l2 : b2 < w.heap.size) (hr0 : Kd.C k48 w A0 l0.length l0) :
    Calls Try.prog 78 #[.int .i64 txn, .pointer (some ⟨b1, 0, none⟩), .pointer (some ⟨b2, 0, none⟩)] w fun e w' => e = .returned (.bool (!(l0.any (wroteP txn key)))) ∧ Below w.heap.size w w' := by
  have hb0 : Below w.heap.size w (w.alloc (.cells #[.int .i64 txn] 2)) := below_alloc (Below.refl _ _) _
  have hcon := impl_Hop_79.calls A0 c0 l0 80 #[.pointer (some ⟨w.heap.size, 0, none⟩), .pointer (some ⟨b2, 0, none⟩)] (wroteP txn key) (w.alloc (.cells #[.int .i64 txn] 2)) (enters_of Try.func80 (by kernel_rfl) rfl) (Kd.C_below hr0 hb0)
    (fun W x hx hb => (impl_writers_1_1.calls x _ _ txn key W ((hb.cell (by simp)).trans (by simp)) ((hb.cell (Nat.lt_of_lt_of_le l2 hb0.size)).trans ((hb0.cell (p := ⟨b2, 0, none⟩) l2).trans h2)) (Nat.lt_of_lt_of_le (by simp) hb.size) (Nat.lt_of_lt_of_le (Nat.lt_of_lt_of_le l2 hb0.size) hb.size)).mono fun e w' h => ⟨h.1, below_step hb h.2⟩)
  generalize l0.any (wroteP txn key) = r at hcon ⊢
  have HC := Aside0.mk hcon
  have HB := Aside0.mk hb0
  clear hcon hb0 hr0
  go_enter Try.func78, Try.ntmps78
  go_wp2_with (go_at_call 79; refine HC.out.mono ?_; rintro e w' ⟨rfl, hd⟩)
  go_ret
  exact ⟨rfl, below_step HB.out hd⟩
def writersL (l0 : List S48) (key : Int) : List Int := (commL l0).filter (fun t => l0.any (wroteP t key))
def impl_writers.f (l0 : List S48) (a1 : Int) : Option (List Int) := if l0.length ≤ 1048576 then some (writersL l0 a1) else none
set_option maxHeartbeats 4000000 in
theorem impl_writers.calls (A0 : Option Addr) (c0 : Nat) (l0 : List S48) (a1 : Int) (r : List Int) (w : World) (hr0 : Kd.C k48 w A0 l0.length l0) (hc0 : l0.length ≤ c0) (h : impl_writers.f l0 a1 = some r) :
    Calls Try.prog 41 #[.slice A0 l0.length c0, .int .i64 a1] w fun e w' => ∃ v0_ : Value, e = .returned (v0_) ∧ Kd.R (Kd.int .i64) 2 w' w.heap.size (fun _ => True) v0_ r ∧ Below w.heap.size w w' := by
  unfold impl_writers.f at h
  split at h
  · rename_i hl
    obtain rfl := Option.some.inj h
    clear h
    have hb0 : Below w.heap.size w ((w.alloc (.cells #[.slice A0 l0.length c0] 25)).alloc (.cells #[.int .i64 a1] 2)) := below_alloc (below_alloc (Below.refl _ _) _) _
    obtain ⟨k, hk⟩ := Ev.rounds (impl_committed.ev l0 hl)
    have hcom := impl_committed.calls k A0 c0 l0 (commL l0) ((w.alloc (.cells #[.slice A0 l0.length c0] 25)).alloc (.cells #[.int .i64 a1] 2)) (Kd.C_below hr0 hb0) hc0 hk
    have hdel := fun (W : World) (v : Value) (hb : Below ((w.alloc (.cells #[.slice A0 l0.length c0] 25)).alloc (.cells #[.int .i64 a1] 2)).heap.size ((w.alloc (.cells #[.slice A0 l0.length c0] 25)).alloc (.cells #[.int .i64 a1] 2)) W) (ho : Kd.R (Kd.int .i64) 2 W ((w.alloc (.cells #[.slice A0 l0.length c0] 25)).alloc (.cells #[.int .i64 a1] 2)).heap.size (fun _ => True) v (commL l0)) =>
      slices_DeleteFunc_int64_int64.calls 78 #[.pointer (some ⟨w.heap.size, 0, none⟩), .pointer (some ⟨w.heap.size + 1, 0, none⟩)] (fun t => !(l0.any (wroteP t a1))) _ _ v (commL l0) W (enters_of Try.func78 (by kernel_rfl) rfl) ho
        (fun W2 x hx hg => by
          have hne : ∀ b, b < ((w.alloc (.cells #[.slice A0 l0.length c0] 25)).alloc (.cells #[.int .i64 a1] 2)).heap.size → some b ≠ v.ownBlock := fun b hb2 he => by
            have := Kd.R_base ho b he.symm
            omega
          have hB2 : Below w.heap.size w W2 := ⟨(hg.os.trans hb.os).trans hb0.os, (hg.tape.trans hb.tape).trans hb0.tape, (hg.output.trans hb.output).trans hb0.output, Nat.le_trans (Nat.le_trans hb0.size hb.size) hg.size, fun i hi => (hg.block i (Nat.lt_of_lt_of_le hi (Nat.le_trans hb0.size hb.size)) (hne i (Nat.lt_of_lt_of_le hi hb0.size))).trans ((hb.block i (Nat.lt_of_lt_of_le hi hb0.size)).trans (hb0.block i hi))⟩
          have c1 : W2.heap[w.heap.size]? = some (.cells #[.slice A0 l0.length c0] 25 (0, 0)) := grown_block hg (blk_below (blk_alloc (heap_alloc_new w _) _) hb) (hne _ (by simp; omega))
          have c2 : W2.heap[w.heap.size + 1]? = some (.cells #[.int .i64 a1] 2 (0, 0)) := grown_block hg (blk_below (by have := heap_alloc_new (w.alloc (.cells #[.slice A0 l0.length c0] 25)) (.cells #[.int .i64 a1] 2); simpa using this) hb) (hne _ (by simp))
          exact impl_writers_1.calls x _ _ a1 A0 c0 l0 W2 (cells1 c1) (cells1 c2) (blk_lt c1) (blk_lt c2) (Kd.C_below hr0 hB2))
    have hfil : (commL l0).filter (fun x => !(fun t => !(l0.any (wroteP t a1))) x) = writersL l0 a1 := by
      unfold writersL
      congr 1
      funext x
      simp
    rw [hfil] at hdel
    generalize writersL l0 a1 = r at hdel ⊢
    have HC := Aside0.mk hcom
    have HD := Aside0.mk hdel
    have HB := Aside0.mk hb0
    clear hcom hdel hb0 hr0 hfil hk
    go_enter Try.func41, Try.ntmps41
    go_wp2_with (first | (go_at_call 55; refine HC.out.mono ?_; rintro e w1 ⟨v1, rfl, hR1, hB1⟩) | (go_at_call 77; refine (HD.out _ _ hB1 hR1).mono ?_; rintro e w2 ⟨v2, rfl, hR2, hG2⟩))
    go_ret
    have hb1 := below_step HB.out hB1
    refine ⟨_, rfl, Kd.R_lower hR2 HB.out.size, hb1.grown hG2 hb1.size (fun k hk => Nat.le_trans HB.out.size (Kd.R_base hR1 k hk))⟩
  · cases h


/-! ### impl_Edge_84: function 84 -/
def impl_Edge_84.l0 : Nat → List (S45) → Int → Int → Int → Int → Int → Option (Int)
  | 0, _, _, _, _, _, _ => none
  | k + 1, x0, x7, x8, x315000, x315001, x315002 => if x8 < x7 then (if 0 ≤ x8 then (if x8 < (x0.length : Int) then (if (x315000 == ((rd_T45 x0 x8).f0) && (x315001 == ((rd_T45 x0 x8).f1) && (x315002 == ((rd_T45 x0 x8).f2)))) = true then (some x8) else (impl_Edge_84.l0 k x0 x7 (wrap64 (x8 + 1)) x315000 x315001 x315002)) else (none)) else (none)) else (some (-1))
def impl_Edge_84.f (k : Nat) (l0 : List (S45)) (a1_0 : Int) (a1_1 : Int) (a1_2 : Int) : Option (Int) := impl_Edge_84.l0 k l0 (l0.length : Int) 0 a1_0 a1_1 a1_2
theorem impl_Edge_84.mono_l : ∀ k, (∀ y0 y1 y2 y3 y4 y5, LeO (impl_Edge_84.l0 k y0 y1 y2 y3 y4 y5) (impl_Edge_84.l0 (k + 1) y0 y1 y2 y3 y4 y5))
  | 0 => fun _ _ _ _ _ _ r h => by simp [impl_Edge_84.l0] at h
  | k + 1 => by
    have ih0 := impl_Edge_84.mono_l k
    · intro y0 y1 y2 y3 y4 y5
      unfold impl_Edge_84.l0
      repeat' first
      | (with_reducible exact ih0 _ _ _ _ _ _)
      | (with_reducible exact LeO.refl _)
      | (with_reducible exact LeO.none _)
      | (with_reducible refine LeO.ite ?_ ?_)
      | (with_reducible refine LeO.bind ?_ (fun _ => ?_))
      | exact ih0 _ _ _ _ _ _
      | exact LeO.none _
      | refine LeO.ite ?_ ?_
      | refine LeO.bind ?_ (fun _ => ?_)
theorem impl_Edge_84.mono : ∀ a0 a1 a2 a3 k, LeO (impl_Edge_84.f k a0 a1 a2 a3) (impl_Edge_84.f (k + 1) a0 a1 a2 a3) := by
  intro a0 a1 a2 a3 k
  have ih0 := impl_Edge_84.mono_l k
  unfold impl_Edge_84.f
  repeat' first
      | (with_reducible exact ih0 _ _ _ _ _ _)
      | (with_reducible exact LeO.refl _)
      | (with_reducible exact LeO.none _)
      | (with_reducible refine LeO.ite ?_ ?_)
      | (with_reducible refine LeO.bind ?_ (fun _ => ?_))
      | exact ih0 _ _ _ _ _ _
      | exact LeO.none _
      | refine LeO.ite ?_ ?_
      | refine LeO.bind ?_ (fun _ => ?_)
set_option maxHeartbeats 8000000 in
set_option maxRecDepth 100000 in
theorem impl_Edge_84.calls (k : Nat) (A0 : Option Addr) (c0 : Nat) (l0 : List (S45)) (a1_0 : Int) (a1_1 : Int) (a1_2 : Int) (r : Int) (w : World) (hr0 : Kd.C k45 w A0 l0.length l0) (hc0 : l0.length ≤ c0) (h : impl_Edge_84.f k l0 a1_0 a1_1 a1_2 = some r) :
    Calls Try.prog 84 #[.slice A0 l0.length c0, .agg #[.int .i64 a1_0, .int .i64 a1_1, .int .i64 a1_2]] w fun e w' => e = .returned (.int .i64 r) ∧ Below w.heap.size w w' := by
  have hu45 := Try.underlying45
  have HR0 := Aside0.mk hr0
  have HC0 := Aside0.mk hc0
  clear hr0 hc0
  have HB := Aside0.mk (Below.refl w.heap.size w)
  have H : (impl_Edge_84.l0 k l0 (l0.length : Int) 0 a1_0 a1_1 a1_2) = some r := h
  clear h
  have H' := Aside0.mk H
  clear H
  go_enter Try.func84, Try.ntmps84
  go_wp2_with (first | ((with_reducible refine gate_dst (N := 3) rfl ?_); refine box_event ?hg (N := 3) ?hd (cs := #[.int .i64 a1_0, .int .i64 a1_1, .int .i64 a1_2]) (t := 45) ?hr ?_; (case hd => rfl); (case hg => rfl); (case hr => first | (go_simp; done) | (go_simp; rfl)); intro gb314 hg w3 hbox hb; have n0_ := Aside0.mk (below_step bo hb); have n1_ := Aside0.mk (hbox); have n2_ := Aside0.mk ((by rw [hg]; exact (below_size bo) : w.heap.size ≤ gb314)); have n3_ := Aside0.mk ((by rw [hg]; exact (below_size bo) : w.heap.size ≤ gb314)); clear HB; have HB := n0_; have BK314 := n1_; have GW314 := n2_; have GE314 := n3_; clear n0_ n1_ n2_ n3_; clear hb hbox hg))
  repeat (go_quiet (first | ((with_reducible refine gate_dst (N := 3) rfl ?_); refine box_event ?hg (N := 3) ?hd (cs := #[.int .i64 a1_0, .int .i64 a1_1, .int .i64 a1_2]) (t := 45) ?hr ?_; (case hd => rfl); (case hg => rfl); (case hr => first | (go_simp; done) | (go_simp; rfl)); intro gb314 hg w3 hbox hb; have n0_ := Aside0.mk (below_step bo hb); have n1_ := Aside0.mk (hbox); have n2_ := Aside0.mk ((by rw [hg]; exact (below_size bo) : w.heap.size ≤ gb314)); have n3_ := Aside0.mk ((by rw [hg]; exact (below_size bo) : w.heap.size ≤ gb314)); clear HB; have HB := n0_; have BK314 := n1_; have GW314 := n2_; have GE314 := n3_; clear n0_ n1_ n2_ n3_; clear hb hbox hg)); try go_wp2_with (first | ((with_reducible refine gate_dst (N := 3) rfl ?_); refine box_event ?hg (N := 3) ?hd (cs := #[.int .i64 a1_0, .int .i64 a1_1, .int .i64 a1_2]) (t := 45) ?hr ?_; (case hd => rfl); (case hg => rfl); (case hr => first | (go_simp; done) | (go_simp; rfl)); intro gb314 hg w3 hbox hb; have n0_ := Aside0.mk (below_step bo hb); have n1_ := Aside0.mk (hbox); have n2_ := Aside0.mk ((by rw [hg]; exact (below_size bo) : w.heap.size ≤ gb314)); have n3_ := Aside0.mk ((by rw [hg]; exact (below_size bo) : w.heap.size ≤ gb314)); clear HB; have HB := n0_; have BK314 := n1_; have GW314 := n2_; have GE314 := n3_; clear n0_ n1_ n2_ n3_; clear hb hbox hg)))
  go_loopg [8] k (fun kq v8 w' => ∃ (x8_1 : Int), v8 = .int .i64 x8_1 ∧ Aside0 (impl_Edge_84.l0 kq l0 (l0.length : Int) x8_1 a1_0 a1_1 a1_2 = some r) ∧ Aside0 (kq ≤ k) ∧ Aside0 (w'.heap[gb314]? = some (.cells #[.int .i64 a1_0, .int .i64 a1_1, .int .i64 a1_2] 45 (0, 0))) ∧ Aside0 (Below w.heap.size w w'))
  case atStart => exact ⟨(0), (by first | rfl | (simp; done) | (simp [*]; done)), H', ⟨Nat.le_refl _⟩, ⟨by (with_reducible repeat (first | refine blk_drewN ?_ _ | refine blk_drew ?_ | refine blk_alloc ?_ _)); exact BK314.out⟩, ⟨by repeat (first | (with_reducible first | exact HB.out | apply below_alloc | apply pw_below_drewN | apply below_drew1 | refine below_set ?_ GE314.out) | exact HB.out)⟩⟩
  case round =>
    clear H'
    try clear p2
    obtain ⟨x8_1, rfl, HA, HK1, BK314, HB⟩ := hrel
    cases gk with
    | zero => exact absurd HA.out (by simp [impl_Edge_84.l0])
    | succ k1 =>
      have H := HA.out
      clear HA
      simp only [impl_Edge_84.l0] at H
      by_cases c4 : x8_1 < (l0.length : Int)
      · rw [if_pos c4] at H
        have c4b0 : decide (x8_1 < (l0.length : Int)) = true := decide_eq_true c4
        clear c4
        by_cases c5 : 0 ≤ x8_1
        · rw [if_pos c5] at H
          have c5b0 : decide (0 ≤ x8_1) = true := decide_eq_true c5
          clear c5
          by_cases c6 : x8_1 < (l0.length : Int)
          · rw [if_pos c6] at H
            have c6b0 : decide (x8_1 < (l0.length : Int)) = true := decide_eq_true c6
            clear c6
            by_cases c7 : (a1_0 == ((rd_T45 l0 x8_1).f0) && (a1_1 == ((rd_T45 l0 x8_1).f1) && (a1_2 == ((rd_T45 l0 x8_1).f2)))) = true
            · rw [if_pos c7] at H
              have c7b0 : (a1_0 == ((rd_T45 l0 x8_1).f0) && (a1_1 == ((rd_T45 l0 x8_1).f1) && (a1_2 == ((rd_T45 l0 x8_1).f2)))) = true := c7
              (try (have c7b1 : decide (a1_0 = ((rd_T45 l0 x8_1).f0) && (a1_1 == ((rd_T45 l0 x8_1).f1) && (a1_2 == ((rd_T45 l0 x8_1).f2)))) = true := by simpa using c7))
              (try (have c7b2 : (a1_0 == ((rd_T45 l0 x8_1).f0) && (a1_1 == ((rd_T45 l0 x8_1).f1) && (a1_2 == ((rd_T45 l0 x8_1).f2)))) = true := by simpa using c7))
              clear c7
              obtain rfl := Option.some.inj H
              have hcz8_0 : wr.cell? ⟨gb314, 0, none⟩ = some (.int .i64 a1_0) := (blk_cell BK314.out 0).trans rfl
              have hcz8_1 : wr.cell? ⟨gb314, 1, none⟩ = some (.int .i64 a1_1) := (blk_cell BK314.out 1).trans rfl
              have hcz8_2 : wr.cell? ⟨gb314, 2, none⟩ = some (.int .i64 a1_2) := (blk_cell BK314.out 2).trans rfl
              have hfz8_0 := blk_frozen BK314.out 0
              have hfz8_1 := blk_frozen BK314.out 1
              have hfz8_2 := blk_frozen BK314.out 2
              have p315 : 0 ≤ (x8_1 : Int) := od
              have q315 : x8_1 < (l0.length : Int) := od
              obtain ⟨ad315, e315, hx315_0, hx315_1, hx315_2⟩ := at_T45 HR0.out x8_1 p315 q315
              cases e315
              replace hx315_0 := (HB.out.cell (World.block_lt_of_cell? w _ hx315_0)).trans hx315_0
              replace hx315_1 := (HB.out.cell (World.block_lt_of_cell? w _ hx315_1)).trans hx315_1
              replace hx315_2 := (HB.out.cell (World.block_lt_of_cell? w _ hx315_2)).trans hx315_2
              replace p315 := eq_true p315
              replace q315 := eq_true q315
              go_wp2
              repeat (go_quiet (fail); try go_wp2)
              go_ret
              exact ⟨by first | rfl | (simp [errW_none, errW_some] <;> rfl) | (simp [*, errW_none, errW_some] <;> rfl), by repeat (first | (with_reducible first | exact HB.out | apply below_alloc | apply pw_below_drewN | apply below_drew1 | refine below_set ?_ GE314.out) | exact HB.out)⟩
            · rw [if_neg c7] at H
              have c7b0 : (a1_0 == ((rd_T45 l0 x8_1).f0) && (a1_1 == ((rd_T45 l0 x8_1).f1) && (a1_2 == ((rd_T45 l0 x8_1).f2)))) = false := by simpa using c7
              (try (have c7b1 : decide (a1_0 = ((rd_T45 l0 x8_1).f0) && (a1_1 == ((rd_T45 l0 x8_1).f1) && (a1_2 == ((rd_T45 l0 x8_1).f2)))) = false := by simpa using c7))
              (try (have c7b2 : (a1_0 == ((rd_T45 l0 x8_1).f0) && (a1_1 == ((rd_T45 l0 x8_1).f1) && (a1_2 == ((rd_T45 l0 x8_1).f2)))) = false := by simpa using c7))
              (try (have c7b3 : ¬ (a1_0 = ((rd_T45 l0 x8_1).f0) && (a1_1 == ((rd_T45 l0 x8_1).f1) && (a1_2 == ((rd_T45 l0 x8_1).f2)))) := by simpa using c7))
              clear c7
              have H' := Aside0.mk H
              clear H
              have hcz9_0 : wr.cell? ⟨gb314, 0, none⟩ = some (.int .i64 a1_0) := (blk_cell BK314.out 0).trans rfl
              have hcz9_1 : wr.cell? ⟨gb314, 1, none⟩ = some (.int .i64 a1_1) := (blk_cell BK314.out 1).trans rfl
              have hcz9_2 : wr.cell? ⟨gb314, 2, none⟩ = some (.int .i64 a1_2) := (blk_cell BK314.out 2).trans rfl
              have hfz9_0 := blk_frozen BK314.out 0
              have hfz9_1 := blk_frozen BK314.out 1
              have hfz9_2 := blk_frozen BK314.out 2
              have p315 : 0 ≤ (x8_1 : Int) := od
              have q315 : x8_1 < (l0.length : Int) := od
              obtain ⟨ad315, e315, hx315_0, hx315_1, hx315_2⟩ := at_T45 HR0.out x8_1 p315 q315
              cases e315
              replace hx315_0 := (HB.out.cell (World.block_lt_of_cell? w _ hx315_0)).trans hx315_0
              replace hx315_1 := (HB.out.cell (World.block_lt_of_cell? w _ hx315_1)).trans hx315_1
              replace hx315_2 := (HB.out.cell (World.block_lt_of_cell? w _ hx315_2)).trans hx315_2
              replace p315 := eq_true p315
              replace q315 := eq_true q315
              go_wp2
              repeat (go_quiet (fail); try go_wp2)
              go_roundg k1
              case measure => have := HK1.out; omega
              case rel => exact ⟨(wrap64 (x8_1 + 1)), (by first | rfl | (simp; done) | (simp [*]; done)), H', ⟨by have := HK1.out; omega⟩, ⟨by (with_reducible repeat (first | refine blk_drewN ?_ _ | refine blk_drew ?_ | refine blk_alloc ?_ _)); exact BK314.out⟩, ⟨by repeat (first | (with_reducible first | exact HB.out | apply below_alloc | apply pw_below_drewN | apply below_drew1 | refine below_set ?_ GE314.out) | exact HB.out)⟩⟩
          · rw [if_neg c6] at H
            exact absurd H (by simp)
        · rw [if_neg c5] at H
          exact absurd H (by simp)
      · rw [if_neg c4] at H
        have c4b0 : decide (x8_1 < (l0.length : Int)) = false := decide_eq_false c4
        clear c4
        obtain rfl := Option.some.inj H
        go_wp2
        repeat (go_quiet (fail); try go_wp2)
        go_ret
        exact ⟨by first | rfl | (simp [errW_none, errW_some] <;> rfl) | (simp [*, errW_none, errW_some] <;> rfl), by repeat (first | (with_reducible first | exact HB.out | apply below_alloc | apply pw_below_drewN | apply below_drew1 | refine below_set ?_ GE314.out) | exact HB.out)⟩

/-! ### impl_Edge_72: function 72 -/
def impl_Edge_72.f (k : Nat) (l0 : List (S45)) (a1_0 : Int) (a1_1 : Int) (a1_2 : Int) : Option (Bool) := (impl_Edge_84.f k l0 a1_0 a1_1 a1_2).bind fun t317 => (some (decide (t317 ≥ 0)))
theorem impl_Edge_72.mono : ∀ a0 a1 a2 a3 k, LeO (impl_Edge_72.f k a0 a1 a2 a3) (impl_Edge_72.f (k + 1) a0 a1 a2 a3) := by
  intro a0 a1 a2 a3 k
  unfold impl_Edge_72.f
  repeat' first
      | (with_reducible exact impl_Edge_84.mono _ _ _ _ _)
      | (with_reducible exact LeO.refl _)
      | (with_reducible exact LeO.none _)
      | (with_reducible refine LeO.ite ?_ ?_)
      | (with_reducible refine LeO.bind ?_ (fun _ => ?_))
      | exact impl_Edge_84.mono _ _ _ _ _
      | exact LeO.none _
      | refine LeO.ite ?_ ?_
      | refine LeO.bind ?_ (fun _ => ?_)
set_option maxHeartbeats 8000000 in
set_option maxRecDepth 100000 in
theorem impl_Edge_72.calls (k : Nat) (A0 : Option Addr) (c0 : Nat) (l0 : List (S45)) (a1_0 : Int) (a1_1 : Int) (a1_2 : Int) (r : Bool) (w : World) (hr0 : Kd.C k45 w A0 l0.length l0) (hc0 : l0.length ≤ c0) (h : impl_Edge_72.f k l0 a1_0 a1_1 a1_2 = some r) :
    Calls Try.prog 72 #[.slice A0 l0.length c0, .agg #[.int .i64 a1_0, .int .i64 a1_1, .int .i64 a1_2]] w fun e w' => e = .returned (.bool r) ∧ Below w.heap.size w w' := by
  have hu45 := Try.underlying45
  have HR0 := Aside0.mk hr0
  have HC0 := Aside0.mk hc0
  clear hr0 hc0
  have HB := Aside0.mk (Below.refl w.heap.size w)
  have H : ((impl_Edge_84.f k l0 a1_0 a1_1 a1_2).bind fun t317 => (some (decide (t317 ≥ 0)))) = some r := h
  clear h
  replace H := Option.bind_eq_some_iff.mp H
  obtain ⟨t317, A30, H⟩ := H
  replace H : (some (decide (t317 ≥ 0))) = some r := H
  have A3 := Aside0.mk A30
  clear A30
  obtain rfl := Option.some.inj H
  go_enter Try.func72, Try.ntmps72
  go_wp2_with (first | ((with_reducible refine gate_dst (N := 3) rfl ?_); refine box_event ?hg (N := 3) ?hd (cs := #[.int .i64 a1_0, .int .i64 a1_1, .int .i64 a1_2]) (t := 45) ?hr ?_; (case hd => rfl); (case hg => rfl); (case hr => first | (go_simp; done) | (go_simp; rfl)); intro gb316 hg w4 hbox hb; have n0_ := Aside0.mk (below_step bo hb); have n1_ := Aside0.mk (hbox); have n2_ := Aside0.mk ((by rw [hg]; exact (below_size bo) : w.heap.size ≤ gb316)); have n3_ := Aside0.mk ((by rw [hg]; exact (below_size bo) : w.heap.size ≤ gb316)); clear HB; have HB := n0_; have BK316 := n1_; have GW316 := n2_; have GE316 := n3_; clear n0_ n1_ n2_ n3_; clear hb hbox hg; have hcz5_0 : w4.cell? ⟨gb316, 0, none⟩ = some (.int .i64 a1_0) := (blk_cell BK316.out 0).trans rfl; have hcz5_1 : w4.cell? ⟨gb316, 1, none⟩ = some (.int .i64 a1_1) := (blk_cell BK316.out 1).trans rfl; have hcz5_2 : w4.cell? ⟨gb316, 2, none⟩ = some (.int .i64 a1_2) := (blk_cell BK316.out 2).trans rfl; have hfz5_0 := blk_frozen BK316.out 0; have hfz5_1 := blk_frozen BK316.out 1; have hfz5_2 := blk_frozen BK316.out 2) | ((with_reducible refine gate_callee (f := 84) rfl ?_); refine goesL_ (some 7) rfl rfl Try.func84 (by kernel_rfl) rfl #[.slice A0 l0.length c0, .agg #[.int .i64 a1_0, .int .i64 a1_1, .int .i64 a1_2]] rfl (by (try simp only [List.map_toArray, List.map_cons, List.map_nil]); first | done | rfl | (simp only [List.length_drop, List.length_take]; rfl)) ?_; (with_reducible refine (impl_Edge_84.calls k _ _ l0 a1_0 a1_1 a1_2 t317 _ ?side1 ?side2 A3.out).mono ?_); (case side1 => repeat (first | exact (Kd.C_below HR0.out HB.out) | (with_reducible refine Kd.C_alloc ?_ _) | (with_reducible refine Kd.C_drewN ?_ _) | (with_reducible refine Kd.C_drew ?_))); (case side2 => exact HC0.out); rintro e w6 ⟨rfl, hb⟩; refine ⟨_, rfl, ?_⟩; have n0_ := Aside0.mk (blk_below (g := gb316) (o := .cells #[.int .i64 a1_0, .int .i64 a1_1, .int .i64 a1_2] 45 (0, 0)) (by (with_reducible repeat (first | refine blk_drewN ?_ _ | refine blk_drew ?_ | refine blk_alloc ?_ _)); exact BK316.out) hb); have n1_ := Aside0.mk (below_step (by repeat (first | (with_reducible first | exact HB.out | apply below_alloc | apply pw_below_drewN | apply below_drew1 | refine below_set ?_ GE316.out) | exact HB.out)) hb); clear BK316; clear HB; have BK316 := n0_; have HB := n1_; clear n0_ n1_; (try clear hb); (try clear hb2); (try clear hk); (try clear hi)))
  go_ret
  exact ⟨by first | rfl | (simp [errW_none, errW_some] <;> rfl) | (simp [*, errW_none, errW_some] <;> rfl), by repeat (first | (with_reducible first | exact HB.out | apply below_alloc | apply pw_below_drewN | apply below_drew1 | refine below_set ?_ GE316.out) | exact HB.out)⟩

end Go.Proofs.Ytkabmhjnhcfkcaa.XFnExactSerialOrder
