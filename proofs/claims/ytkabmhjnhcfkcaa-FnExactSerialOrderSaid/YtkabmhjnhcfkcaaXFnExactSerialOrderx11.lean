/- The machine's side of one law: functions as plain Lean functions, and that the calls do what these say. Written by a program of this session; no condition beyond those that each theorem names. -/
import Derived.Test.YtkabmhjnhcfkcaaXFnExactSerialOrderx0
namespace Go.Proofs.Ytkabmhjnhcfkcaa.XFnExactSerialOrder
open Go.RowKit Go.Proofs.YtkabmhjnhcfkcaaW.PrintWords Go.Proofs.YtkabmhjnhcfkcaaW.PrintLast Go.Proofs.YtkabmhjnhcfkcaaW.PrintMore
attribute [local go_sem] max2_int min2_int max_two min_two max_three min_three max_four min_four   -- for this text's walks alone
set_option linter.unusedVariables false
set_option linter.unusedSimpArgs false

/-! ### slices_Index_int64_int64: function 73 -/
def slices_Index_int64_int64.f (l0 : List Int) (a1 : Int) : Option Int := some (idxP (fun y => a1 == y) l0)
set_option maxHeartbeats 4000000 in
theorem slices_Index_int64_int64.calls (A0 : Option Addr) (c0 : Nat) (l0 : List Int) (a1 : Int) (r : Int) (w : World) (hr0 : Kd.C (Kd.int .i64) w A0 l0.length l0) (hc0 : l0.length ≤ c0) (h : slices_Index_int64_int64.f l0 a1 = some r) :
    Calls Try.prog 73 #[.slice A0 l0.length c0, .int .i64 a1] w fun e w' => e = .returned (.int .i64 r) ∧ Drawn0 w w' := by
  have H := Aside0.mk (Option.some.inj h)
  clear h hc0
  have hlen := Kd.C_max hr0
  go_enter Try.func73, Try.ntmps73
  go_wp2
  go_loopg [5, 8] l0.length (fun gg _ s8 wr => ∃ kk : Nat, kk ≤ l0.length ∧ l0.length - kk ≤ gg ∧ s8 = .int .i64 kk ∧ Aside0 (Drawn0 w wr) ∧ Aside0 (∀ j, j < kk → (a1 == (l0.getD j 0)) = false))
  case atStart => exact ⟨0, Nat.zero_le _, by omega, rfl, ⟨Drawn0.refl w⟩, ⟨fun j hj => absurd hj (Nat.not_lt_zero _)⟩⟩
  case round =>
    obtain ⟨kk, hkk, hg, rfl, BW, HA⟩ := hrel
    by_cases hlt : kk < l0.length
    · have hltz : (kk : Int) < (l0.length : Int) := by omega
      have hrd := Kd.C_below hr0 BW.out.below
      obtain ⟨ade, eA, hce_0⟩ := Kd.at_int hrd (kk : Int) (by omega) (by omega)
      subst eA
      have hx : rd l0 (kk : Int) = l0.getD kk 0 := rfl
      simp only [Int.toNat_natCast] at hce_0
      clear hr0 hrd
      have HX := Aside0.mk hx
      clear hx
      cases hq : (a1 == rd l0 (kk : Int)) with
      | true =>
        have HQ := Aside0.mk hq
        go_wp2
        go_ret
        exact ⟨by rw [← H.out, idxP_hit (fun y => a1 == y) 0 l0 kk hlt HA.out (by rw [← HX.out]; exact HQ.out)]; rfl, by repeat (first | exact BW.out | apply Drawn0.step)⟩
      | false =>
        have HQ := Aside0.mk hq
        go_wp2
        go_roundg (l0.length - (kk + 1))
        case measure => omega
        case rel =>
          refine ⟨kk + 1, by omega, by omega, by go_num, ⟨by repeat (first | exact BW.out | apply Drawn0.step)⟩, ⟨fun j hj => ?_⟩⟩
          by_cases e : j = kk
          · subst e; rw [← HX.out]; exact HQ.out
          · exact HA.out j (by omega)
    · have hltz : ¬ (kk : Int) < (l0.length : Int) := by omega
      have : kk = l0.length := by omega
      subst this
      clear hr0
      go_wp2
      go_ret
      exact ⟨by rw [← H.out, idxP_miss (fun y => a1 == y) 0 l0 HA.out]; rfl, by repeat (first | exact BW.out | apply Drawn0.step)⟩


/-! ### slices_Contains_int64_int64: function 54 -/
def slices_Contains_int64_int64.f (l0 : List Int) (a1 : Int) : Option Bool := some (l0.contains a1)
set_option maxHeartbeats 4000000 in
theorem slices_Contains_int64_int64.calls (A0 : Option Addr) (c0 : Nat) (l0 : List Int) (a1 : Int) (r : Bool) (w : World) (hr0 : Kd.C (Kd.int .i64) w A0 l0.length l0) (hc0 : l0.length ≤ c0) (h : slices_Contains_int64_int64.f l0 a1 = some r) :
    Calls Try.prog 54 #[.slice A0 l0.length c0, .int .i64 a1] w fun e w' => e = .returned (.bool r) ∧ Drawn0 w w' := by
  have H := Aside0.mk (Option.some.inj h)
  have hcon := fun W h => slices_Index_int64_int64.calls A0 c0 l0 a1 _ W h hc0 rfl
  have HE := Aside0.mk (idxP_contains l0 a1)
  generalize idxP (fun y => a1 == y) l0 = q at hcon HE
  have HC := Aside0.mk hcon
  have HR := Aside0.mk hr0
  clear h hc0 hcon hr0
  go_enter Try.func54, Try.ntmps54
  go_wp2_with (go_at_call 73; refine (HC.out _ HR.out).mono ?_; rintro e w' ⟨rfl, hb'⟩)
  go_ret
  exact ⟨by rw [← H.out, ← HE.out]; rfl, hb'⟩


/-! ### impl_Hop_74: function 74 -/
set_option maxHeartbeats 4000000 in
set_option maxRecDepth 100000 in
theorem impl_Hop_74.calls (A0 : Option Addr) (c0 : Nat) (l0 : List (S48)) (gf : Nat) (lb : Array Value) (p : S48 → Bool) (w : World) (eg : ∀ args w, (callFunc gf args).run Try.prog w = .ok (.enter gf args) w) (hr0 : Kd.C k48 w A0 l0.length l0)
    (hp : ∀ (W : World) (x : S48), x ∈ l0 → Below w.heap.size w W → Calls Try.prog gf (#[.agg #[.int .i64 x.f0, .int .i64 x.f1, .int .i64 x.f2, .int .i64 x.f3]] ++ lb) W fun e w' => e = .returned (.bool (p x)) ∧ Below w.heap.size w w') :
    Calls Try.prog 74 #[.slice A0 l0.length c0, .func (.func gf) #[] lb] w fun e w' => e = .returned (.int .i64 (idxP p l0)) ∧ Below w.heap.size w w' := by
  have hlen := Kd.C_max hr0
  go_enter Try.func74, Try.ntmps74
  go_wp2
  go_loopg [5, 8] l0.length (fun gg _ s8 wr => ∃ kk : Nat, kk ≤ l0.length ∧ l0.length - kk ≤ gg ∧ s8 = .int .i64 kk ∧ Aside0 (Below w.heap.size w wr) ∧ Aside0 (∀ j, j < kk → p (l0.getD j z48) = false))
  case atStart => exact ⟨0, Nat.zero_le _, by omega, rfl, ⟨Below.refl _ w⟩, ⟨fun j hj => absurd hj (Nat.not_lt_zero _)⟩⟩
  case round =>
    obtain ⟨kk, hkk, hg, rfl, BW, HA⟩ := hrel
    by_cases hlt : kk < l0.length
    · have hltz : (kk : Int) < (l0.length : Int) := by omega
      have hrd := Kd.C_below hr0 BW.out
      obtain ⟨ade, eA, hce_0, hce_1, hce_2, hce_3⟩ := at_T48 hrd (kk : Int) (by omega) (by omega)
      subst eA
      have hcall := hp wr (rd_T48 l0 (kk : Int))  (getD_mem_ _ _ _ hlt) BW.out 
      have hx : rd_T48 l0 (kk : Int) = l0.getD kk z48 := rfl
      simp only [Int.toNat_natCast] at hce_0 hce_1 hce_2 hce_3
      clear hr0 hp hrd
      have HX := Aside0.mk hx
      clear hx
      skip
      cases hq : p (rd_T48 l0 (kk : Int)) with
      | true =>
        rw [hq] at hcall
        have HQ := Aside0.mk hq
        clear hq
        go_wp2_with (go_at_fn gf; refine hcall.mono ?_; rintro e w' ⟨rfl, hb'⟩)
        go_ret
        exact ⟨by rw [idxP_hit p z48 l0 kk hlt HA.out (by rw [← HX.out]; exact HQ.out)]; rfl, hb'⟩
      | false =>
        rw [hq] at hcall
        have HQ := Aside0.mk hq
        clear hq
        go_wp2_with (go_at_fn gf; refine hcall.mono ?_; rintro e w' ⟨rfl, hb'⟩)
        go_roundg (l0.length - (kk + 1))
        case measure => omega
        case rel =>
          refine ⟨kk + 1, by omega, by omega, by go_num, ⟨hb'⟩, ⟨fun j hj => ?_⟩⟩
          by_cases e : j = kk
          · subst e; rw [← HX.out]; exact HQ.out
          · exact HA.out j (by omega)
    · have hltz : ¬ (kk : Int) < (l0.length : Int) := by omega
      have : kk = l0.length := by omega
      subst this
      clear hr0 hp
      go_wp2
      go_ret
      exact ⟨by rw [idxP_miss p z48 l0 HA.out]; rfl, BW.out⟩

/-! ### impl_has: function 36 -/
def impl_has.p (a1 : Int) (l2 : List Int) (x : S48) : Bool := x.f1 == a1 && l2.contains x.f0
set_option maxHeartbeats 4000000 in
theorem impl_has_1.calls (x : S48) (b1 b2 : Nat) (a1 : Int) (A2 : Option Addr) (c2 : Nat) (l2 : List Int) (w : World) (h1 : w.cell? ⟨b1, 0, none⟩ = some (.int .i64 a1)) (h2 : w.cell? ⟨b2, 0, none⟩ = some (.slice A2 l2.length c2)) (l1 : b1 < w.heap.size) (lb2 : b2 < w.heap.size)
    (hr2 : Kd.C (Kd.int .i64) w A2 l2.length l2) (hc2 : l2.length ≤ c2) :
    Calls Try.prog 75 #[.agg #[.int .i64 x.f0, .int .i64 x.f1, .int .i64 x.f2, .int .i64 x.f3], .pointer (some ⟨b1, 0, none⟩), .pointer (some ⟨b2, 0, none⟩)] w fun e w' => e = .returned (.bool (impl_has.p a1 l2 x)) ∧ Below w.heap.size w w' := by
  obtain ⟨x0, x1, x2, x3⟩ := x
  have hcon := fun W (h : Kd.C (Kd.int .i64) W A2 l2.length l2) => slices_Contains_int64_int64.calls A2 c2 l2 x0 _ W h hc2 rfl
  have HP := Aside0.mk (show impl_has.p a1 l2 ⟨x0, x1, x2, x3⟩ = (x1 == a1 && l2.contains x0) from rfl)
  generalize impl_has.p a1 l2 ⟨x0, x1, x2, x3⟩ = r at HP ⊢
  generalize l2.contains x0 = q at hcon HP
  have HR := Aside0.mk hr2
  clear hr2 hc2
  dsimp only
  by_cases hx : x1 = a1
  · subst hx
    have HC := Aside0.mk hcon
    clear hcon
    go_enter Try.func75, Try.ntmps75
    go_wp2_with (go_at_call 54; refine (HC.out _ ?side1).mono ?_; (case side1 => exact Kd.C_alloc HR.out _); rintro e w' ⟨rfl, hd⟩)
    go_ret
    refine ⟨by rw [HP.out]; simp, below_step (below_alloc (Below.refl _ _) _) hd.below⟩
  · have e1 : (x1 == a1) = false := beq_eq_false_iff_ne.2 hx
    clear hcon
    go_enter Try.func75, Try.ntmps75
    go_wp2_with fail
    go_ret
    exact ⟨by rw [HP.out]; simp [e1], below_alloc (Below.refl _ _) _⟩
def impl_has.f (l0 : List S48) (a1 : Int) (l2 : List Int) : Option Int := some (idxP (impl_has.p a1 l2) l0)
set_option maxHeartbeats 4000000 in
theorem impl_has.calls (A0 : Option Addr) (c0 : Nat) (l0 : List S48) (a1 : Int) (A2 : Option Addr) (c2 : Nat) (l2 : List Int) (r : Int) (w : World) (hr0 : Kd.C k48 w A0 l0.length l0) (hc0 : l0.length ≤ c0) (hr2 : Kd.C (Kd.int .i64) w A2 l2.length l2) (hc2 : l2.length ≤ c2) (h : impl_has.f l0 a1 l2 = some r) :
    Calls Try.prog 36 #[.slice A0 l0.length c0, .int .i64 a1, .slice A2 l2.length c2] w fun e w' => e = .returned (.int .i64 r) ∧ Below w.heap.size w w' := by
  obtain rfl := Option.some.inj h
  clear h
  have hb0 : Below w.heap.size w ((w.alloc (.cells #[.int .i64 a1] 2)).alloc (.cells #[.slice A2 l2.length c2] 29)) := below_alloc (below_alloc (Below.refl _ _) _) _
  have hcon := impl_Hop_74.calls A0 c0 l0 75 #[.pointer (some ⟨w.heap.size, 0, none⟩), .pointer (some ⟨w.heap.size + 1, 0, none⟩)] (impl_has.p a1 l2) ((w.alloc (.cells #[.int .i64 a1] 2)).alloc (.cells #[.slice A2 l2.length c2] 29)) (enters_of Try.func75 (by kernel_rfl) rfl) (Kd.C_below hr0 hb0)
    (fun W x hx hb => (impl_has_1.calls x _ _ a1 A2 c2 l2 W ((hb.cell (by first | (simp; omega) | simp)).trans (by simp)) ((hb.cell (by first | (simp; omega) | simp)).trans (by simp)) (Nat.lt_of_lt_of_le (by first | (simp; omega) | simp) hb.size) (Nat.lt_of_lt_of_le (by first | (simp; omega) | simp) hb.size) (Kd.C_below hr2 (below_step hb0 hb)) hc2).mono fun e w' h => ⟨h.1, below_step hb h.2⟩)
  generalize idxP (impl_has.p a1 l2) l0 = r at hcon ⊢
  have HC := Aside0.mk hcon
  have HB := Aside0.mk hb0
  clear hcon hb0 hr0 hc0 hr2 hc2
  go_enter Try.func36, Try.ntmps36
  go_wp2_with (go_at_call 74; refine HC.out.mono ?_; rintro e w' ⟨rfl, hd⟩)
  go_ret
  exact ⟨rfl, below_step HB.out hd⟩


/-! ### impl_within: function 68 -/
def impl_within.f (a0 a1 a2 : Int) : Option Bool := some (withinB a0 a1 a2)
theorem impl_within.calls (a0 a1 a2 : Int) (r : Bool) (w : World) (h : impl_within.f a0 a1 a2 = some r) : Calls Try.prog 68 #[.int .i64 a0, .int .i64 a1, .int .i64 a2] w fun e w' => e = .returned (.bool r) ∧ Drawn0 w w' := by
  have H := Aside0.mk (Option.some.inj h)
  clear h
  by_cases h1 : a1 ≤ a0
  · have h1b : decide (a1 ≤ a0) = true := decide_eq_true h1
    clear h1
    go_enter Try.func68, Try.ntmps68
    go_wp2
    go_ret
    exact ⟨by rw [← H.out]; simp [withinB, h1b], by repeat (first | exact Drawn0.refl _ | apply Drawn0.step)⟩
  · have h1b : decide (a1 ≤ a0) = false := decide_eq_false h1
    clear h1
    go_enter Try.func68, Try.ntmps68
    go_wp2
    go_ret
    exact ⟨by rw [← H.out]; simp [withinB, h1b], by repeat (first | exact Drawn0.refl _ | apply Drawn0.step)⟩


/-! ### impl_isKey: function 69 -/
def impl_isKey.f (a0 : Int) : Option Bool := some (withinB a0 0 31)
theorem impl_isKey.calls (a0 : Int) (r : Bool) (w : World) (h : impl_isKey.f a0 = some r) : Calls Try.prog 69 #[.int .i64 a0] w fun e w' => e = .returned (.bool r) ∧ Drawn0 w w' := by
  have h1 := fun W => impl_within.calls a0 0 31 r W h
  clear h
  have H1 := Aside0.mk h1
  clear h1
  go_enter Try.func69, Try.ntmps69
  go_wp2_with (go_at_call 68; refine (H1.out _).mono ?_; rintro e w' ⟨rfl, hd⟩)
  go_ret
  exact ⟨rfl, hd⟩


/-! ### impl_HistoryFault: function 32 -/
def hopCode (pre : List S48) (x : S48) : Int :=
  if (!withinB x.f0 1 5 || !withinB x.f1 2 999 || !withinB x.f2 0 31 || !withinB x.f3 0 999) = true then 3
  else if ((!(x.f0 == 2 || x.f0 == 3) && x.f2 != 0) || (x.f0 != 2 && x.f3 != 0)) = true then 1
  else if ((decide (0 ≤ idxP (impl_has.p x.f1 [1]) pre) == (x.f0 == 1)) || decide (0 ≤ idxP (impl_has.p x.f1 [4, 5]) pre)) = true then 10 else 0
def histGo : List S48 → List S48 → Int
  | _, [] => 0
  | pre, x :: xs => if hopCode pre x = 0 then histGo (pre ++ [x]) xs else hopCode pre x
def impl_HistoryFault.f (l0 : List S48) : Option Int := some (if 400 < l0.length then 2 else histGo [] l0)
theorem histGo_step (l : List S48) (k : Nat) (h : k < l.length) : histGo (l.take k) (l.drop k) = if hopCode (l.take k) (l.getD k z48) = 0 then histGo (l.take (k + 1)) (l.drop (k + 1)) else hopCode (l.take k) (l.getD k z48) := by
  rw [List.drop_eq_getElem_cons h, List.take_succ_eq_append_getElem h, List.getD_eq_getElem?_getD, List.getElem?_eq_getElem h]
  rfl
theorem has_cut (A0 : Option Addr) (c0 n : Nat) (l0 : List S48) (hn : n ≤ l0.length) (a1 : Int) (l2 : List Int) (hl2 : l2.length ≤ 5) (w : World) (hr0 : Kd.C k48 w A0 l0.length l0) (hc0 : l0.length ≤ c0) (b T : Nat) (W : World) (hb : Below w.heap.size w W) (hr2 : W.heap[b]? = some (.cells (l2.map (Value.int .i64)).toArray T (0, 0))) :
    Calls Try.prog 36 #[.slice A0 n c0, .int .i64 a1, .slice (some ⟨b, 0, none⟩) l2.length l2.length] W fun e w' => e = .returned (.int .i64 (idxP (impl_has.p a1 l2) (l0.take n))) ∧ Below W.heap.size W w' := by
  have hl : (l0.take n).length = n := by rw [List.length_take]; omega
  have h := impl_has.calls A0 c0 (l0.take n) a1 (some ⟨b, 0, none⟩) l2.length l2 _ W (Kd.C_below (Kd.C_take hr0 hn) hb) (by omega) (C_block hr2 (by omega)) (Nat.le_refl _) rfl
  rw [hl] at h
  exact h
theorem cells4 {w : World} {b T : Nat} {v0 v1 v2 v3 : Value} (h : w.heap[b]? = some (.cells #[v0, v1, v2, v3] T (0, 0))) : w.cell? ⟨b, 0, none⟩ = some v0 ∧ w.cell? ⟨b, 1, none⟩ = some v1 ∧ w.cell? ⟨b, 2, none⟩ = some v2 ∧ w.cell? ⟨b, 3, none⟩ = some v3 :=
  ⟨(blk_cell h 0).trans rfl, (blk_cell h 1).trans rfl, (blk_cell h 2).trans rfl, (blk_cell h 3).trans rfl⟩
set_option maxHeartbeats 8000000 in
set_option maxRecDepth 100000 in
theorem impl_HistoryFault.calls (A0 : Option Addr) (c0 : Nat) (l0 : List S48) (r : Int) (w : World) (hr0 : Kd.C k48 w A0 l0.length l0) (hc0 : l0.length ≤ c0) (h : impl_HistoryFault.f l0 = some r) :
    Calls Try.prog 32 #[.slice A0 l0.length c0] w fun e w' => e = .returned (.int .i64 r) ∧ Below w.heap.size w w' := by
  have HR := Aside0.mk (Option.some.inj h)
  clear h
  have hlen := Kd.C_max hr0
  by_cases hbig : 400 < l0.length
  · have hbz : (400 : Int) < (l0.length : Int) := by omega
    rw [if_pos hbig] at HR
    clear hr0 hc0
    go_enter Try.func32, Try.ntmps32
    go_wp2
    go_ret
    exact ⟨by rw [← HR.out]; rfl, Below.refl _ _⟩
  · have hbz : ¬ (400 : Int) < (l0.length : Int) := by omega
    rw [if_neg hbig] at HR
    have hH1 := fun a1 n hn => has_cut A0 c0 n l0 hn a1 [1] (by simp) w hr0 hc0
    have hH2 := fun a1 n hn => has_cut A0 c0 n l0 hn a1 [4, 5] (by simp) w hr0 hc0
    have HH1 := Aside0.mk hH1
    have HH2 := Aside0.mk hH2
    have HRR := Aside0.mk hr0
    clear hH1 hH2 hr0
    go_enter Try.func32, Try.ntmps32
    go_wp2
    go_loopg [2, 13] l0.length (fun gg s2 s13 wr => ∃ kk : Nat, kk ≤ l0.length ∧ l0.length - kk ≤ gg ∧ s2 = .int .i64 0 ∧ s13 = .int .i64 kk ∧ Aside0 (Below w.heap.size w wr) ∧ Aside0 (histGo (l0.take kk) (l0.drop kk) = r))
    case atStart => exact ⟨0, Nat.zero_le _, by omega, rfl, rfl, ⟨Below.refl _ w⟩, ⟨by simpa using HR.out⟩⟩
    case round =>
      obtain ⟨kk, hkk, hg, rfl, rfl, BW, HA⟩ := hrel
      by_cases hlt : kk < l0.length
      · have hltz : (kk : Int) < (l0.length : Int) := by omega
        have hrd := Kd.C_below HRR.out BW.out
        obtain ⟨ad, eA, hd0, hd1, hd2, hd3⟩ := at_T48 hrd (kk : Int) (by omega) (by omega)
        have hx : rd_T48 l0 (kk : Int) = l0.getD kk z48 := rfl
        simp only [Int.toNat_natCast] at hd0 hd1 hd2 hd3
        have HS := Aside0.mk (histGo_step l0 kk hlt)
        rw [← hx] at HS
        generalize rd_T48 l0 (kk : Int) = x at *
        obtain ⟨x0, x1, x2, x3⟩ := x
        clear hx hrd
        have HE := Aside0.mk eA
        subst eA
        dsimp only at hd0 hd1 hd2 hd3
        have hC : hopCode (l0.take kk) ⟨x0, x1, x2, x3⟩ = (if (!withinB x0 1 5 || !withinB x1 2 999 || !withinB x2 0 31 || !withinB x3 0 999) = true then 3
            else if ((!(x0 == 2 || x0 == 3) && x2 != 0) || (x0 != 2 && x3 != 0)) = true then 1
            else if ((decide (0 ≤ idxP (impl_has.p x1 [1]) (l0.take kk)) == (x0 == 1)) || decide (0 ≤ idxP (impl_has.p x1 [4, 5]) (l0.take kk))) = true then 10 else 0) := rfl
        rw [HA.out] at HS
        generalize hopCode (l0.take kk) ⟨x0, x1, x2, x3⟩ = c at HS hC
        have hG1 := HH1.out x1 kk (by omega)
        have hG2 := HH2.out x1 kk (by omega)
        generalize idxP (impl_has.p x1 [1]) (l0.take kk) = q1 at hG1 hC
        generalize idxP (impl_has.p x1 [4, 5]) (l0.take kk) = q2 at hG2 hC
        have hW1 := fun W => impl_within.calls x0 1 5 _ W rfl
        have hW2 := fun W => impl_within.calls x1 2 999 _ W rfl
        have hW3 := fun W => impl_isKey.calls x2 _ W rfl
        have hW4 := fun W => impl_within.calls x3 0 999 _ W rfl
        generalize withinB x0 1 5 = b1 at hW1 hC
        generalize withinB x1 2 999 = b2 at hW2 hC
        generalize withinB x2 0 31 = b3 at hW3 hC
        generalize withinB x3 0 999 = b4 at hW4 hC
        have HC := Aside0.mk hC
        have G1 := Aside0.mk hG1
        have G2 := Aside0.mk hG2
        have W1 := Aside0.mk hW1
        have W2 := Aside0.mk hW2
        have W3 := Aside0.mk hW3
        have W4 := Aside0.mk hW4
        clear hC hG1 hG2 hW1 hW2 hW3 hW4 HH1 HH2
        go_upto_region 6 with fail
        go_cut [5, 6] (fun s5 s6 wx => s5 = .bool (x0 == 2 || x0 == 3) ∧ s6 = .slice (some ad) kk c0 ∧ Aside0 (Below wr.heap.size wr wx) ∧ Aside0 (wx.heap[wr.heap.size]? = some (.cells #[.int .i64 x0, .int .i64 x1, .int .i64 x2, .int .i64 x3] 48 (0, 0))))
        case first =>
          have hk0 : (0 : Int) ≤ (kk : Int) := by omega
          have hk1 : (kk : Int) ≤ (l0.length : Int) := by omega
          have hk2 : (kk : Int) ≤ (c0 : Int) := by omega
          by_cases e2 : x0 = 2
          · have e2b : (x0 == 2) = true := by simp [e2]
            clear e2
            go_quiet (fail)
            go_wp2
            go_meet
            exact ⟨by simp [e2b], rfl, ⟨pw_below_drewN (below_alloc (Below.refl _ _) _) _⟩, ⟨heap_alloc_new wr _⟩⟩
          · have e2b : (x0 == 2) = false := by simp [e2]
            clear e2
            go_quiet (fail)
            go_wp2
            go_meet
            exact ⟨by simp [e2b], rfl, ⟨pw_below_drewN (below_alloc (Below.refl _ _) _) _⟩, ⟨heap_alloc_new wr _⟩⟩
        case rest =>
          obtain ⟨rfl, rfl, CB, CX⟩ := hcut
          generalize (x0 == 2 || x0 == 3) = tt at HC ⊢
          obtain ⟨hx0, hx1, hx2, hx3⟩ := cells4 CX.out
          clear hd0 hd1 hd2 hd3
          go_upto_region 8 with (go_at_call 36; refine (G1.out _ 2 _ ?s1 ?s2).mono ?_; (case s1 => exact below_alloc (below_step BW.out CB.out) _); (case s2 => exact heap_alloc_new _ _); rintro e w1 ⟨rfl, hb1⟩)
          have hB1 := below_step (below_alloc (below_step BW.out CB.out) _) hb1
          have hX1 := blk_below (blk_alloc CX.out _) hb1
          have B1 := Aside0.mk hB1
          have X1 := Aside0.mk hX1
          clear hx0 hx1 hx2 hx3 hB1 hX1 hb1 CB CX
          obtain ⟨hx0, hx1, hx2, hx3⟩ := cells4 X1.out
          cases b1 with
          | false =>
            have hc : c = 3 := by rw [HC.out]; rfl
            have HK := Aside0.mk hc
            clear hc
            go_wp2_with (first | (go_at_call 68; (with_reducible refine (W1.out _).mono ?_); rintro e w2 ⟨rfl, ⟨n2, rfl⟩⟩) | (go_at_call 68; (with_reducible refine (W2.out _).mono ?_); rintro e w2 ⟨rfl, ⟨n2, rfl⟩⟩) | (go_at_call 69; (with_reducible refine (W3.out _).mono ?_); rintro e w2 ⟨rfl, ⟨n2, rfl⟩⟩) | (go_at_call 68; (with_reducible refine (W4.out _).mono ?_); rintro e w2 ⟨rfl, ⟨n2, rfl⟩⟩) | (go_at_call 36; refine (G2.out _ 2 _ ?s1 ?s2).mono ?_; (case s1 => exact below_alloc (by repeat (first | exact B1.out | apply pw_below_drewN)) _); (case s2 => exact heap_alloc_new _ _); rintro e w3 ⟨rfl, hb3⟩))
            go_ret
            exact ⟨by rw [HS.out, HK.out]; rfl, (by repeat (first | exact B1.out | apply pw_below_drewN))⟩
          | true =>
          cases b2 with
          | false =>
            have hc : c = 3 := by rw [HC.out]; rfl
            have HK := Aside0.mk hc
            clear hc
            go_wp2_with (first | (go_at_call 68; (with_reducible refine (W1.out _).mono ?_); rintro e w2 ⟨rfl, ⟨n2, rfl⟩⟩) | (go_at_call 68; (with_reducible refine (W2.out _).mono ?_); rintro e w2 ⟨rfl, ⟨n2, rfl⟩⟩) | (go_at_call 69; (with_reducible refine (W3.out _).mono ?_); rintro e w2 ⟨rfl, ⟨n2, rfl⟩⟩) | (go_at_call 68; (with_reducible refine (W4.out _).mono ?_); rintro e w2 ⟨rfl, ⟨n2, rfl⟩⟩) | (go_at_call 36; refine (G2.out _ 2 _ ?s1 ?s2).mono ?_; (case s1 => exact below_alloc (by repeat (first | exact B1.out | apply pw_below_drewN)) _); (case s2 => exact heap_alloc_new _ _); rintro e w3 ⟨rfl, hb3⟩))
            go_ret
            exact ⟨by rw [HS.out, HK.out]; rfl, (by repeat (first | exact B1.out | apply pw_below_drewN))⟩
          | true =>
          cases b3 with
          | false =>
            have hc : c = 3 := by rw [HC.out]; rfl
            have HK := Aside0.mk hc
            clear hc
            go_wp2_with (first | (go_at_call 68; (with_reducible refine (W1.out _).mono ?_); rintro e w2 ⟨rfl, ⟨n2, rfl⟩⟩) | (go_at_call 68; (with_reducible refine (W2.out _).mono ?_); rintro e w2 ⟨rfl, ⟨n2, rfl⟩⟩) | (go_at_call 69; (with_reducible refine (W3.out _).mono ?_); rintro e w2 ⟨rfl, ⟨n2, rfl⟩⟩) | (go_at_call 68; (with_reducible refine (W4.out _).mono ?_); rintro e w2 ⟨rfl, ⟨n2, rfl⟩⟩) | (go_at_call 36; refine (G2.out _ 2 _ ?s1 ?s2).mono ?_; (case s1 => exact below_alloc (by repeat (first | exact B1.out | apply pw_below_drewN)) _); (case s2 => exact heap_alloc_new _ _); rintro e w3 ⟨rfl, hb3⟩))
            go_ret
            exact ⟨by rw [HS.out, HK.out]; rfl, (by repeat (first | exact B1.out | apply pw_below_drewN))⟩
          | true =>
          cases b4 with
          | false =>
            have hc : c = 3 := by rw [HC.out]; rfl
            have HK := Aside0.mk hc
            clear hc
            go_wp2_with (first | (go_at_call 68; (with_reducible refine (W1.out _).mono ?_); rintro e w2 ⟨rfl, ⟨n2, rfl⟩⟩) | (go_at_call 68; (with_reducible refine (W2.out _).mono ?_); rintro e w2 ⟨rfl, ⟨n2, rfl⟩⟩) | (go_at_call 69; (with_reducible refine (W3.out _).mono ?_); rintro e w2 ⟨rfl, ⟨n2, rfl⟩⟩) | (go_at_call 68; (with_reducible refine (W4.out _).mono ?_); rintro e w2 ⟨rfl, ⟨n2, rfl⟩⟩) | (go_at_call 36; refine (G2.out _ 2 _ ?s1 ?s2).mono ?_; (case s1 => exact below_alloc (by repeat (first | exact B1.out | apply pw_below_drewN)) _); (case s2 => exact heap_alloc_new _ _); rintro e w3 ⟨rfl, hb3⟩))
            go_ret
            exact ⟨by rw [HS.out, HK.out]; rfl, (by repeat (first | exact B1.out | apply pw_below_drewN))⟩
          | true =>
          generalize decide (0 ≤ q1) = bg at HC ⊢
          cases tt with
          | true =>
            cases z02 : (x0 != 2) with
            | false =>
              cases z1 : (x0 == 1) with
              | false =>
                cases bg with
                | false =>
                  have hc : c = 10 := by rw [HC.out]; simp [z02, z1]
                  have HK := Aside0.mk hc
                  clear hc
                  go_wp2_with (first | (go_at_call 68; (with_reducible refine (W1.out _).mono ?_); rintro e w2 ⟨rfl, ⟨n2, rfl⟩⟩) | (go_at_call 68; (with_reducible refine (W2.out _).mono ?_); rintro e w2 ⟨rfl, ⟨n2, rfl⟩⟩) | (go_at_call 69; (with_reducible refine (W3.out _).mono ?_); rintro e w2 ⟨rfl, ⟨n2, rfl⟩⟩) | (go_at_call 68; (with_reducible refine (W4.out _).mono ?_); rintro e w2 ⟨rfl, ⟨n2, rfl⟩⟩) | (go_at_call 36; refine (G2.out _ 2 _ ?s1 ?s2).mono ?_; (case s1 => exact below_alloc (by repeat (first | exact B1.out | apply pw_below_drewN)) _); (case s2 => exact heap_alloc_new _ _); rintro e w3 ⟨rfl, hb3⟩))
                  go_ret
                  exact ⟨by rw [HS.out, HK.out]; rfl, (by repeat (first | exact B1.out | apply pw_below_drewN))⟩
                | true =>
                  cases zq : (decide (0 ≤ q2)) with
                  | true =>
                    have hc : c = 10 := by rw [HC.out]; simp [z02, z1, zq]
                    have HK := Aside0.mk hc
                    clear hc
                    go_wp2_with (first | (go_at_call 68; (with_reducible refine (W1.out _).mono ?_); rintro e w2 ⟨rfl, ⟨n2, rfl⟩⟩) | (go_at_call 68; (with_reducible refine (W2.out _).mono ?_); rintro e w2 ⟨rfl, ⟨n2, rfl⟩⟩) | (go_at_call 69; (with_reducible refine (W3.out _).mono ?_); rintro e w2 ⟨rfl, ⟨n2, rfl⟩⟩) | (go_at_call 68; (with_reducible refine (W4.out _).mono ?_); rintro e w2 ⟨rfl, ⟨n2, rfl⟩⟩) | (go_at_call 36; refine (G2.out _ 2 _ ?s1 ?s2).mono ?_; (case s1 => exact below_alloc (by repeat (first | exact B1.out | apply pw_below_drewN)) _); (case s2 => exact heap_alloc_new _ _); rintro e w3 ⟨rfl, hb3⟩))
                    go_ret
                    exact ⟨by rw [HS.out, HK.out]; rfl, below_step (below_alloc (by repeat (first | exact B1.out | apply pw_below_drewN)) _) hb3⟩
                  | false =>
                    have hc : c = 0 := by rw [HC.out]; simp [z02, z1, zq]
                    have HK := Aside0.mk hc
                    clear hc
                    go_wp2_with (first | (go_at_call 68; (with_reducible refine (W1.out _).mono ?_); rintro e w2 ⟨rfl, ⟨n2, rfl⟩⟩) | (go_at_call 68; (with_reducible refine (W2.out _).mono ?_); rintro e w2 ⟨rfl, ⟨n2, rfl⟩⟩) | (go_at_call 69; (with_reducible refine (W3.out _).mono ?_); rintro e w2 ⟨rfl, ⟨n2, rfl⟩⟩) | (go_at_call 68; (with_reducible refine (W4.out _).mono ?_); rintro e w2 ⟨rfl, ⟨n2, rfl⟩⟩) | (go_at_call 36; refine (G2.out _ 2 _ ?s1 ?s2).mono ?_; (case s1 => exact below_alloc (by repeat (first | exact B1.out | apply pw_below_drewN)) _); (case s2 => exact heap_alloc_new _ _); rintro e w3 ⟨rfl, hb3⟩))
                    go_roundg (l0.length - (kk + 1))
                    case measure => omega
                    case rel => exact ⟨kk + 1, by omega, by omega, rfl, by go_num, ⟨below_step (below_alloc (by repeat (first | exact B1.out | apply pw_below_drewN)) _) hb3⟩, ⟨by have h_ := HS.out; rw [HK.out, if_pos rfl] at h_; exact h_.symm⟩⟩
              | true =>
                cases bg with
                | false =>
                  cases zq : (decide (0 ≤ q2)) with
                  | true =>
                    have hc : c = 10 := by rw [HC.out]; simp [z02, z1, zq]
                    have HK := Aside0.mk hc
                    clear hc
                    go_wp2_with (first | (go_at_call 68; (with_reducible refine (W1.out _).mono ?_); rintro e w2 ⟨rfl, ⟨n2, rfl⟩⟩) | (go_at_call 68; (with_reducible refine (W2.out _).mono ?_); rintro e w2 ⟨rfl, ⟨n2, rfl⟩⟩) | (go_at_call 69; (with_reducible refine (W3.out _).mono ?_); rintro e w2 ⟨rfl, ⟨n2, rfl⟩⟩) | (go_at_call 68; (with_reducible refine (W4.out _).mono ?_); rintro e w2 ⟨rfl, ⟨n2, rfl⟩⟩) | (go_at_call 36; refine (G2.out _ 2 _ ?s1 ?s2).mono ?_; (case s1 => exact below_alloc (by repeat (first | exact B1.out | apply pw_below_drewN)) _); (case s2 => exact heap_alloc_new _ _); rintro e w3 ⟨rfl, hb3⟩))
                    go_ret
                    exact ⟨by rw [HS.out, HK.out]; rfl, below_step (below_alloc (by repeat (first | exact B1.out | apply pw_below_drewN)) _) hb3⟩
                  | false =>
                    have hc : c = 0 := by rw [HC.out]; simp [z02, z1, zq]
                    have HK := Aside0.mk hc
                    clear hc
                    go_wp2_with (first | (go_at_call 68; (with_reducible refine (W1.out _).mono ?_); rintro e w2 ⟨rfl, ⟨n2, rfl⟩⟩) | (go_at_call 68; (with_reducible refine (W2.out _).mono ?_); rintro e w2 ⟨rfl, ⟨n2, rfl⟩⟩) | (go_at_call 69; (with_reducible refine (W3.out _).mono ?_); rintro e w2 ⟨rfl, ⟨n2, rfl⟩⟩) | (go_at_call 68; (with_reducible refine (W4.out _).mono ?_); rintro e w2 ⟨rfl, ⟨n2, rfl⟩⟩) | (go_at_call 36; refine (G2.out _ 2 _ ?s1 ?s2).mono ?_; (case s1 => exact below_alloc (by repeat (first | exact B1.out | apply pw_below_drewN)) _); (case s2 => exact heap_alloc_new _ _); rintro e w3 ⟨rfl, hb3⟩))
                    go_roundg (l0.length - (kk + 1))
                    case measure => omega
                    case rel => exact ⟨kk + 1, by omega, by omega, rfl, by go_num, ⟨below_step (below_alloc (by repeat (first | exact B1.out | apply pw_below_drewN)) _) hb3⟩, ⟨by have h_ := HS.out; rw [HK.out, if_pos rfl] at h_; exact h_.symm⟩⟩
                | true =>
                  have hc : c = 10 := by rw [HC.out]; simp [z02, z1]
                  have HK := Aside0.mk hc
                  clear hc
                  go_wp2_with (first | (go_at_call 68; (with_reducible refine (W1.out _).mono ?_); rintro e w2 ⟨rfl, ⟨n2, rfl⟩⟩) | (go_at_call 68; (with_reducible refine (W2.out _).mono ?_); rintro e w2 ⟨rfl, ⟨n2, rfl⟩⟩) | (go_at_call 69; (with_reducible refine (W3.out _).mono ?_); rintro e w2 ⟨rfl, ⟨n2, rfl⟩⟩) | (go_at_call 68; (with_reducible refine (W4.out _).mono ?_); rintro e w2 ⟨rfl, ⟨n2, rfl⟩⟩) | (go_at_call 36; refine (G2.out _ 2 _ ?s1 ?s2).mono ?_; (case s1 => exact below_alloc (by repeat (first | exact B1.out | apply pw_below_drewN)) _); (case s2 => exact heap_alloc_new _ _); rintro e w3 ⟨rfl, hb3⟩))
                  go_ret
                  exact ⟨by rw [HS.out, HK.out]; rfl, (by repeat (first | exact B1.out | apply pw_below_drewN))⟩
            | true =>
              cases z3 : (x3 != 0) with
              | true =>
                have hc : c = 1 := by rw [HC.out]; simp [z02, z3]
                have HK := Aside0.mk hc
                clear hc
                go_wp2_with (first | (go_at_call 68; (with_reducible refine (W1.out _).mono ?_); rintro e w2 ⟨rfl, ⟨n2, rfl⟩⟩) | (go_at_call 68; (with_reducible refine (W2.out _).mono ?_); rintro e w2 ⟨rfl, ⟨n2, rfl⟩⟩) | (go_at_call 69; (with_reducible refine (W3.out _).mono ?_); rintro e w2 ⟨rfl, ⟨n2, rfl⟩⟩) | (go_at_call 68; (with_reducible refine (W4.out _).mono ?_); rintro e w2 ⟨rfl, ⟨n2, rfl⟩⟩) | (go_at_call 36; refine (G2.out _ 2 _ ?s1 ?s2).mono ?_; (case s1 => exact below_alloc (by repeat (first | exact B1.out | apply pw_below_drewN)) _); (case s2 => exact heap_alloc_new _ _); rintro e w3 ⟨rfl, hb3⟩))
                go_ret
                exact ⟨by rw [HS.out, HK.out]; rfl, (by repeat (first | exact B1.out | apply pw_below_drewN))⟩
              | false =>
                cases z1 : (x0 == 1) with
                | false =>
                  cases bg with
                  | false =>
                    have hc : c = 10 := by rw [HC.out]; simp [z02, z3, z1]
                    have HK := Aside0.mk hc
                    clear hc
                    go_wp2_with (first | (go_at_call 68; (with_reducible refine (W1.out _).mono ?_); rintro e w2 ⟨rfl, ⟨n2, rfl⟩⟩) | (go_at_call 68; (with_reducible refine (W2.out _).mono ?_); rintro e w2 ⟨rfl, ⟨n2, rfl⟩⟩) | (go_at_call 69; (with_reducible refine (W3.out _).mono ?_); rintro e w2 ⟨rfl, ⟨n2, rfl⟩⟩) | (go_at_call 68; (with_reducible refine (W4.out _).mono ?_); rintro e w2 ⟨rfl, ⟨n2, rfl⟩⟩) | (go_at_call 36; refine (G2.out _ 2 _ ?s1 ?s2).mono ?_; (case s1 => exact below_alloc (by repeat (first | exact B1.out | apply pw_below_drewN)) _); (case s2 => exact heap_alloc_new _ _); rintro e w3 ⟨rfl, hb3⟩))
                    go_ret
                    exact ⟨by rw [HS.out, HK.out]; rfl, (by repeat (first | exact B1.out | apply pw_below_drewN))⟩
                  | true =>
                    cases zq : (decide (0 ≤ q2)) with
                    | true =>
                      have hc : c = 10 := by rw [HC.out]; simp [z02, z3, z1, zq]
                      have HK := Aside0.mk hc
                      clear hc
                      go_wp2_with (first | (go_at_call 68; (with_reducible refine (W1.out _).mono ?_); rintro e w2 ⟨rfl, ⟨n2, rfl⟩⟩) | (go_at_call 68; (with_reducible refine (W2.out _).mono ?_); rintro e w2 ⟨rfl, ⟨n2, rfl⟩⟩) | (go_at_call 69; (with_reducible refine (W3.out _).mono ?_); rintro e w2 ⟨rfl, ⟨n2, rfl⟩⟩) | (go_at_call 68; (with_reducible refine (W4.out _).mono ?_); rintro e w2 ⟨rfl, ⟨n2, rfl⟩⟩) | (go_at_call 36; refine (G2.out _ 2 _ ?s1 ?s2).mono ?_; (case s1 => exact below_alloc (by repeat (first | exact B1.out | apply pw_below_drewN)) _); (case s2 => exact heap_alloc_new _ _); rintro e w3 ⟨rfl, hb3⟩))
                      go_ret
                      exact ⟨by rw [HS.out, HK.out]; rfl, below_step (below_alloc (by repeat (first | exact B1.out | apply pw_below_drewN)) _) hb3⟩
                    | false =>
                      have hc : c = 0 := by rw [HC.out]; simp [z02, z3, z1, zq]
                      have HK := Aside0.mk hc
                      clear hc
                      go_wp2_with (first | (go_at_call 68; (with_reducible refine (W1.out _).mono ?_); rintro e w2 ⟨rfl, ⟨n2, rfl⟩⟩) | (go_at_call 68; (with_reducible refine (W2.out _).mono ?_); rintro e w2 ⟨rfl, ⟨n2, rfl⟩⟩) | (go_at_call 69; (with_reducible refine (W3.out _).mono ?_); rintro e w2 ⟨rfl, ⟨n2, rfl⟩⟩) | (go_at_call 68; (with_reducible refine (W4.out _).mono ?_); rintro e w2 ⟨rfl, ⟨n2, rfl⟩⟩) | (go_at_call 36; refine (G2.out _ 2 _ ?s1 ?s2).mono ?_; (case s1 => exact below_alloc (by repeat (first | exact B1.out | apply pw_below_drewN)) _); (case s2 => exact heap_alloc_new _ _); rintro e w3 ⟨rfl, hb3⟩))
                      go_roundg (l0.length - (kk + 1))
                      case measure => omega
                      case rel => exact ⟨kk + 1, by omega, by omega, rfl, by go_num, ⟨below_step (below_alloc (by repeat (first | exact B1.out | apply pw_below_drewN)) _) hb3⟩, ⟨by have h_ := HS.out; rw [HK.out, if_pos rfl] at h_; exact h_.symm⟩⟩
                | true =>
                  cases bg with
                  | false =>
                    cases zq : (decide (0 ≤ q2)) with
                    | true =>
                      have hc : c = 10 := by rw [HC.out]; simp [z02, z3, z1, zq]
                      have HK := Aside0.mk hc
                      clear hc
                      go_wp2_with (first | (go_at_call 68; (with_reducible refine (W1.out _).mono ?_); rintro e w2 ⟨rfl, ⟨n2, rfl⟩⟩) | (go_at_call 68; (with_reducible refine (W2.out _).mono ?_); rintro e w2 ⟨rfl, ⟨n2, rfl⟩⟩) | (go_at_call 69; (with_reducible refine (W3.out _).mono ?_); rintro e w2 ⟨rfl, ⟨n2, rfl⟩⟩) | (go_at_call 68; (with_reducible refine (W4.out _).mono ?_); rintro e w2 ⟨rfl, ⟨n2, rfl⟩⟩) | (go_at_call 36; refine (G2.out _ 2 _ ?s1 ?s2).mono ?_; (case s1 => exact below_alloc (by repeat (first | exact B1.out | apply pw_below_drewN)) _); (case s2 => exact heap_alloc_new _ _); rintro e w3 ⟨rfl, hb3⟩))
                      go_ret
                      exact ⟨by rw [HS.out, HK.out]; rfl, below_step (below_alloc (by repeat (first | exact B1.out | apply pw_below_drewN)) _) hb3⟩
                    | false =>
                      have hc : c = 0 := by rw [HC.out]; simp [z02, z3, z1, zq]
                      have HK := Aside0.mk hc
                      clear hc
                      go_wp2_with (first | (go_at_call 68; (with_reducible refine (W1.out _).mono ?_); rintro e w2 ⟨rfl, ⟨n2, rfl⟩⟩) | (go_at_call 68; (with_reducible refine (W2.out _).mono ?_); rintro e w2 ⟨rfl, ⟨n2, rfl⟩⟩) | (go_at_call 69; (with_reducible refine (W3.out _).mono ?_); rintro e w2 ⟨rfl, ⟨n2, rfl⟩⟩) | (go_at_call 68; (with_reducible refine (W4.out _).mono ?_); rintro e w2 ⟨rfl, ⟨n2, rfl⟩⟩) | (go_at_call 36; refine (G2.out _ 2 _ ?s1 ?s2).mono ?_; (case s1 => exact below_alloc (by repeat (first | exact B1.out | apply pw_below_drewN)) _); (case s2 => exact heap_alloc_new _ _); rintro e w3 ⟨rfl, hb3⟩))
                      go_roundg (l0.length - (kk + 1))
                      case measure => omega
                      case rel => exact ⟨kk + 1, by omega, by omega, rfl, by go_num, ⟨below_step (below_alloc (by repeat (first | exact B1.out | apply pw_below_drewN)) _) hb3⟩, ⟨by have h_ := HS.out; rw [HK.out, if_pos rfl] at h_; exact h_.symm⟩⟩
                  | true =>
                    have hc : c = 10 := by rw [HC.out]; simp [z02, z3, z1]
                    have HK := Aside0.mk hc
                    clear hc
                    go_wp2_with (first | (go_at_call 68; (with_reducible refine (W1.out _).mono ?_); rintro e w2 ⟨rfl, ⟨n2, rfl⟩⟩) | (go_at_call 68; (with_reducible refine (W2.out _).mono ?_); rintro e w2 ⟨rfl, ⟨n2, rfl⟩⟩) | (go_at_call 69; (with_reducible refine (W3.out _).mono ?_); rintro e w2 ⟨rfl, ⟨n2, rfl⟩⟩) | (go_at_call 68; (with_reducible refine (W4.out _).mono ?_); rintro e w2 ⟨rfl, ⟨n2, rfl⟩⟩) | (go_at_call 36; refine (G2.out _ 2 _ ?s1 ?s2).mono ?_; (case s1 => exact below_alloc (by repeat (first | exact B1.out | apply pw_below_drewN)) _); (case s2 => exact heap_alloc_new _ _); rintro e w3 ⟨rfl, hb3⟩))
                    go_ret
                    exact ⟨by rw [HS.out, HK.out]; rfl, (by repeat (first | exact B1.out | apply pw_below_drewN))⟩
          | false =>
            cases z2 : (x2 != 0) with
            | true =>
              have hc : c = 1 := by rw [HC.out]; simp [z2]
              have HK := Aside0.mk hc
              clear hc
              go_wp2_with (first | (go_at_call 68; (with_reducible refine (W1.out _).mono ?_); rintro e w2 ⟨rfl, ⟨n2, rfl⟩⟩) | (go_at_call 68; (with_reducible refine (W2.out _).mono ?_); rintro e w2 ⟨rfl, ⟨n2, rfl⟩⟩) | (go_at_call 69; (with_reducible refine (W3.out _).mono ?_); rintro e w2 ⟨rfl, ⟨n2, rfl⟩⟩) | (go_at_call 68; (with_reducible refine (W4.out _).mono ?_); rintro e w2 ⟨rfl, ⟨n2, rfl⟩⟩) | (go_at_call 36; refine (G2.out _ 2 _ ?s1 ?s2).mono ?_; (case s1 => exact below_alloc (by repeat (first | exact B1.out | apply pw_below_drewN)) _); (case s2 => exact heap_alloc_new _ _); rintro e w3 ⟨rfl, hb3⟩))
              go_ret
              exact ⟨by rw [HS.out, HK.out]; rfl, (by repeat (first | exact B1.out | apply pw_below_drewN))⟩
            | false =>
              cases z02 : (x0 != 2) with
              | false =>
                cases z1 : (x0 == 1) with
                | false =>
                  cases bg with
                  | false =>
                    have hc : c = 10 := by rw [HC.out]; simp [z2, z02, z1]
                    have HK := Aside0.mk hc
                    clear hc
                    go_wp2_with (first | (go_at_call 68; (with_reducible refine (W1.out _).mono ?_); rintro e w2 ⟨rfl, ⟨n2, rfl⟩⟩) | (go_at_call 68; (with_reducible refine (W2.out _).mono ?_); rintro e w2 ⟨rfl, ⟨n2, rfl⟩⟩) | (go_at_call 69; (with_reducible refine (W3.out _).mono ?_); rintro e w2 ⟨rfl, ⟨n2, rfl⟩⟩) | (go_at_call 68; (with_reducible refine (W4.out _).mono ?_); rintro e w2 ⟨rfl, ⟨n2, rfl⟩⟩) | (go_at_call 36; refine (G2.out _ 2 _ ?s1 ?s2).mono ?_; (case s1 => exact below_alloc (by repeat (first | exact B1.out | apply pw_below_drewN)) _); (case s2 => exact heap_alloc_new _ _); rintro e w3 ⟨rfl, hb3⟩))
                    go_ret
                    exact ⟨by rw [HS.out, HK.out]; rfl, (by repeat (first | exact B1.out | apply pw_below_drewN))⟩
                  | true =>
                    cases zq : (decide (0 ≤ q2)) with
                    | true =>
                      have hc : c = 10 := by rw [HC.out]; simp [z2, z02, z1, zq]
                      have HK := Aside0.mk hc
                      clear hc
                      go_wp2_with (first | (go_at_call 68; (with_reducible refine (W1.out _).mono ?_); rintro e w2 ⟨rfl, ⟨n2, rfl⟩⟩) | (go_at_call 68; (with_reducible refine (W2.out _).mono ?_); rintro e w2 ⟨rfl, ⟨n2, rfl⟩⟩) | (go_at_call 69; (with_reducible refine (W3.out _).mono ?_); rintro e w2 ⟨rfl, ⟨n2, rfl⟩⟩) | (go_at_call 68; (with_reducible refine (W4.out _).mono ?_); rintro e w2 ⟨rfl, ⟨n2, rfl⟩⟩) | (go_at_call 36; refine (G2.out _ 2 _ ?s1 ?s2).mono ?_; (case s1 => exact below_alloc (by repeat (first | exact B1.out | apply pw_below_drewN)) _); (case s2 => exact heap_alloc_new _ _); rintro e w3 ⟨rfl, hb3⟩))
                      go_ret
                      exact ⟨by rw [HS.out, HK.out]; rfl, below_step (below_alloc (by repeat (first | exact B1.out | apply pw_below_drewN)) _) hb3⟩
                    | false =>
                      have hc : c = 0 := by rw [HC.out]; simp [z2, z02, z1, zq]
                      have HK := Aside0.mk hc
                      clear hc
                      go_wp2_with (first | (go_at_call 68; (with_reducible refine (W1.out _).mono ?_); rintro e w2 ⟨rfl, ⟨n2, rfl⟩⟩) | (go_at_call 68; (with_reducible refine (W2.out _).mono ?_); rintro e w2 ⟨rfl, ⟨n2, rfl⟩⟩) | (go_at_call 69; (with_reducible refine (W3.out _).mono ?_); rintro e w2 ⟨rfl, ⟨n2, rfl⟩⟩) | (go_at_call 68; (with_reducible refine (W4.out _).mono ?_); rintro e w2 ⟨rfl, ⟨n2, rfl⟩⟩) | (go_at_call 36; refine (G2.out _ 2 _ ?s1 ?s2).mono ?_; (case s1 => exact below_alloc (by repeat (first | exact B1.out | apply pw_below_drewN)) _); (case s2 => exact heap_alloc_new _ _); rintro e w3 ⟨rfl, hb3⟩))
                      go_roundg (l0.length - (kk + 1))
                      case measure => omega
                      case rel => exact ⟨kk + 1, by omega, by omega, rfl, by go_num, ⟨below_step (below_alloc (by repeat (first | exact B1.out | apply pw_below_drewN)) _) hb3⟩, ⟨by have h_ := HS.out; rw [HK.out, if_pos rfl] at h_; exact h_.symm⟩⟩
                | true =>
                  cases bg with
                  | false =>
                    cases zq : (decide (0 ≤ q2)) with
                    | true =>
                      have hc : c = 10 := by rw [HC.out]; simp [z2, z02, z1, zq]
                      have HK := Aside0.mk hc
                      clear hc
                      go_wp2_with (first | (go_at_call 68; (with_reducible refine (W1.out _).mono ?_); rintro e w2 ⟨rfl, ⟨n2, rfl⟩⟩) | (go_at_call 68; (with_reducible refine (W2.out _).mono ?_); rintro e w2 ⟨rfl, ⟨n2, rfl⟩⟩) | (go_at_call 69; (with_reducible refine (W3.out _).mono ?_); rintro e w2 ⟨rfl, ⟨n2, rfl⟩⟩) | (go_at_call 68; (with_reducible refine (W4.out _).mono ?_); rintro e w2 ⟨rfl, ⟨n2, rfl⟩⟩) | (go_at_call 36; refine (G2.out _ 2 _ ?s1 ?s2).mono ?_; (case s1 => exact below_alloc (by repeat (first | exact B1.out | apply pw_below_drewN)) _); (case s2 => exact heap_alloc_new _ _); rintro e w3 ⟨rfl, hb3⟩))
                      go_ret
                      exact ⟨by rw [HS.out, HK.out]; rfl, below_step (below_alloc (by repeat (first | exact B1.out | apply pw_below_drewN)) _) hb3⟩
                    | false =>
                      have hc : c = 0 := by rw [HC.out]; simp [z2, z02, z1, zq]
                      have HK := Aside0.mk hc
                      clear hc
                      go_wp2_with (first | (go_at_call 68; (with_reducible refine (W1.out _).mono ?_); rintro e w2 ⟨rfl, ⟨n2, rfl⟩⟩) | (go_at_call 68; (with_reducible refine (W2.out _).mono ?_); rintro e w2 ⟨rfl, ⟨n2, rfl⟩⟩) | (go_at_call 69; (with_reducible refine (W3.out _).mono ?_); rintro e w2 ⟨rfl, ⟨n2, rfl⟩⟩) | (go_at_call 68; (with_reducible refine (W4.out _).mono ?_); rintro e w2 ⟨rfl, ⟨n2, rfl⟩⟩) | (go_at_call 36; refine (G2.out _ 2 _ ?s1 ?s2).mono ?_; (case s1 => exact below_alloc (by repeat (first | exact B1.out | apply pw_below_drewN)) _); (case s2 => exact heap_alloc_new _ _); rintro e w3 ⟨rfl, hb3⟩))
                      go_roundg (l0.length - (kk + 1))
                      case measure => omega
                      case rel => exact ⟨kk + 1, by omega, by omega, rfl, by go_num, ⟨below_step (below_alloc (by repeat (first | exact B1.out | apply pw_below_drewN)) _) hb3⟩, ⟨by have h_ := HS.out; rw [HK.out, if_pos rfl] at h_; exact h_.symm⟩⟩
                  | true =>
                    have hc : c = 10 := by rw [HC.out]; simp [z2, z02, z1]
                    have HK := Aside0.mk hc
                    clear hc
                    go_wp2_with (first | (go_at_call 68; (with_reducible refine (W1.out _).mono ?_); rintro e w2 ⟨rfl, ⟨n2, rfl⟩⟩) | (go_at_call 68; (with_reducible refine (W2.out _).mono ?_); rintro e w2 ⟨rfl, ⟨n2, rfl⟩⟩) | (go_at_call 69; (with_reducible refine (W3.out _).mono ?_); rintro e w2 ⟨rfl, ⟨n2, rfl⟩⟩) | (go_at_call 68; (with_reducible refine (W4.out _).mono ?_); rintro e w2 ⟨rfl, ⟨n2, rfl⟩⟩) | (go_at_call 36; refine (G2.out _ 2 _ ?s1 ?s2).mono ?_; (case s1 => exact below_alloc (by repeat (first | exact B1.out | apply pw_below_drewN)) _); (case s2 => exact heap_alloc_new _ _); rintro e w3 ⟨rfl, hb3⟩))
                    go_ret
                    exact ⟨by rw [HS.out, HK.out]; rfl, (by repeat (first | exact B1.out | apply pw_below_drewN))⟩
              | true =>
                cases z3 : (x3 != 0) with
                | true =>
                  have hc : c = 1 := by rw [HC.out]; simp [z2, z02, z3]
                  have HK := Aside0.mk hc
                  clear hc
                  go_wp2_with (first | (go_at_call 68; (with_reducible refine (W1.out _).mono ?_); rintro e w2 ⟨rfl, ⟨n2, rfl⟩⟩) | (go_at_call 68; (with_reducible refine (W2.out _).mono ?_); rintro e w2 ⟨rfl, ⟨n2, rfl⟩⟩) | (go_at_call 69; (with_reducible refine (W3.out _).mono ?_); rintro e w2 ⟨rfl, ⟨n2, rfl⟩⟩) | (go_at_call 68; (with_reducible refine (W4.out _).mono ?_); rintro e w2 ⟨rfl, ⟨n2, rfl⟩⟩) | (go_at_call 36; refine (G2.out _ 2 _ ?s1 ?s2).mono ?_; (case s1 => exact below_alloc (by repeat (first | exact B1.out | apply pw_below_drewN)) _); (case s2 => exact heap_alloc_new _ _); rintro e w3 ⟨rfl, hb3⟩))
                  go_ret
                  exact ⟨by rw [HS.out, HK.out]; rfl, (by repeat (first | exact B1.out | apply pw_below_drewN))⟩
                | false =>
                  cases z1 : (x0 == 1) with
                  | false =>
                    cases bg with
                    | false =>
                      have hc : c = 10 := by rw [HC.out]; simp [z2, z02, z3, z1]
                      have HK := Aside0.mk hc
                      clear hc
                      go_wp2_with (first | (go_at_call 68; (with_reducible refine (W1.out _).mono ?_); rintro e w2 ⟨rfl, ⟨n2, rfl⟩⟩) | (go_at_call 68; (with_reducible refine (W2.out _).mono ?_); rintro e w2 ⟨rfl, ⟨n2, rfl⟩⟩) | (go_at_call 69; (with_reducible refine (W3.out _).mono ?_); rintro e w2 ⟨rfl, ⟨n2, rfl⟩⟩) | (go_at_call 68; (with_reducible refine (W4.out _).mono ?_); rintro e w2 ⟨rfl, ⟨n2, rfl⟩⟩) | (go_at_call 36; refine (G2.out _ 2 _ ?s1 ?s2).mono ?_; (case s1 => exact below_alloc (by repeat (first | exact B1.out | apply pw_below_drewN)) _); (case s2 => exact heap_alloc_new _ _); rintro e w3 ⟨rfl, hb3⟩))
                      go_ret
                      exact ⟨by rw [HS.out, HK.out]; rfl, (by repeat (first | exact B1.out | apply pw_below_drewN))⟩
                    | true =>
                      cases zq : (decide (0 ≤ q2)) with
                      | true =>
                        have hc : c = 10 := by rw [HC.out]; simp [z2, z02, z3, z1, zq]
                        have HK := Aside0.mk hc
                        clear hc
                        go_wp2_with (first | (go_at_call 68; (with_reducible refine (W1.out _).mono ?_); rintro e w2 ⟨rfl, ⟨n2, rfl⟩⟩) | (go_at_call 68; (with_reducible refine (W2.out _).mono ?_); rintro e w2 ⟨rfl, ⟨n2, rfl⟩⟩) | (go_at_call 69; (with_reducible refine (W3.out _).mono ?_); rintro e w2 ⟨rfl, ⟨n2, rfl⟩⟩) | (go_at_call 68; (with_reducible refine (W4.out _).mono ?_); rintro e w2 ⟨rfl, ⟨n2, rfl⟩⟩) | (go_at_call 36; refine (G2.out _ 2 _ ?s1 ?s2).mono ?_; (case s1 => exact below_alloc (by repeat (first | exact B1.out | apply pw_below_drewN)) _); (case s2 => exact heap_alloc_new _ _); rintro e w3 ⟨rfl, hb3⟩))
                        go_ret
                        exact ⟨by rw [HS.out, HK.out]; rfl, below_step (below_alloc (by repeat (first | exact B1.out | apply pw_below_drewN)) _) hb3⟩
                      | false =>
                        have hc : c = 0 := by rw [HC.out]; simp [z2, z02, z3, z1, zq]
                        have HK := Aside0.mk hc
                        clear hc
                        go_wp2_with (first | (go_at_call 68; (with_reducible refine (W1.out _).mono ?_); rintro e w2 ⟨rfl, ⟨n2, rfl⟩⟩) | (go_at_call 68; (with_reducible refine (W2.out _).mono ?_); rintro e w2 ⟨rfl, ⟨n2, rfl⟩⟩) | (go_at_call 69; (with_reducible refine (W3.out _).mono ?_); rintro e w2 ⟨rfl, ⟨n2, rfl⟩⟩) | (go_at_call 68; (with_reducible refine (W4.out _).mono ?_); rintro e w2 ⟨rfl, ⟨n2, rfl⟩⟩) | (go_at_call 36; refine (G2.out _ 2 _ ?s1 ?s2).mono ?_; (case s1 => exact below_alloc (by repeat (first | exact B1.out | apply pw_below_drewN)) _); (case s2 => exact heap_alloc_new _ _); rintro e w3 ⟨rfl, hb3⟩))
                        go_roundg (l0.length - (kk + 1))
                        case measure => omega
                        case rel => exact ⟨kk + 1, by omega, by omega, rfl, by go_num, ⟨below_step (below_alloc (by repeat (first | exact B1.out | apply pw_below_drewN)) _) hb3⟩, ⟨by have h_ := HS.out; rw [HK.out, if_pos rfl] at h_; exact h_.symm⟩⟩
                  | true =>
                    cases bg with
                    | false =>
                      cases zq : (decide (0 ≤ q2)) with
                      | true =>
                        have hc : c = 10 := by rw [HC.out]; simp [z2, z02, z3, z1, zq]
                        have HK := Aside0.mk hc
                        clear hc
                        go_wp2_with (first | (go_at_call 68; (with_reducible refine (W1.out _).mono ?_); rintro e w2 ⟨rfl, ⟨n2, rfl⟩⟩) | (go_at_call 68; (with_reducible refine (W2.out _).mono ?_); rintro e w2 ⟨rfl, ⟨n2, rfl⟩⟩) | (go_at_call 69; (with_reducible refine (W3.out _).mono ?_); rintro e w2 ⟨rfl, ⟨n2, rfl⟩⟩) | (go_at_call 68; (with_reducible refine (W4.out _).mono ?_); rintro e w2 ⟨rfl, ⟨n2, rfl⟩⟩) | (go_at_call 36; refine (G2.out _ 2 _ ?s1 ?s2).mono ?_; (case s1 => exact below_alloc (by repeat (first | exact B1.out | apply pw_below_drewN)) _); (case s2 => exact heap_alloc_new _ _); rintro e w3 ⟨rfl, hb3⟩))
                        go_ret
                        exact ⟨by rw [HS.out, HK.out]; rfl, below_step (below_alloc (by repeat (first | exact B1.out | apply pw_below_drewN)) _) hb3⟩
                      | false =>
                        have hc : c = 0 := by rw [HC.out]; simp [z2, z02, z3, z1, zq]
                        have HK := Aside0.mk hc
                        clear hc
                        go_wp2_with (first | (go_at_call 68; (with_reducible refine (W1.out _).mono ?_); rintro e w2 ⟨rfl, ⟨n2, rfl⟩⟩) | (go_at_call 68; (with_reducible refine (W2.out _).mono ?_); rintro e w2 ⟨rfl, ⟨n2, rfl⟩⟩) | (go_at_call 69; (with_reducible refine (W3.out _).mono ?_); rintro e w2 ⟨rfl, ⟨n2, rfl⟩⟩) | (go_at_call 68; (with_reducible refine (W4.out _).mono ?_); rintro e w2 ⟨rfl, ⟨n2, rfl⟩⟩) | (go_at_call 36; refine (G2.out _ 2 _ ?s1 ?s2).mono ?_; (case s1 => exact below_alloc (by repeat (first | exact B1.out | apply pw_below_drewN)) _); (case s2 => exact heap_alloc_new _ _); rintro e w3 ⟨rfl, hb3⟩))
                        go_roundg (l0.length - (kk + 1))
                        case measure => omega
                        case rel => exact ⟨kk + 1, by omega, by omega, rfl, by go_num, ⟨below_step (below_alloc (by repeat (first | exact B1.out | apply pw_below_drewN)) _) hb3⟩, ⟨by have h_ := HS.out; rw [HK.out, if_pos rfl] at h_; exact h_.symm⟩⟩
                    | true =>
                      have hc : c = 10 := by rw [HC.out]; simp [z2, z02, z3, z1]
                      have HK := Aside0.mk hc
                      clear hc
                      go_wp2_with (first | (go_at_call 68; (with_reducible refine (W1.out _).mono ?_); rintro e w2 ⟨rfl, ⟨n2, rfl⟩⟩) | (go_at_call 68; (with_reducible refine (W2.out _).mono ?_); rintro e w2 ⟨rfl, ⟨n2, rfl⟩⟩) | (go_at_call 69; (with_reducible refine (W3.out _).mono ?_); rintro e w2 ⟨rfl, ⟨n2, rfl⟩⟩) | (go_at_call 68; (with_reducible refine (W4.out _).mono ?_); rintro e w2 ⟨rfl, ⟨n2, rfl⟩⟩) | (go_at_call 36; refine (G2.out _ 2 _ ?s1 ?s2).mono ?_; (case s1 => exact below_alloc (by repeat (first | exact B1.out | apply pw_below_drewN)) _); (case s2 => exact heap_alloc_new _ _); rintro e w3 ⟨rfl, hb3⟩))
                      go_ret
                      exact ⟨by rw [HS.out, HK.out]; rfl, (by repeat (first | exact B1.out | apply pw_below_drewN))⟩
      · have hltz : ¬ (kk : Int) < (l0.length : Int) := by omega
        have : kk = l0.length := by omega
        subst this
        clear HH1 HH2 HRR
        go_wp2
        go_ret
        exact ⟨by rw [← HA.out]; simp [histGo], BW.out⟩
def histCode (l : List S48) : Int := if 400 < l.length then 2 else histGo [] l
theorem implHist (l : List S48) : impl_HistoryFault.f l = some (histCode l) := rfl
theorem histCode_len (l : List S48) (h : histCode l = 0) : l.length ≤ 400 := by
  unfold histCode at h
  split at h
  · omega
  · omega


/-! ### impl_Edge_70: function 70 -/
set_option maxHeartbeats 4000000 in
set_option maxRecDepth 100000 in
theorem impl_Edge_70.calls (A0 : Option Addr) (c0 : Nat) (l0 : List (S45)) (gf : Nat) (lb : Array Value) (p : S45 → Bool) (w : World) (eg : ∀ args w, (callFunc gf args).run Try.prog w = .ok (.enter gf args) w) (hr0 : Kd.C k45 w A0 l0.length l0)
    (hp : ∀ (W : World) (x : S45), x ∈ l0 → Below w.heap.size w W → Calls Try.prog gf (#[.agg #[.int .i64 x.f0, .int .i64 x.f1, .int .i64 x.f2]] ++ lb) W fun e w' => e = .returned (.bool (p x)) ∧ Below w.heap.size w w') :
    Calls Try.prog 70 #[.slice A0 l0.length c0, .func (.func gf) #[] lb] w fun e w' => e = .returned (.int .i64 (idxP p l0)) ∧ Below w.heap.size w w' := by
  have hlen := Kd.C_max hr0
  go_enter Try.func70, Try.ntmps70
  go_wp2
  go_loopg [5, 8] l0.length (fun gg _ s8 wr => ∃ kk : Nat, kk ≤ l0.length ∧ l0.length - kk ≤ gg ∧ s8 = .int .i64 kk ∧ Aside0 (Below w.heap.size w wr) ∧ Aside0 (∀ j, j < kk → p (l0.getD j z45) = false))
  case atStart => exact ⟨0, Nat.zero_le _, by omega, rfl, ⟨Below.refl _ w⟩, ⟨fun j hj => absurd hj (Nat.not_lt_zero _)⟩⟩
  case round =>
    obtain ⟨kk, hkk, hg, rfl, BW, HA⟩ := hrel
    by_cases hlt : kk < l0.length
    · have hltz : (kk : Int) < (l0.length : Int) := by omega
      have hrd := Kd.C_below hr0 BW.out
      obtain ⟨ade, eA, hce_0, hce_1, hce_2⟩ := at_T45 hrd (kk : Int) (by omega) (by omega)
      subst eA
      have hcall := hp wr (rd_T45 l0 (kk : Int))  (getD_mem_ _ _ _ hlt) BW.out 
      have hx : rd_T45 l0 (kk : Int) = l0.getD kk z45 := rfl
      simp only [Int.toNat_natCast] at hce_0 hce_1 hce_2
      clear hr0 hp hrd
      have HX := Aside0.mk hx
      clear hx
      skip
      cases hq : p (rd_T45 l0 (kk : Int)) with
      | true =>
        rw [hq] at hcall
        have HQ := Aside0.mk hq
        clear hq
        go_wp2_with (go_at_fn gf; refine hcall.mono ?_; rintro e w' ⟨rfl, hb'⟩)
        go_ret
        exact ⟨by rw [idxP_hit p z45 l0 kk hlt HA.out (by rw [← HX.out]; exact HQ.out)]; rfl, hb'⟩
      | false =>
        rw [hq] at hcall
        have HQ := Aside0.mk hq
        clear hq
        go_wp2_with (go_at_fn gf; refine hcall.mono ?_; rintro e w' ⟨rfl, hb'⟩)
        go_roundg (l0.length - (kk + 1))
        case measure => omega
        case rel =>
          refine ⟨kk + 1, by omega, by omega, by go_num, ⟨hb'⟩, ⟨fun j hj => ?_⟩⟩
          by_cases e : j = kk
          · subst e; rw [← HX.out]; exact HQ.out
          · exact HA.out j (by omega)
    · have hltz : ¬ (kk : Int) < (l0.length : Int) := by omega
      have : kk = l0.length := by omega
      subst this
      clear hr0 hp
      go_wp2
      go_ret
      exact ⟨by rw [idxP_miss p z45 l0 HA.out]; rfl, BW.out⟩

/-! ### impl_Edge_33: function 33 -/
set_option maxHeartbeats 4000000 in
set_option maxRecDepth 100000 in
theorem impl_Edge_33.calls (A0 : Option Addr) (c0 : Nat) (l0 : List (S45)) (gf : Nat) (lb : Array Value) (p : S45 → Bool) (w : World) (eg : ∀ args w, (callFunc gf args).run Try.prog w = .ok (.enter gf args) w) (hr0 : Kd.C k45 w A0 l0.length l0)
    (hp : ∀ (W : World) (x : S45), x ∈ l0 → Below w.heap.size w W → Calls Try.prog gf (#[.agg #[.int .i64 x.f0, .int .i64 x.f1, .int .i64 x.f2]] ++ lb) W fun e w' => e = .returned (.bool (p x)) ∧ Below w.heap.size w w') :
    Calls Try.prog 33 #[.slice A0 l0.length c0, .func (.func gf) #[] lb] w fun e w' => e = .returned (.bool (l0.any p)) ∧ Below w.heap.size w w' := by
  have hcon := impl_Edge_70.calls A0 c0 l0 gf lb p w eg hr0 hp
  have HE := Aside0.mk (idxP_any p l0)
  generalize idxP p l0 = r at hcon HE
  clear hp hr0
  go_enter Try.func33, Try.ntmps33
  go_wp2_with (go_at_call 70; refine hcon.mono ?_; rintro e w' ⟨rfl, hb'⟩)
  go_ret
  exact ⟨by rw [← HE.out]; rfl, hb'⟩

/-! ### impl_committed: function 55 -/
def impl_committed.l0 : Nat → List Int → List (S48) → Int → Int → Option (List Int)
  | 0, _, _, _, _ => none
  | k + 1, x3, x7, x8, x9 => if x9 < x8 then (if 0 ≤ x9 then (if x9 < (x7.length : Int) then (if ((rd_T48 x7 x9).f0) = 4 then (if x3.length < 17592186044416 then (impl_committed.l0 k (x3 ++ [(rd_T48 x7 x9).f1]) x7 x8 (wrap64 (x9 + 1))) else (none)) else (impl_committed.l0 k x3 x7 x8 (wrap64 (x9 + 1)))) else (none)) else (none)) else (some x3)
def impl_committed.f (k : Nat) (l0 : List (S48)) : Option (List Int) := impl_committed.l0 k (([] : List Int)) l0 (l0.length : Int) 0
theorem impl_committed.mono_l : ∀ k, (∀ y0 y1 y2 y3, LeO (impl_committed.l0 k y0 y1 y2 y3) (impl_committed.l0 (k + 1) y0 y1 y2 y3))
  | 0 => fun _ _ _ _ r h => by simp [impl_committed.l0] at h
  | k + 1 => by
    have ih0 := impl_committed.mono_l k
    · intro y0 y1 y2 y3
      unfold impl_committed.l0
      repeat' first
      | (with_reducible exact ih0 _ _ _ _)
      | (with_reducible exact LeO.refl _)
      | (with_reducible exact LeO.none _)
      | (with_reducible refine LeO.ite ?_ ?_)
      | (with_reducible refine LeO.bind ?_ (fun _ => ?_))
      | exact ih0 _ _ _ _
      | exact LeO.none _
      | refine LeO.ite ?_ ?_
      | refine LeO.bind ?_ (fun _ => ?_)
theorem impl_committed.mono : ∀ a0 k, LeO (impl_committed.f k a0) (impl_committed.f (k + 1) a0) := by
  intro a0 k
  have ih0 := impl_committed.mono_l k
  unfold impl_committed.f
  repeat' first
      | (with_reducible exact ih0 _ _ _ _)
      | (with_reducible exact LeO.refl _)
      | (with_reducible exact LeO.none _)
      | (with_reducible refine LeO.ite ?_ ?_)
      | (with_reducible refine LeO.bind ?_ (fun _ => ?_))
      | exact ih0 _ _ _ _
      | exact LeO.none _
      | refine LeO.ite ?_ ?_
      | refine LeO.bind ?_ (fun _ => ?_)
set_option maxHeartbeats 8000000 in
set_option maxRecDepth 100000 in
theorem impl_committed.calls (k : Nat) (A0 : Option Addr) (c0 : Nat) (l0 : List (S48)) (r : List Int) (w : World) (hr0 : Kd.C k48 w A0 l0.length l0) (hc0 : l0.length ≤ c0) (h : impl_committed.f k l0 = some r) :
    Calls Try.prog 55 #[.slice A0 l0.length c0] w fun e w' => ∃ v0_ : Value, e = .returned (v0_) ∧ Kd.R (Kd.int .i64) 2 w' w.heap.size (fun _ => True) v0_ r ∧ Below w.heap.size w w' := by
  have hu48 := Try.underlying48
  have HR0 := Aside0.mk hr0
  have HC0 := Aside0.mk hc0
  clear hr0 hc0
  have HB := Aside0.mk (Below.refl w.heap.size w)
  have H : (impl_committed.l0 k (([] : List Int)) l0 (l0.length : Int) 0) = some r := h
  clear h
  obtain ⟨y306, hy306⟩ : ∃ y_ : List Int, y_ = (([] : List Int)) := ⟨_, rfl⟩
  replace H : (impl_committed.l0 k y306 l0 (l0.length : Int) 0) = some r := by first | (rw [hy306]; with_reducible exact H) | (have H2_ := (Option.bind_some _ _).symm.trans H; rw [hy306]; with_reducible exact H2_) | (have H2_ := (Option.bind_some _ _).symm.trans H; with_reducible exact H2_) | with_reducible exact H | (rw [hy306]; exact H) | exact H
  have Ny306 := Aside0.mk hy306
  clear hy306
  have H' := Aside0.mk H
  clear H
  go_enter Try.func55, Try.ntmps55
  go_wp2_with (first | ((with_reducible refine gate_dst (N := 6) rfl ?_); refine Kd.R_lit (Kd.int .i64) _ 2 ?hg (N := 6) ?hd (xs := ([] : List Int)) (inner := []) (ok := fun _ => True) (okp := fun _ => True) ?hr ?hp (fun _ hk => hk) trivial (Below.refl _ _) (Nat.le_refl _) (by simp) ?_; (case hd => rfl); (case hg => rfl); (case hr => first | (go_simp; done) | (go_simp; rfl)); (case hp => exact (Reps.none _ _)); intro v307 w2 ho3 hb hg_ hnew_; clear hg_ hnew_; (first | rw [← Ny306.out] at ho3 | (simp only [Int.reduceToNat] at ho3; rw [← Ny306.out] at ho3)); have n0_ := Aside0.mk (Kd.R_lower ho3 (below_size bo)); have n1_ := Aside0.mk (below_step bo hb); clear HB; have HO308 := n0_; have HB := n1_; clear n0_ n1_; clear hb ho3))
  go_loopg [3, 9] k (fun kq v3 v9 w' => ∃ (x3_1 : List Int) (x9_1 : Int), v9 = .int .i64 x9_1 ∧ Aside0 (impl_committed.l0 kq x3_1 l0 (l0.length : Int) x9_1 = some r) ∧ Aside0 (kq ≤ k) ∧ Aside0 (Kd.R (Kd.int .i64) 2 w' w.heap.size (fun _ => True) v3 x3_1) ∧ Aside0 (Below w.heap.size w w'))
  case atStart => exact ⟨(y306), (0), (by first | rfl | (simp; done) | (simp [*]; done)), H', ⟨Nat.le_refl _⟩, ⟨by (with_reducible repeat (first | apply Kd.R_alloc | apply Kd.R_drewN | apply Kd.R_drew)); exact HO308.out⟩, ⟨by repeat (first | (with_reducible first | exact HB.out | apply below_alloc | apply pw_below_drewN | apply below_drew1) | exact HB.out)⟩⟩
  case round =>
    clear H'
    try clear p2
    obtain ⟨x3_1, x9_1, rfl, HA, HK1, HO_3, HB⟩ := hrel
    cases gk with
    | zero => exact absurd HA.out (by simp [impl_committed.l0])
    | succ k1 =>
      have H := HA.out
      clear HA
      simp only [impl_committed.l0] at H
      by_cases c4 : x9_1 < (l0.length : Int)
      · rw [if_pos c4] at H
        have c4b0 : decide (x9_1 < (l0.length : Int)) = true := decide_eq_true c4
        clear c4
        by_cases c5 : 0 ≤ x9_1
        · rw [if_pos c5] at H
          have c5b0 : decide (0 ≤ x9_1) = true := decide_eq_true c5
          clear c5
          by_cases c6 : x9_1 < (l0.length : Int)
          · rw [if_pos c6] at H
            have c6b0 : decide (x9_1 < (l0.length : Int)) = true := decide_eq_true c6
            clear c6
            by_cases c7 : ((rd_T48 l0 x9_1).f0) = 4
            · rw [if_pos c7] at H
              have c7b0 : (((rd_T48 l0 x9_1).f0) == 4) = true := beq_iff_eq.mpr c7
              have c7b1 : (((rd_T48 l0 x9_1).f0) != 4) = false := bne_eq_false_iff_eq.mpr c7
              clear c7
              by_cases c8 : x3_1.length < 17592186044416
              · rw [if_pos c8] at H
                have LMc8 := Aside0.mk c8
                clear c8
                obtain ⟨y311, hy311⟩ : ∃ y_ : List Int, y_ = (x3_1 ++ [(rd_T48 l0 x9_1).f1]) := ⟨_, rfl⟩
                replace H : (impl_committed.l0 k1 y311 l0 (l0.length : Int) (wrap64 (x9_1 + 1))) = some r := by first | (rw [hy311]; with_reducible exact H) | (have H2_ := (Option.bind_some _ _).symm.trans H; rw [hy311]; with_reducible exact H2_) | (have H2_ := (Option.bind_some _ _).symm.trans H; with_reducible exact H2_) | with_reducible exact H | (rw [hy311]; exact H) | exact H
                have Ny311 := Aside0.mk hy311
                clear hy311
                have H' := Aside0.mk H
                clear H
                have p309 : 0 ≤ (x9_1 : Int) := od
                have q309 : x9_1 < (l0.length : Int) := od
                obtain ⟨ad309, e309, hx309_0, hx309_1, hx309_2, hx309_3⟩ := at_T48 HR0.out x9_1 p309 q309
                cases e309
                replace hx309_0 := (HB.out.cell (World.block_lt_of_cell? w _ hx309_0)).trans hx309_0
                replace hx309_1 := (HB.out.cell (World.block_lt_of_cell? w _ hx309_1)).trans hx309_1
                replace hx309_2 := (HB.out.cell (World.block_lt_of_cell? w _ hx309_2)).trans hx309_2
                replace hx309_3 := (HB.out.cell (World.block_lt_of_cell? w _ hx309_3)).trans hx309_3
                replace p309 := eq_true p309
                replace q309 := eq_true q309
                go_wp2_with (first | ((with_reducible refine gate_dst (N := 5) rfl ?_); refine box_event ?hg (N := 5) ?hd (cs := #[.int .i64 0, .int .i64 0, .int .i64 0, .int .i64 0]) (t := 48) ?hr ?_; (case hd => rfl); (case hg => rfl); (case hr => first | (go_simp; done) | (go_simp; rfl)); intro gb310 hg w9 hbox hb; have n0_ := Aside0.mk (Kd.R_below (by (with_reducible repeat (first | apply Kd.R_alloc | apply Kd.R_drewN | apply Kd.R_drew)); exact HO_3.out) hb); have n1_ := Aside0.mk (below_step bo hb); have n2_ := Aside0.mk (hbox); have n3_ := Aside0.mk ((by rw [hg]; exact (below_size bo) : w.heap.size ≤ gb310)); have n4_ := Aside0.mk ((by rw [hg]; exact (below_size bo) : w.heap.size ≤ gb310)); clear HO_3; clear HB; have HO_3 := n0_; have HB := n1_; have BK310 := n2_; have GW310 := n3_; have GE310 := n4_; clear n0_ n1_ n2_ n3_ n4_; clear hb hbox hg; have hcz10_0 : w9.cell? ⟨gb310, 0, none⟩ = some (.int .i64 0) := (blk_cell BK310.out 0).trans rfl; have hcz10_1 : w9.cell? ⟨gb310, 1, none⟩ = some (.int .i64 0) := (blk_cell BK310.out 1).trans rfl; have hcz10_2 : w9.cell? ⟨gb310, 2, none⟩ = some (.int .i64 0) := (blk_cell BK310.out 2).trans rfl; have hcz10_3 : w9.cell? ⟨gb310, 3, none⟩ = some (.int .i64 0) := (blk_cell BK310.out 3).trans rfl; have hfz10_0 := blk_frozen BK310.out 0; have hfz10_1 := blk_frozen BK310.out 1; have hfz10_2 := blk_frozen BK310.out 2; have hfz10_3 := blk_frozen BK310.out 3) | ((with_reducible refine gate_builtin (b := .append) (xs := #[.tmp 16, .tmp 19]) rfl ?_); at_builtin; refine Kd.R_append (Kd.int .i64) (w0 := w) w.heap.size rfl (.tmp 16) (.tmp 19) 29 2 (.int .i64 0) 8 rfl Try.underlying29 info2 rfl (by decide) (by omega) u3 x3_1 ((rd_T48 l0 x9_1).f1) [.int .i64 ((rd_T48 l0 x9_1).f1)] (fun _ => True) (fun _ => False) rfl (by first | (go_simp; done) | (go_simp; rfl)) ?aP (fun _ hk => hk.elim) ?aF ?aO ?aB ?aS ?aL ?_; (case aP => exact rfl); (case aB => exact (by repeat (first | (with_reducible first | exact HB.out | apply below_alloc | apply pw_below_drewN | apply below_drew1 | refine below_set ?_ GE310.out) | exact HB.out))); (case aF => exact (fun _ _ => trivial)); (case aO => exact (by (with_reducible repeat (first | apply Kd.R_alloc | apply Kd.R_drewN | apply Kd.R_drew)); exact Kd.R_mono (Kd.R_far (p := ⟨gb310, 3, none⟩) (Kd.R_far (p := ⟨gb310, 2, none⟩) (Kd.R_far (p := ⟨gb310, 1, none⟩) (Kd.R_far (p := ⟨gb310, 0, none⟩) (Kd.R_types HO_3.out BK310.out (by decide)) (fun _ hk => hk.2) (.int .i64 ((rd_T48 l0 x9_1).f0))) (fun _ hk => hk.2) (.int .i64 ((rd_T48 l0 x9_1).f1))) (fun _ hk => hk.2) (.int .i64 ((rd_T48 l0 x9_1).f2))) (fun _ hk => hk.2) (.int .i64 ((rd_T48 l0 x9_1).f3))) (fun _ hk => trivial))); (case aS => exact (below_size (by repeat (first | (with_reducible first | exact HB.out | apply below_alloc | apply pw_below_drewN | apply below_drew1 | refine below_set ?_ GE310.out) | exact HB.out)))); (case aL => have := LMc8.out; omega); intro v312 w11 ho hb hg hat; rw [← Ny311.out] at ho; have n0_ := Aside0.mk (blk_grown (g := gb310) (o := .cells #[.int .i64 ((rd_T48 l0 x9_1).f0), .int .i64 ((rd_T48 l0 x9_1).f1), .int .i64 ((rd_T48 l0 x9_1).f2), .int .i64 ((rd_T48 l0 x9_1).f3)] 48 (0, 0)) (by (with_reducible repeat (first | refine blk_drewN ?_ _ | refine blk_drew ?_ | refine blk_alloc ?_ _)); refine blk_put (cs := #[.int .i64 ((rd_T48 l0 x9_1).f0), .int .i64 ((rd_T48 l0 x9_1).f1), .int .i64 ((rd_T48 l0 x9_1).f2), .int .i64 0]) ?_ 3 _ rfl; (with_reducible repeat (first | refine blk_drewN ?_ _ | refine blk_drew ?_ | refine blk_alloc ?_ _)); refine blk_put (cs := #[.int .i64 ((rd_T48 l0 x9_1).f0), .int .i64 ((rd_T48 l0 x9_1).f1), .int .i64 0, .int .i64 0]) ?_ 2 _ rfl; (with_reducible repeat (first | refine blk_drewN ?_ _ | refine blk_drew ?_ | refine blk_alloc ?_ _)); refine blk_put (cs := #[.int .i64 ((rd_T48 l0 x9_1).f0), .int .i64 0, .int .i64 0, .int .i64 0]) ?_ 1 _ rfl; (with_reducible repeat (first | refine blk_drewN ?_ _ | refine blk_drew ?_ | refine blk_alloc ?_ _)); refine blk_put (cs := #[.int .i64 0, .int .i64 0, .int .i64 0, .int .i64 0]) ?_ 0 _ rfl; (with_reducible repeat (first | refine blk_drewN ?_ _ | refine blk_drew ?_ | refine blk_alloc ?_ _)); exact BK310.out) hg (Kd.R_ne HO_3.out BK310.out (by decide))); have n1_ := Aside0.mk (hb); have n2_ := Aside0.mk (ho); clear BK310; clear HB; clear HO_3; have BK310 := n0_; have HB := n1_; have HO313 := n2_; clear n0_ n1_ n2_; clear ho hb hg hat))
                go_roundg k1
                case measure => have := HK1.out; omega
                case rel => exact ⟨(y311), (wrap64 (x9_1 + 1)), (by first | rfl | (simp; done) | (simp [*]; done)), H', ⟨by have := HK1.out; omega⟩, ⟨by (with_reducible repeat (first | apply Kd.R_alloc | apply Kd.R_drewN | apply Kd.R_drew)); exact HO313.out⟩, ⟨by repeat (first | (with_reducible first | exact HB.out | apply below_alloc | apply pw_below_drewN | apply below_drew1 | refine below_set ?_ GE310.out) | exact HB.out)⟩⟩
              · rw [if_neg c8] at H
                exact absurd H (by simp)
            · rw [if_neg c7] at H
              have c7b0 : (((rd_T48 l0 x9_1).f0) == 4) = false := beq_eq_false_iff_ne.mpr c7
              have c7b1 : (((rd_T48 l0 x9_1).f0) != 4) = true := bne_iff_ne.mpr c7
              have H' := Aside0.mk H
              clear H
              have p309 : 0 ≤ (x9_1 : Int) := od
              have q309 : x9_1 < (l0.length : Int) := od
              obtain ⟨ad309, e309, hx309_0, hx309_1, hx309_2, hx309_3⟩ := at_T48 HR0.out x9_1 p309 q309
              cases e309
              replace hx309_0 := (HB.out.cell (World.block_lt_of_cell? w _ hx309_0)).trans hx309_0
              replace hx309_1 := (HB.out.cell (World.block_lt_of_cell? w _ hx309_1)).trans hx309_1
              replace hx309_2 := (HB.out.cell (World.block_lt_of_cell? w _ hx309_2)).trans hx309_2
              replace hx309_3 := (HB.out.cell (World.block_lt_of_cell? w _ hx309_3)).trans hx309_3
              replace p309 := eq_true p309
              replace q309 := eq_true q309
              go_wp2_with (first | ((with_reducible refine gate_dst (N := 5) rfl ?_); refine box_event ?hg (N := 5) ?hd (cs := #[.int .i64 0, .int .i64 0, .int .i64 0, .int .i64 0]) (t := 48) ?hr ?_; (case hd => rfl); (case hg => rfl); (case hr => first | (go_simp; done) | (go_simp; rfl)); intro gb310 hg w12 hbox hb; have n0_ := Aside0.mk (Kd.R_below (by (with_reducible repeat (first | apply Kd.R_alloc | apply Kd.R_drewN | apply Kd.R_drew)); exact HO_3.out) hb); have n1_ := Aside0.mk (below_step bo hb); have n2_ := Aside0.mk (hbox); have n3_ := Aside0.mk ((by rw [hg]; exact (below_size bo) : w.heap.size ≤ gb310)); have n4_ := Aside0.mk ((by rw [hg]; exact (below_size bo) : w.heap.size ≤ gb310)); clear HO_3; clear HB; have HO_3 := n0_; have HB := n1_; have BK310 := n2_; have GW310 := n3_; have GE310 := n4_; clear n0_ n1_ n2_ n3_ n4_; clear hb hbox hg; have hcz13_0 : w12.cell? ⟨gb310, 0, none⟩ = some (.int .i64 0) := (blk_cell BK310.out 0).trans rfl; have hcz13_1 : w12.cell? ⟨gb310, 1, none⟩ = some (.int .i64 0) := (blk_cell BK310.out 1).trans rfl; have hcz13_2 : w12.cell? ⟨gb310, 2, none⟩ = some (.int .i64 0) := (blk_cell BK310.out 2).trans rfl; have hcz13_3 : w12.cell? ⟨gb310, 3, none⟩ = some (.int .i64 0) := (blk_cell BK310.out 3).trans rfl; have hfz13_0 := blk_frozen BK310.out 0; have hfz13_1 := blk_frozen BK310.out 1; have hfz13_2 := blk_frozen BK310.out 2; have hfz13_3 := blk_frozen BK310.out 3))
              go_roundg k1
              case measure => have := HK1.out; omega
              case rel => exact ⟨(x3_1), (wrap64 (x9_1 + 1)), (by first | rfl | (simp; done) | (simp [*]; done)), H', ⟨by have := HK1.out; omega⟩, ⟨by (with_reducible repeat (first | apply Kd.R_alloc | apply Kd.R_drewN | apply Kd.R_drew)); exact Kd.R_mono (Kd.R_far (p := ⟨gb310, 3, none⟩) (Kd.R_far (p := ⟨gb310, 2, none⟩) (Kd.R_far (p := ⟨gb310, 1, none⟩) (Kd.R_far (p := ⟨gb310, 0, none⟩) (Kd.R_types HO_3.out BK310.out (by decide)) (fun _ hk => hk.2) (.int .i64 ((rd_T48 l0 x9_1).f0))) (fun _ hk => hk.2) (.int .i64 ((rd_T48 l0 x9_1).f1))) (fun _ hk => hk.2) (.int .i64 ((rd_T48 l0 x9_1).f2))) (fun _ hk => hk.2) (.int .i64 ((rd_T48 l0 x9_1).f3))) (fun _ hk => trivial)⟩, ⟨by repeat (first | (with_reducible first | exact HB.out | apply below_alloc | apply pw_below_drewN | apply below_drew1 | refine below_set ?_ GE310.out) | exact HB.out)⟩⟩
          · rw [if_neg c6] at H
            exact absurd H (by simp)
        · rw [if_neg c5] at H
          exact absurd H (by simp)
      · rw [if_neg c4] at H
        have c4b0 : decide (x9_1 < (l0.length : Int)) = false := decide_eq_false c4
        clear c4
        obtain rfl := Option.some.inj H
        go_wp2
        go_ret
        exact ⟨_, by first | rfl | (simp [errW_none, errW_some] <;> rfl) | (simp [*, errW_none, errW_some] <;> rfl), by (with_reducible repeat (first | apply Kd.R_alloc | apply Kd.R_drewN | apply Kd.R_drew)); exact HO_3.out, by repeat (first | (with_reducible first | exact HB.out | apply below_alloc | apply pw_below_drewN | apply below_drew1) | exact HB.out)⟩

def commL (l : List S48) : List Int := (l.filter (fun x => x.f0 == 4)).map (fun x => x.f1)
theorem impl_committed.ev (l : List S48) (hl : l.length ≤ 1048576) : Ev (fun k => impl_committed.f k l) (commL l) := by
  have key : ∀ (d i : Nat) (acc : List Int), i + d = l.length → acc.length ≤ i → Ev (fun k => impl_committed.l0 k acc l (l.length : Int) (i : Int)) (acc ++ commL (l.drop i)) := by
    intro d
    induction d with
    | zero =>
      intro i acc hi ha
      rw [List.drop_eq_nil_of_le (by omega)]
      refine Ev.step (f := fun _ => some acc) (fun k => ?_) (Ev.val (Ev.now _) (by simp [commL]))
      simp only [impl_committed.l0]
      rw [if_neg (by omega)]
    | succ d ih =>
      intro i acc hi ha
      have h1 : (i : Int) < (l.length : Int) := by omega
      have h0 : (0 : Int) ≤ (i : Int) := by omega
      have h3 : acc.length < 17592186044416 := by omega
      have hw := wrap_nat i l.length (by omega) (by omega)
      have hx : rd_T48 l (i : Int) = l[i]'(by omega) := by
        show l.getD i _ = _
        rw [List.getD_eq_getElem?_getD, List.getElem?_eq_getElem (by omega)]; rfl
      rw [List.drop_eq_getElem_cons (by omega), ← hx]
      generalize hX : rd_T48 l (i : Int) = x at *
      by_cases k4 : x.f0 = 4
      · refine Ev.step (fun k => ?_) (Ev.val (ih (i + 1) (acc ++ [x.f1]) (by omega) (by simp; omega)) (by simp [commL, k4]))
        simp only [impl_committed.l0, if_pos h1, if_pos h0, hX, hw, if_pos k4, if_pos h3]
      · refine Ev.step (fun k => ?_) (Ev.val (ih (i + 1) acc (by omega) (by omega)) (by simp [commL, k4]))
        simp only [impl_committed.l0, if_pos h1, if_pos h0, hX, hw, if_neg k4]
  unfold impl_committed.f
  simpa using key l.length 0 [] (by omega) (by simp)


end Go.Proofs.Ytkabmhjnhcfkcaa.XFnExactSerialOrder
