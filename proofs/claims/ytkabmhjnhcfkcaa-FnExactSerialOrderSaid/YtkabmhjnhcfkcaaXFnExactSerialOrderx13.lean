/- The machine's side of one law: functions as plain Lean functions, and that the calls do what these say. Written by a program of this session; no condition beyond those that each theorem names. -/
import Derived.Test.YtkabmhjnhcfkcaaXFnExactSerialOrderx0
import Derived.Test.YtkabmhjnhcfkcaaXFnExactSerialOrderx11
import Derived.Test.YtkabmhjnhcfkcaaXFnExactSerialOrderx12
namespace Go.Proofs.Ytkabmhjnhcfkcaa.XFnExactSerialOrder
open Go.RowKit Go.Proofs.YtkabmhjnhcfkcaaW.PrintWords Go.Proofs.YtkabmhjnhcfkcaaW.PrintLast Go.Proofs.YtkabmhjnhcfkcaaW.PrintMore
attribute [local go_sem] max2_int min2_int max_two min_two max_three min_three max_four min_four   -- for this text's walks alone
set_option linter.unusedVariables false
set_option linter.unusedSimpArgs false

/-! ### impl_edges: function 34 -/
def edgeIn (l : List S45) (f t k : Int) : Bool := l.any (fun y => f == y.f0 && (t == y.f1 && k == y.f2))
theorem idxE_ev (l : List S45) (f t c : Int) (hl : l.length ≤ 1048576) : Ev (fun k => impl_Edge_84.f k l f t c) (idxP (fun y : S45 => f == y.f0 && (t == y.f1 && c == y.f2)) l) := by
  have key : ∀ (d i : Nat), i + d = l.length → Ev (fun k => impl_Edge_84.l0 k l (l.length : Int) (i : Int) f t c) (if idxP (fun y : S45 => f == y.f0 && (t == y.f1 && c == y.f2)) (l.drop i) < 0 then -1 else idxP (fun y : S45 => f == y.f0 && (t == y.f1 && c == y.f2)) (l.drop i) + i) := by
    intro d
    induction d with
    | zero =>
      intro i hi
      rw [List.drop_eq_nil_of_le (by omega)]
      refine Ev.step (f := fun _ => some (-1)) (fun k => ?_) (Ev.val (Ev.now _) (by simp [idxP]))
      simp only [impl_Edge_84.l0]
      rw [if_neg (by omega)]
    | succ d ih =>
      intro i hi
      have h1 : (i : Int) < (l.length : Int) := by omega
      have h0 : (0 : Int) ≤ (i : Int) := by omega
      have hw := wrap_nat i l.length (by omega) (by omega)
      have hx : rd_T45 l (i : Int) = l[i]'(by omega) := by
        show l.getD i _ = _
        rw [List.getD_eq_getElem?_getD, List.getElem?_eq_getElem (by omega)]; rfl
      have hn := ih (i + 1) (by omega)
      rw [List.drop_eq_getElem_cons (by omega), ← hx]
      generalize hX : rd_T45 l (i : Int) = x at *
      rw [idxP_shift]
      cases hq : (f == x.f0 && (t == x.f1 && c == x.f2)) with
      | true =>
        refine Ev.step (f := fun _ => some (i : Int)) (fun k => ?_) (Ev.val (Ev.now _) (by rw [if_pos rfl]))
        simp only [impl_Edge_84.l0, if_pos h1, if_pos h0, hX, hq, if_true]
      | false =>
        refine Ev.step (fun k => ?_) (Ev.val hn (by rw [show ((i + 1 : Nat) : Int) = (i : Int) + 1 from by omega]; rfl))
        simp only [impl_Edge_84.l0, if_pos h1, if_pos h0, hX, hq, Bool.false_eq_true, if_false, hw]
  unfold impl_Edge_84.f
  refine Ev.val (key l.length 0 (by omega)) ?_
  have hg := (idxP_ge (fun y : S45 => f == y.f0 && (t == y.f1 && c == y.f2)) l).1
  rw [List.drop_zero]
  split
  · omega
  · simp
theorem inE_ev (l : List S45) (f t c : Int) (hl : l.length ≤ 1048576) : Ev (fun k => impl_Edge_72.f k l f t c) (edgeIn l f t c) := by
  unfold impl_Edge_72.f
  refine Ev.bind (idxE_ev l f t c hl) (Ev.val (Ev.now _) ?_)
  unfold edgeIn
  rw [← idxP_any]
def addE (l : List S45) (f t k : Int) : List S45 := if f = t then l else if edgeIn l f t k = true then l else l ++ [⟨f, t, k⟩]
theorem addE_len (l : List S45) (f t k : Int) : (addE l f t k).length ≤ l.length + 1 := by
  unfold addE
  split
  · omega
  · split
    · omega
    · simp
def KeepT (t : TypeId) (w w' : World) : Prop := w.heap.size ≤ w'.heap.size ∧ ∀ (i : Nat) (cells : Array Value), w.heap[i]? = some (Obj.cells cells t (0, 0)) → w'.heap[i]? = some (Obj.cells cells t (0, 0))
theorem KeepT.dummy : True := trivial
theorem KeepT.refl (t : TypeId) (w : World) : KeepT t w w := ⟨Nat.le_refl _, fun _ _ h => h⟩
theorem KeepT.trans {t : TypeId} {w w1 w2 : World} (h : KeepT t w w1) (k : KeepT t w1 w2) : KeepT t w w2 := ⟨Nat.le_trans h.1 k.1, fun i c hc => k.2 i c (h.2 i c hc)⟩
theorem KeepT.of_below {t : TypeId} {w w1 : World} (h : Below w.heap.size w w1) : KeepT t w w1 := ⟨h.size, fun i c hc => (h.block i (blk_lt hc)).trans hc⟩
theorem KeepT.of_grown {t : TypeId} {w w1 : World} {row : Option Nat} (h : w.grownBy w1 row) (hr : ∀ k, row = some k → ∃ cells q, w.heap[k]? = some (.cells cells q (0, 0)) ∧ q ≠ t) : KeepT t w w1 :=
  ⟨h.size, fun i c hc => (h.block i (blk_lt hc) (fun e => by
    obtain ⟨cs, q, h1, h2⟩ := hr i e.symm
    rw [hc] at h1
    simp only [Option.some.injEq, Obj.cells.injEq] at h1
    exact h2 h1.2.1.symm)).trans hc⟩
theorem KeepT.set_ {t q : TypeId} {w : World} {g : Nat} {cells : Array Value} (hb : w.heap[g]? = some (.cells cells q (0, 0))) (hq : q ≠ t) (j : Nat) (u : Value) : KeepT t w (w.setCell ⟨g, j, none⟩ u) :=
  ⟨by simp [World.setCell], fun i c hc => (Below.heap_setCell w ⟨g, j, none⟩ u i (fun e => by
    simp only at e
    subst e
    rw [hc] at hb
    simp only [Option.some.injEq, Obj.cells.injEq] at hb
    exact hq hb.2.1.symm)).trans hc⟩
theorem KeepT.R {t : TypeId} {α : Type} {d : Kd α} {w w1 : World} {base : Nat} {ok : Nat → Prop} {v : Value} {xs : List α} (h : d.R t w base ok v xs) (hE : d.E = []) (hk : KeepT t w w1) : d.R t w1 base ok v xs := by
  refine Kd.R_mono (Kd.R_step (Kd.R_bound h) (fun k ho hlt => ?_)) (fun k hk => hk.1)
  obtain ⟨_, _, _, q, hq, cells, hc⟩ := ho
  rw [hE] at hq
  obtain rfl : q = t := by simpa using hq
  exact (hk.2 k cells hc).trans hc.symm
theorem k45_typed {w : World} {base : Nat} {ok : Nat → Prop} {v : Value} {xs : List S45} (h : k45.R 45 w base ok v xs) (k : Nat) (hk : v.ownBlock = some k) : ∃ cells, w.heap[k]? = some (.cells cells 45 (0, 0)) := by
  obtain ⟨_, _, _, q, hq, cells, hc⟩ := (Kd.R_bound h).1 k hk
  obtain rfl : q = 45 := by
    have hE : k45.E = [] := rfl
    rw [hE] at hq
    simpa using hq
  exact ⟨cells, hc⟩
theorem appQ {w : World} {k : Nat} {t : TypeId} (ht : t ≠ 45) (h : ∃ cells, w.heap[k]? = some (.cells cells 45 (0, 0))) : ∃ cells q, w.heap[k]? = some (.cells cells q (0, 0)) ∧ q ≠ t := ⟨h.choose, 45, h.choose_spec, Ne.symm ht⟩
theorem appX {w w1 : World} {g : Nat} {cs : Array Value} {row : Option Nat} (hb : w.heap[g]? = some (.cells cs 36 (0, 0))) (hg : w.grownBy w1 row) (h : ∀ k, row = some k → ∃ cells, w.heap[k]? = some (.cells cells 45 (0, 0))) : w1.heap[g]? = some (.cells cs 36 (0, 0)) := by
  refine (hg.block g (blk_lt hb) (fun e => ?_)).trans hb
  obtain ⟨cells, hc⟩ := h g e.symm
  rw [hb] at hc
  simp at hc
set_option maxHeartbeats 4000000 in
set_option maxRecDepth 100000 in
theorem impl_edges_1.calls (f t k : Int) (bo : Nat) (v : Value) (acc : List S45) (base : Nat) (w0 w : World) (hB : Below base w0 w) (hbase : base ≤ bo) (hbs : base ≤ w.heap.size) (hbo : w.heap[bo]? = some (.cells #[v] 36 (0, 0))) (hR : Kd.R k45 45 w base (fun _ => True) v acc) (hlen : acc.length ≤ 100000) :
    Calls Try.prog 71 #[.int .i64 f, .int .i64 t, .int .i64 k, .pointer (some ⟨bo, 0, none⟩)] w fun e w' => e = .returned (.tuple #[]) ∧ ∃ v', w'.heap[bo]? = some (.cells #[v'] 36 (0, 0)) ∧ Kd.R k45 45 w' base (fun _ => True) v' (addE acc f t k) ∧ Below base w0 w' ∧ (∀ q, q ≠ 36 → q ≠ 45 → KeepT q w w') := by
  have hu := Try.underlying45
  have hcell := cells1 hbo
  have hfz := blk_frozen hbo 0
  have hlt := blk_lt hbo
  by_cases hft : f = t
  · have hb1 : (f != t) = false := bne_eq_false_iff_eq.2 hft
    have hadd : addE acc f t k = acc := if_pos hft
    have HA := Aside0.mk hadd
    have HR := Aside0.mk hR
    have HBO := Aside0.mk hbo
    have HB := Aside0.mk hB
    clear hft hadd hR hbo hB
    go_enter Try.func71, Try.ntmps71
    go_wp2
    go_end0
    exact ⟨rfl, v, blk_alloc HBO.out _, by rw [HA.out]; exact Kd.R_below HR.out (below_alloc (Below.refl _ _) _), HB.out.alloc hbs _, fun q _ _ => KeepT.of_below (below_alloc (Below.refl _ _) _)⟩
  · have hb1 : (f != t) = true := bne_iff_ne.2 hft
    obtain ⟨A0, c0, rfl, hc0, hC0⟩ := Kd.R_reads hR
    obtain ⟨n, hn⟩ := inE_ev acc f t k (by omega)
    have hn := hn n (Nat.le_refl _)
    have hcon := fun W h => impl_Edge_72.calls n A0 c0 acc f t k _ W h hc0 hn
    have HR := Aside0.mk hR
    have HBO := Aside0.mk hbo
    have HB := Aside0.mk hB
    have HC0 := Aside0.mk hC0
    cases hin : edgeIn acc f t k with
    | true =>
      have hadd : addE acc f t k = acc := by unfold addE; rw [if_neg hft, if_pos hin]
      rw [hin] at hcon
      have HC := Aside0.mk hcon
      have HAd := Aside0.mk hadd
      clear hft hR hbo hB hcon hn hC0 hadd hin
      go_enter Try.func71, Try.ntmps71
      go_wp2_with (go_at_call 72; refine (HC.out _ (Kd.C_below HC0.out (below_alloc (Below.refl _ _) _))).mono ?_; rintro e w1 ⟨rfl, hb⟩)
      have h01 : Below w.heap.size w w1 := (below_alloc (Below.refl _ w) _).trans (hb.mono (below_alloc (Below.refl _ w) _).size)
      go_end0
      exact ⟨rfl, _, blk_below HBO.out h01, by rw [HAd.out]; exact Kd.R_below HR.out h01, HB.out.trans (h01.mono hbs), fun q _ _ => KeepT.of_below h01⟩
    | false =>
      have hadd : addE acc f t k = acc ++ [⟨f, t, k⟩] := by unfold addE; rw [if_neg hft, if_neg (by rw [hin]; decide)]
      rw [hin] at hcon
      have HC := Aside0.mk hcon
      have HAd := Aside0.mk hadd
      clear hft hR hbo hB hcon hn hC0 hadd hin
      go_enter Try.func71, Try.ntmps71
      go_wp2_with (first | (go_at_call 72; refine (HC.out _ (Kd.C_below HC0.out (below_alloc (Below.refl _ _) _))).mono ?_; rintro e w1 ⟨rfl, hb⟩; have h01 : Below w.heap.size w w1 := (below_alloc (Below.refl _ w) _).trans (hb.mono (below_alloc (Below.refl _ w) _).size); have hE1 := blk_below (g := w.heap.size) (heap_alloc_new w (.cells #[.int .i64 f, .int .i64 t, .int .i64 k] 45)) hb; obtain ⟨he1, he2, he3⟩ := cells3 hE1; have hX1 := blk_below HBO.out h01; have hR1 := Kd.R_below HR.out h01; have hB1 := HB.out.trans (h01.mono hbs); have hcell1 := cells1 hX1; have hfz1 := blk_frozen hX1 0; have hs1 := h01.size; have HX1 := Aside0.mk hX1; have HR1 := Aside0.mk hR1; have HB1 := Aside0.mk hB1; have H01 := Aside0.mk h01; clear hX1 hR1 hB1 h01 hb hE1) | (at_builtin; refine Kd.R_append k45 (w0 := w0) base rfl (.tmp 21) (.tmp 23) 36 45 (.agg #[(.int .i64 0), (.int .i64 0), (.int .i64 0)]) 24 rfl Try.underlying36 info45 rfl (by decide) (by omega) (.slice A0 acc.length c0) acc (⟨f, t, k⟩ : S45) [.int .i64 f, .int .i64 t, .int .i64 k] (fun _ => True) (fun _ => False) rfl rfl ?aP (fun _ hk => hk.elim) ?aF ?aO ?aB ?aS ?aL ?_; (case aP => exact k45_mkM _ _ _ (⟨f, t, k⟩ : S45)); (case aF => exact fun _ _ => trivial); (case aO => exact HR1.out); (case aB => exact HB1.out); (case aS => omega); (case aL => omega); intro v1 w2 ho hb2 hg hat; obtain ⟨A5, c5, rfl⟩ := Kd.R_slice ho; have hty := fun kk hk => k45_typed HR1.out kk hk; have hX2 := appX HX1.out hg hty; have hK2 := fun (q : TypeId) (h45 : q ≠ 45) => KeepT.trans (KeepT.of_below (t := q) H01.out) (KeepT.of_grown hg (fun kk hk => appQ h45 (hty kk hk))); have hcell2 := cells1 hX2; have hfz2 := blk_frozen hX2 0; have HX2 := Aside0.mk hX2; have HK2 := Aside0.mk hK2; have HO2 := Aside0.mk ho; have HB2 := Aside0.mk hb2; clear hX2 hK2 ho hb2 hg hat hty))
      have hX3 := blk_set HX2.out 0 (.slice A5 (acc.length + 1) c5)
      have hR3 : k45.R 45 w2 base (fun _ => True) (.slice A5 (acc.length + 1) c5) (acc ++ [(⟨f, t, k⟩ : S45)]) := by have := HO2.out; simpa using this
      go_end0
      exact ⟨rfl, _, hX3, by rw [HAd.out]; exact Kd.R_set hR3 HX2.out (by decide) 0 _, HB2.out.setCell hbase _, fun q h36 h45 => KeepT.trans (HK2.out q h45) (KeepT.set_ HX2.out (Ne.symm h36) 0 _)⟩
theorem addE_le (l : List S45) (f t k : Int) : (addE l f t k).length ≤ l.length + 1 := addE_len l f t k
def tailT (ws : List Int) (a : List S45) (x1 x3 q : Int) : List S45 :=
  if 0 < q + 1 then (if q + 1 < ws.length then addE a x1 (rd ws (q + 1)) 4 else a)
  else (if q + 1 = 0 then (if x3 ≤ 1 then (if 0 < ws.length then addE a x1 (rd ws (q + 1)) 4 else a) else a) else a)
theorem tailT_le (ws : List Int) (a : List S45) (x1 x3 q : Int) : (tailT ws a x1 x3 q).length ≤ a.length + 1 := by
  unfold tailT
  have h := fun t => addE_le a x1 t 4
  repeat' split
  all_goals first | exact h _ | omega
def hopT (done list : List Int) (acc : List S45) (x1 x3 : Int) : List S45 :=
  tailT list (if done.contains x3 = true then addE acc x3 x1 2 else acc) x1 x3 (idxP (fun y => x3 == y) list)
def hopE (done list : List Int) (key : Int) (acc : List S45) (x : S48) : List S45 :=
  if x.f0 = 2 then (if x.f2 = key then (if done.contains x.f1 = true then hopT done list acc x.f1 x.f3 else acc) else acc) else acc
def chainE : List Int → List S45 → List S45
  | x :: y :: r, acc => chainE (y :: r) (addE acc x y 1)
  | _, acc => acc
def keyE (l0 : List S48) (acc : List S45) (key : Int) : List S45 := l0.foldl (hopE (commL l0) (writersL l0 key) key) (chainE (writersL l0 key) acc)
def edgesL (l0 : List S48) (n : Nat) : List S45 := ((List.range n).map (fun k : Nat => (k : Int))).foldl (keyE l0) []
def impl_edges.f (l0 : List S48) : Option (List S45) := if l0.length ≤ 400 then some (edgesL l0 32) else none
theorem hopT_le (done list : List Int) (acc : List S45) (x1 x3 : Int) : (hopT done list acc x1 x3).length ≤ acc.length + 2 := by
  unfold hopT
  refine Nat.le_trans (tailT_le _ _ _ _ _) ?_
  have h1 := addE_le acc x3 x1 2
  split <;> omega
theorem hopE_le (done list : List Int) (key : Int) (acc : List S45) (x : S48) : (hopE done list key acc x).length ≤ acc.length + 2 := by
  unfold hopE
  have h := hopT_le done list acc x.f1 x.f3
  repeat' split
  all_goals omega
theorem chainE_le : ∀ (l : List Int) (acc : List S45), (chainE l acc).length ≤ acc.length + l.length
  | [], acc => by simp [chainE]
  | [x], acc => by simp [chainE]
  | x :: y :: r, acc => by
    have h := chainE_le (y :: r) (addE acc x y 1)
    have h1 := addE_le acc x y 1
    simp only [chainE, List.length_cons] at h ⊢
    omega
theorem hopsE_le (done list : List Int) (key : Int) : ∀ (l : List S48) (acc : List S45), (l.foldl (hopE done list key) acc).length ≤ acc.length + 2 * l.length
  | [], acc => by simp
  | x :: r, acc => by
    have h := hopsE_le done list key r (hopE done list key acc x)
    have h1 := hopE_le done list key acc x
    simp only [List.foldl_cons, List.length_cons] at h ⊢
    omega
theorem commL_le (l : List S48) : (commL l).length ≤ l.length := by
  unfold commL; rw [List.length_map]; exact List.length_filter_le _ _
theorem writersL_le (l : List S48) (key : Int) : (writersL l key).length ≤ l.length := Nat.le_trans (List.length_filter_le _ _) (commL_le l)
theorem keyE_le (l0 : List S48) (acc : List S45) (key : Int) : (keyE l0 acc key).length ≤ acc.length + 3 * l0.length := by
  have h := hopsE_le (commL l0) (writersL l0 key) key l0 (chainE (writersL l0 key) acc)
  have h1 := chainE_le (writersL l0 key) acc
  have h2 := writersL_le l0 key
  unfold keyE
  omega
theorem edgesL_succ (l0 : List S48) (n : Nat) : edgesL l0 (n + 1) = keyE l0 (edgesL l0 n) (n : Int) := by
  unfold edgesL
  rw [List.range_succ, List.map_append, List.foldl_append]
  rfl
theorem edgesL_le (l0 : List S48) : ∀ n, (edgesL l0 n).length ≤ n * (3 * l0.length)
  | 0 => by simp [edgesL]
  | n + 1 => by
    rw [edgesL_succ, Nat.succ_mul]
    have h := keyE_le l0 (edgesL l0 n) (n : Int)
    have h1 := edgesL_le l0 n
    omega
theorem wrap_nat0 (j : Nat) (h : j ≤ 1000000) : IntKind.i64.wrap (j : Int) = (j : Int) := by rw [IntKind.wrap_i64]; omega
theorem chain_step (ws : List Int) (j : Nat) (acc ac : List S45) (h2 : j + 1 < ws.length) (h : chainE (ws.drop j) acc = chainE ws ac) : chainE (ws.drop (j + 1)) (addE acc (rd ws (j : Int)) (rd ws ((j : Int) + 1)) 1) = chainE ws ac := by
  rw [← h]
  have e1 : rd ws (j : Int) = ws[j]'(by omega) := by
    show ws.getD j 0 = _
    rw [List.getD_eq_getElem?_getD, List.getElem?_eq_getElem (by omega)]; rfl
  have e2 : rd ws ((j : Int) + 1) = ws[j + 1]'(by omega) := by
    show ws.getD (j + 1) 0 = _
    rw [List.getD_eq_getElem?_getD, List.getElem?_eq_getElem (by omega)]; rfl
  rw [e1, e2, List.drop_eq_getElem_cons (i := j) (by omega), List.drop_eq_getElem_cons (i := j + 1) h2]
  rfl
theorem chain_end (ws : List Int) (j : Nat) (acc ac : List S45) (h2 : ¬ j + 1 < ws.length) (h : chainE (ws.drop j) acc = chainE ws ac) : chainE ws ac = acc := by
  rw [← h]
  have hl : (ws.drop j).length ≤ 1 := by rw [List.length_drop]; omega
  cases hd : ws.drop j with
  | nil => rfl
  | cons x r =>
    cases r with
    | nil => rfl
    | cons y r => rw [hd] at hl; simp at hl
def EInv (w : World) (bo : Nat) (A1 : Option Addr) (c1 : Nat) (l0 : List S48) (acc : List S45) (wr : World) : Prop :=
  (∃ v, wr.heap[bo]? = some (.cells #[v] 36 (0, 0)) ∧ Kd.R k45 45 wr w.heap.size (fun _ => True) v acc) ∧ Below w.heap.size w wr ∧ Kd.R (Kd.int .i64) 2 wr w.heap.size (fun _ => True) (.slice A1 (commL l0).length c1) (commL l0) ∧ w.heap.size ≤ bo
theorem EInv.below {w : World} {bo : Nat} {A1 : Option Addr} {c1 : Nat} {l0 : List S48} {acc : List S45} {wr wx : World} (h : EInv w bo A1 c1 l0 acc wr) (hb : Below wr.heap.size wr wx) : EInv w bo A1 c1 l0 acc wx := by
  obtain ⟨⟨v, h1, h2⟩, h3, h4, h5⟩ := h
  exact ⟨⟨v, blk_below h1 hb, Kd.R_below h2 hb⟩, below_step h3 hb, Kd.R_below h4 hb, h5⟩
theorem edges_add {w : World} {bo : Nat} {A1 : Option Addr} {c1 : Nat} {l0 : List S48} {acc : List S45} {wr : World} (h : EInv w bo A1 c1 l0 acc wr) (f t k : Int) (hlen : acc.length ≤ 100000) :
    Calls Try.prog 71 #[.int .i64 f, .int .i64 t, .int .i64 k, .pointer (some ⟨bo, 0, none⟩)] wr fun e w' => e = .returned (.tuple #[]) ∧ EInv w bo A1 c1 l0 (addE acc f t k) w' ∧ (∀ q, q ≠ 36 → q ≠ 45 → KeepT q wr w') := by
  obtain ⟨⟨v, h1, h2⟩, h3, h4, h5⟩ := h
  refine (impl_edges_1.calls f t k bo v acc w.heap.size w wr h3 h5 h3.size h1 h2 hlen).mono ?_
  rintro e w' ⟨rfl, v', k1, k2, k3, k4⟩
  exact ⟨rfl, ⟨⟨v', k1, k2⟩, k3, KeepT.R h4 rfl (k4 2 (by decide) (by decide)), h5⟩, k4⟩
set_option maxHeartbeats 100000000 in
set_option maxRecDepth 100000 in
theorem impl_edges.calls (A0 : Option Addr) (c0 : Nat) (l0 : List S48) (r : List S45) (w : World) (hr0 : Kd.C k48 w A0 l0.length l0) (hc0 : l0.length ≤ c0) (h : impl_edges.f l0 = some r) :
    Calls Try.prog 34 #[.slice A0 l0.length c0] w fun e w' => ∃ v0_ : Value, e = .returned (v0_) ∧ Kd.R k45 45 w' w.heap.size (fun _ => True) v0_ r ∧ Below w.heap.size w w' := by
  unfold impl_edges.f at h
  have hl : l0.length ≤ 400 := by
    by_cases hl : l0.length ≤ 400
    · exact hl
    · rw [if_neg hl] at h; cases h
  rw [if_pos hl] at h
  obtain rfl : edgesL l0 32 = r := by simpa using h
  have hu := Try.underlying45
  obtain ⟨n, hn⟩ := impl_committed.ev l0 (by omega)
  have hcom := fun W h => impl_committed.calls n A0 c0 l0 _ W h hc0 (hn n (Nat.le_refl _))
  have HR := Aside0.mk hr0
  have HC := Aside0.mk hcom
  clear hr0 hcom h hn
  go_enter Try.func34, Try.ntmps34
  go_wp2_with (go_at_call 55; refine (HC.out _ (Kd.C_below HR.out (below_alloc (Below.refl _ _) _))).mono ?_; rintro e w1 ⟨v1, rfl, ho1, hb1⟩; obtain ⟨A1, c1, rfl⟩ := Kd.R_slice ho1)
  have hbA : Below w.heap.size w w1 := below_step (below_alloc (Below.refl _ _) _) hb1
  have hE : EInv w w1.heap.size A1 c1 l0 [] (w1.alloc (.cells #[.slice (some ⟨w.heap.size, 0, none⟩) 0 0] 36)) := ⟨⟨_, heap_alloc_new w1 _, Kd.R_below (Kd.R_below (Kd.R_lit0 k45 _ _ _ _ (Nat.le_refl _) trivial) hb1) (below_alloc (Below.refl _ _) _)⟩, below_alloc hbA _, Kd.R_lower (Kd.R_below ho1 (below_alloc (Below.refl _ _) _)) (below_alloc (Below.refl _ w) _).size, hbA.size⟩
  generalize w1.heap.size = bo at hE
  have HE := Aside0.mk hE
  have HL := Aside0.mk hl
  clear hE hbA ho1 hb1 HC hl
  go_loopg [6, 16] 32 (fun gg s6 s16 wr => ∃ kk : Nat, kk ≤ 32 ∧ 32 - kk ≤ gg ∧ s16 = .int .i64 kk ∧ Aside0 (EInv w bo A1 c1 l0 (edgesL l0 kk) wr))
  case atStart => exact ⟨0, by omega, by omega, rfl, HE⟩
  case round =>
    obtain ⟨kk, hkk, hg, rfl, HI⟩ := hrel
    clear HE
    by_cases hlt : kk < 32
    · have hltz : (kk : Int) < 32 := by omega
      have hw := impl_writers.calls A0 c0 l0 (kk : Int) (writersL l0 kk) wr (Kd.C_below HR.out HI.out.2.1) hc0 (if_pos (by have := HL.out; omega))
      have HW := Aside0.mk hw
      clear hw
      go_upto_region 8 with (go_at_call 41; refine HW.out.mono ?_; rintro e w2 ⟨v2, rfl, hR2, hb2⟩; obtain ⟨A2, c2, rfl⟩ := Kd.R_slice hR2)
      have hI2 := HI.out.below hb2
      have hL2 : Kd.R (Kd.int .i64) 2 w2 w.heap.size (fun _ => True) (.slice A2 (writersL l0 kk).length c2) (writersL l0 kk) := Kd.R_lower hR2 HI.out.2.1.size
      have hwl := writersL_le l0 kk
      have hel := edgesL_le l0 kk
      have hsucc := edgesL_succ l0 kk
      unfold keyE at hsucc
      have hM := HL.out
      have hmul : kk * (3 * l0.length) ≤ 31 * 1200 := Nat.mul_le_mul (by omega) (by omega)
      have HI2 := Aside0.mk hI2
      have HL2 := Aside0.mk hL2
      have HS := Aside0.mk hsucc
      clear HI HW hR2 hb2 hI2 hL2 hsucc
      generalize writersL l0 kk = ws at HI2 HL2 HS hwl ⊢
      generalize edgesL l0 kk = ac at HI2 HL2 HS hel ⊢
      go_loopg [8] (ws.length + 1) (fun gg s8 wr => ∃ (j : Nat) (acc : List S45), (j + 1 ≤ ws.length ∨ j = 0) ∧ ws.length - j ≤ gg ∧ s8 = .int .i64 ((j : Int) + 1) ∧ Aside0 (chainE (ws.drop j) acc = chainE ws ac) ∧ Aside0 (acc.length ≤ ac.length + j) ∧ Aside0 (EInv w bo A1 c1 l0 acc wr) ∧ Aside0 (Kd.R (Kd.int .i64) 2 wr w.heap.size (fun _ => True) (.slice A2 ws.length c2) ws))
      case atStart => exact ⟨0, ac, .inr rfl, by omega, rfl, ⟨rfl⟩, ⟨by omega⟩, HI2, HL2⟩
      case round =>
        obtain ⟨j, acc, hj, hgg, rfl, HCh, HLe, HIi, HLi⟩ := hrel
        clear HI2 HL2
        by_cases hil : j + 1 < ws.length
        · have hilz : (j : Int) + 1 < ws.length := by omega
          have hj0 : (0 : Int) ≤ (j : Int) := by omega
          have hj1 : (j : Int) < ws.length := by omega
          have hj2 : (0 : Int) ≤ (j : Int) + 1 := by omega
          have hjw : IntKind.i64.wrap (j : Int) = (j : Int) := wrap_nat0 j (by omega)
          have hjw1 : IntKind.i64.wrap ((j : Int) + 1 - 1) = (j : Int) := by rw [show (j : Int) + 1 - 1 = j from by omega]; exact hjw
          obtain ⟨ad, e1, hx1⟩ := Kd.at_int (Kd.R_reads' HLi.out).2.2 (j : Int) (by omega) (by omega)
          subst e1
          obtain ⟨ad', e2, hx2⟩ := Kd.at_int (Kd.R_reads' HLi.out).2.2 ((j : Int) + 1) (by omega) (by omega)
          obtain rfl : ad = ad' := by injection e2
          have hadd := fun W (h : EInv w bo A1 c1 l0 acc W) => edges_add h (rd ws (j : Int)) (rd ws ((j : Int) + 1)) 1 (by have := HLe.out; omega)
          have HA := Aside0.mk hadd
          clear hadd
          go_upto_region 10 with (fail)
          have hB0 : Below wr.heap.size wr wr.drew := Below.drew (Below.refl _ _)
          have HB0 := Aside0.mk hB0
          clear hB0
          go_region_held3 (fun w' => w'.cell? (ad.add j) = some (.int .i64 (rd ws (j : Int))) ∧ w'.cell? ⟨ad.block, ad.off + (j + 1), none⟩ = some (.int .i64 (rd ws ((j : Int) + 1)))) (first | exact ⟨hx1, hx2⟩ | exact ⟨hx3, hx4⟩)
            (first | (go_at_call 71; refine (HA.out _ (EInv.below HIi.out HB0.out)).mono ?_; rintro e w3 ⟨rfl, hE3, hK3⟩; have hL3 := KeepT.R (Kd.R_below HLi.out HB0.out) rfl (hK3 2 (by decide) (by decide)); obtain ⟨ad1, e1, hx3⟩ := Kd.at_int (Kd.R_reads' hL3).2.2 (j : Int) (by omega) (by omega); obtain rfl : ad = ad1 := (by injection e1); obtain ⟨ad2, e2, hx4⟩ := Kd.at_int (Kd.R_reads' hL3).2.2 ((j : Int) + 1) (by omega) (by omega); obtain rfl : ad = ad2 := (by injection e2); have HE3 := Aside0.mk hE3; have HL3 := Aside0.mk hL3; clear hE3 hK3 hL3))
          go_wp2
          go_roundg (ws.length - (j + 1))
          case measure => omega
          case rel => exact ⟨j + 1, _, .inl (by omega), by omega, by go_num, ⟨chain_step ws j acc ac hil HCh.out⟩, ⟨by have := HLe.out; have := addE_le acc (rd ws (j : Int)) (rd ws ((j : Int) + 1)) 1; omega⟩, HE3, HL3⟩
        · have hilz : ¬ (j : Int) + 1 < ws.length := by omega
          have hce := chain_end ws j acc ac hil HCh.out
          rw [hce] at HS
          have hac : acc.length ≤ ac.length + ws.length := by have := HLe.out; omega
          clear HCh HLe hce
          go_wp2
          go_loopg [10, 41] (l0.length) (fun gg s10 s41 wr => ∃ (m : Nat) (ax : List S45), m ≤ l0.length ∧ l0.length - m ≤ gg ∧ s41 = .int .i64 (m : Int) ∧ Aside0 (l0.foldl (hopE (commL l0) ws (kk : Int)) acc = (l0.drop m).foldl (hopE (commL l0) ws (kk : Int)) ax) ∧ Aside0 (ax.length ≤ acc.length + 2 * m) ∧ Aside0 (EInv w bo A1 c1 l0 ax wr) ∧ Aside0 (Kd.R (Kd.int .i64) 2 wr w.heap.size (fun _ => True) (.slice A2 ws.length c2) ws))
          case atStart => exact ⟨0, acc, by omega, by omega, rfl, ⟨by rw [List.drop_zero]⟩, ⟨by omega⟩, HIi, HLi⟩
          case round =>
            obtain ⟨m, ax, hm, hgm, rfl, HF, HLx, HIm, HLm⟩ := hrel
            clear HIi HLi
            by_cases hml : m < l0.length
            · have hmz : (m : Int) < l0.length := by omega
              have hlc := HR.out
              obtain ⟨ad, e1, q0, q1, q2, q3⟩ := at_T48 (Kd.C_below HR.out HIm.out.2.1) (m : Int) (by omega) (by omega)
              have hf := HF.out
              rw [List.drop_eq_getElem_cons hml, List.foldl_cons] at hf
              have hx : l0[m] = rd_T48 l0 (m : Int) := by
                show _ = l0.getD m _
                rw [List.getD_eq_getElem?_getD, List.getElem?_eq_getElem hml]; rfl
              rw [hx] at hf
              simp only [Int.toNat_natCast] at q0 q1 q2 q3
              have HF1 := Aside0.mk hf
              clear HF hf hx hlc
              generalize rd_T48 l0 (m : Int) = x at *
              obtain ⟨x0, x1, x2, x3⟩ := x
              subst e1
              dsimp only at q0 q1 q2 q3
              have HIa : Aside0 (EInv w bo A1 c1 l0 ax (wr.alloc (.cells #[.int .i64 x0, .int .i64 x1, .int .i64 x2, .int .i64 x3] 48))) := ⟨HIm.out.below (below_alloc (Below.refl _ _) _)⟩
              have HLa : Aside0 (Kd.R (Kd.int .i64) 2 (wr.alloc (.cells #[.int .i64 x0, .int .i64 x1, .int .i64 x2, .int .i64 x3] 48)) w.heap.size (fun _ => True) (.slice A2 ws.length c2) ws) := ⟨Kd.R_below HLm.out (below_alloc (Below.refl _ _) _)⟩
              by_cases ha : x0 = 2
              · subst ha
                by_cases hb : x2 = (kk : Int)
                · subst hb
                  have hcon := fun W h => slices_Contains_int64_int64.calls A1 c1 (commL l0) x1 _ W h (Kd.R_reads' HIm.out.2.2.1).2.1 rfl
                  cases hd : (commL l0).contains x1 with
                  | false =>
                    have hst : hopE (commL l0) ws (kk : Int) ax ⟨2, x1, kk, x3⟩ = ax := by unfold hopE; simp only [if_true, hd, Bool.false_eq_true, if_false]
                    rw [hst] at HF1
                    rw [hd] at hcon
                    have HCo := Aside0.mk hcon
                    clear hcon hd hst
                    go_wp2_with (go_at_call 54; refine (HCo.out _ (Kd.R_reads' HIa.out.2.2.1).2.2).mono ?_; rintro e w3 ⟨rfl, ⟨nd, rfl⟩⟩)
                    go_roundg (l0.length - (m + 1))
                    case measure => omega
                    case rel => exact ⟨m + 1, ax, by omega, by omega, by go_num, HF1, ⟨by have := HLx.out; omega⟩, ⟨HIa.out.below (pw_below_drewN (Below.refl _ _) _)⟩, ⟨Kd.R_below HLa.out (pw_below_drewN (Below.refl _ _) _)⟩⟩
                  | true =>
                    have hst : hopE (commL l0) ws (kk : Int) ax ⟨2, x1, kk, x3⟩ = hopT (commL l0) ws ax x1 x3 := by unfold hopE; simp only [if_true, hd]
                    rw [hst] at HF1
                    rw [hd] at hcon
                    have HCo := Aside0.mk hcon
                    clear hcon hd hst
                    have hco3 := fun W h => slices_Contains_int64_int64.calls A1 c1 (commL l0) x3 _ W h (Kd.R_reads' HIm.out.2.2.1).2.1 rfl
                    unfold hopT at HF1
                    go_upto_region 15 with (go_at_call 54; refine (HCo.out _ (Kd.R_reads' HIa.out.2.2.1).2.2).mono ?_; rintro e w3 ⟨rfl, ⟨nd, rfl⟩⟩)
                    have HIb : Aside0 (EInv w bo A1 c1 l0 ax ((wr.alloc (.cells #[.int .i64 2, .int .i64 x1, .int .i64 kk, .int .i64 x3] 48)).drewN nd)) := ⟨HIa.out.below (pw_below_drewN (Below.refl _ _) _)⟩
                    have HLb := Aside0.mk (Kd.R_below HLa.out (pw_below_drewN (Below.refl _ _) nd))
                    have HXb := Aside0.mk (blk_drewN (heap_alloc_new wr (.cells #[.int .i64 2, .int .i64 x1, .int .i64 kk, .int .i64 x3] 48)) nd)
                    generalize (wr.alloc (.cells #[.int .i64 2, .int .i64 x1, .int .i64 kk, .int .i64 x3] 48)).drewN nd = WW at HIb HLb HXb ⊢
                    cases hd3 : (commL l0).contains x3 with
                    | false =>
                      rw [hd3] at hco3 HF1
                      simp only [Bool.false_eq_true, if_false] at HF1
                      have HC3 := Aside0.mk hco3
                      clear hco3 hd3
                      obtain ⟨z0, z1, z2, z3⟩ := cells4 HXb.out
                      go_upto_region 17 with (go_at_call 54; refine (HC3.out _ (Kd.R_reads' HIb.out.2.2.1).2.2).mono ?_; rintro e w4 ⟨rfl, ⟨nd4, rfl⟩⟩)
                      clear z0 z1 z2 z3
                      have HX3 := Aside0.mk (blk_drewN HXb.out nd4)
                      have HE3 : Aside0 (EInv w bo A1 c1 l0 ax _) := ⟨HIb.out.below (pw_below_drewN (Below.refl _ _) nd4)⟩
                      have HL3 := Aside0.mk (Kd.R_below HLb.out (pw_below_drewN (Below.refl _ _) nd4))
                      generalize WW.drewN nd4 = W2 at HX3 HE3 HL3 ⊢
                      obtain ⟨a1, ha1⟩ : ∃ a1, a1 = ax := ⟨_, rfl⟩
                      have HA1 : Aside0 (a1.length ≤ ax.length + 1) := ⟨by rw [ha1]; omega⟩
                      rw [← ha1] at HE3 HF1
                      clear ha1
                      obtain ⟨z0, z1, z2, z3⟩ := cells4 HX3.out
                      have hix := fun W h => slices_Index_int64_int64.calls A2 c2 ws x3 _ W h (Kd.R_reads' HLm.out).2.1 rfl
                      have hq := idxP_ge (fun y => x3 == y) ws
                      generalize idxP (fun y => x3 == y) ws = q at hix hq HF1
                      by_cases hq0 : q < 0
                      · obtain rfl : q = -1 := by omega
                        by_cases h3 : x3 ≤ 1
                        · by_cases hln : 0 < ws.length
                          · have hst : tailT ws a1 x1 x3 (-1) = addE a1 x1 (rd ws 0) 4 := by unfold tailT; rw [if_neg (by decide), if_pos (by decide), if_pos h3, if_pos hln]; rfl
                            rw [hst] at HF1
                            have HIx := Aside0.mk hix
                            clear hix hst hq
                            go_upto_region 19 with (first | fail | (go_at_call 73; refine (HIx.out _ (Kd.R_reads' HL3.out).2.2).mono ?_; rintro e w5 ⟨rfl, ⟨nd5, rfl⟩⟩; have HE5 : Aside0 (EInv w bo A1 c1 l0 a1 _) := ⟨EInv.below HE3.out (pw_below_drewN (Below.refl _ _) nd5)⟩; have HL5 := Aside0.mk (Kd.R_below HL3.out (pw_below_drewN (Below.refl _ _) nd5)); have HX5 := Aside0.mk (blk_drewN HX3.out nd5)))
                            obtain ⟨adl, el, y0⟩ := Kd.at_int (Kd.R_reads' HL5.out).2.2 (0) (by omega) (by omega)
                            cases el
                            clear z0 z1 z2 z3
                            obtain ⟨z0, z1, z2, z3⟩ := cells4 HX5.out
                            have hadd := fun W (h : EInv w bo A1 c1 l0 a1 W) => edges_add h x1 (rd ws (0)) 4 (by have := HLx.out; have := HA1.out; omega)
                            have HA := Aside0.mk hadd
                            clear hadd
                            have HB0 : ∀ W : World, Aside0 (Below W.heap.size W W.drew) := fun W => ⟨Below.drew (Below.refl _ _)⟩
                            go_region_held3 (fun w' => w'.cell? ⟨wr.heap.size, 1, none⟩ = some (.int .i64 x1) ∧ w'.cell? adl = some (.int .i64 (rd ws (0)))) (first | exact ⟨z1, y0⟩ | exact ⟨v1, y1⟩)
                              (first | (go_at_call 71; refine (HA.out _ (EInv.below HE5.out (HB0 _).out)).mono ?_; rintro e w6 ⟨rfl, hE6, hK6⟩; have hX6 := (hK6 48 (by decide) (by decide)).2 _ _ HX5.out; have hL6 := KeepT.R (Kd.R_below HL5.out (HB0 _).out) rfl (hK6 2 (by decide) (by decide)); obtain ⟨ad6, e6, y1⟩ := Kd.at_int (Kd.R_reads' hL6).2.2 (0) (by omega) (by omega); obtain rfl : adl = ad6 := (by injection e6); obtain ⟨v0, v1, v2, v3⟩ := cells4 hX6; have HE6 := Aside0.mk hE6; have HL6 := Aside0.mk hL6; clear hE6 hK6 hL6 hX6 v0 v2 v3))
                            go_wp2
                            go_roundg (l0.length - (m + 1))
                            case measure => omega
                            case rel => exact ⟨m + 1, _, by omega, by omega, by go_num, HF1, ⟨by have := HLx.out; have := HA1.out; have := addE_le a1 x1 (rd ws (0)) 4; omega⟩, HE6, HL6⟩
                          · have hlz : True := trivial
                            have hst : tailT ws a1 x1 x3 (-1) = a1 := by unfold tailT; rw [if_neg (by decide), if_pos (by decide), if_pos h3, if_neg hln]
                            rw [hst] at HF1
                            have HIx := Aside0.mk hix
                            clear hix hst hq
                            go_wp2_with (first | fail | (go_at_call 73; refine (HIx.out _ (Kd.R_reads' HL3.out).2.2).mono ?_; rintro e w5 ⟨rfl, ⟨nd5, rfl⟩⟩; have HE5 : Aside0 (EInv w bo A1 c1 l0 a1 _) := ⟨EInv.below HE3.out (pw_below_drewN (Below.refl _ _) nd5)⟩; have HL5 := Aside0.mk (Kd.R_below HL3.out (pw_below_drewN (Below.refl _ _) nd5)); have HX5 := Aside0.mk (blk_drewN HX3.out nd5)))
                            go_roundg (l0.length - (m + 1))
                            case measure => omega
                            case rel => exact ⟨m + 1, a1, by omega, by omega, by go_num, HF1, ⟨by have := HLx.out; have := HA1.out; omega⟩, HE5, HL5⟩
                        · have h3z : ¬ x3 ≤ 1 := h3
                          have hst : tailT ws a1 x1 x3 (-1) = a1 := by unfold tailT; rw [if_neg (by decide), if_pos (by decide), if_neg h3]
                          rw [hst] at HF1
                          have HIx := Aside0.mk hix
                          clear hix hst hq
                          go_wp2_with (first | fail | (go_at_call 73; refine (HIx.out _ (Kd.R_reads' HL3.out).2.2).mono ?_; rintro e w5 ⟨rfl, ⟨nd5, rfl⟩⟩; have HE5 : Aside0 (EInv w bo A1 c1 l0 a1 _) := ⟨EInv.below HE3.out (pw_below_drewN (Below.refl _ _) nd5)⟩; have HL5 := Aside0.mk (Kd.R_below HL3.out (pw_below_drewN (Below.refl _ _) nd5)); have HX5 := Aside0.mk (blk_drewN HX3.out nd5)))
                          go_roundg (l0.length - (m + 1))
                          case measure => omega
                          case rel => exact ⟨m + 1, a1, by omega, by omega, by go_num, HF1, ⟨by have := HLx.out; have := HA1.out; omega⟩, HE5, HL5⟩
                      · obtain ⟨qn, rfl⟩ : ∃ qn : Nat, q = qn := ⟨q.toNat, by omega⟩
                        have hqz : (0 : Int) < (qn : Int) + 1 := by omega
                        have hqp : (0 : Int) ≤ (qn : Int) + 1 := by omega
                        have hqw : IntKind.i64.wrap ((qn : Int) + 1) = (qn : Int) + 1 := by rw [IntKind.wrap_i64]; omega
                        have hqne : ((qn : Int) + 1 == 0) = false := beq_eq_false_iff_ne.2 (by omega)
                        by_cases hql : (qn : Int) + 1 < ws.length
                        · have hst : tailT ws a1 x1 x3 qn = addE a1 x1 (rd ws ((qn : Int) + 1)) 4 := by unfold tailT; rw [if_pos hqz, if_pos hql]
                          rw [hst] at HF1
                          have HIx := Aside0.mk hix
                          clear hix hst hq
                          go_upto_region 19 with (first | fail | (go_at_call 73; refine (HIx.out _ (Kd.R_reads' HL3.out).2.2).mono ?_; rintro e w5 ⟨rfl, ⟨nd5, rfl⟩⟩; have HE5 : Aside0 (EInv w bo A1 c1 l0 a1 _) := ⟨EInv.below HE3.out (pw_below_drewN (Below.refl _ _) nd5)⟩; have HL5 := Aside0.mk (Kd.R_below HL3.out (pw_below_drewN (Below.refl _ _) nd5)); have HX5 := Aside0.mk (blk_drewN HX3.out nd5)))
                          obtain ⟨adl, el, y0⟩ := Kd.at_int (Kd.R_reads' HL5.out).2.2 ((qn : Int) + 1) (by omega) (by omega)
                          cases el
                          clear z0 z1 z2 z3
                          obtain ⟨z0, z1, z2, z3⟩ := cells4 HX5.out
                          have hadd := fun W (h : EInv w bo A1 c1 l0 a1 W) => edges_add h x1 (rd ws ((qn : Int) + 1)) 4 (by have := HLx.out; have := HA1.out; omega)
                          have HA := Aside0.mk hadd
                          clear hadd
                          have HB0 : ∀ W : World, Aside0 (Below W.heap.size W W.drew) := fun W => ⟨Below.drew (Below.refl _ _)⟩
                          go_region_held3 (fun w' => w'.cell? ⟨wr.heap.size, 1, none⟩ = some (.int .i64 x1) ∧ w'.cell? ⟨adl.block, adl.off + (qn + 1), none⟩ = some (.int .i64 (rd ws ((qn : Int) + 1)))) (first | exact ⟨z1, y0⟩ | exact ⟨v1, y1⟩)
                            (first | (go_at_call 71; refine (HA.out _ (EInv.below HE5.out (HB0 _).out)).mono ?_; rintro e w6 ⟨rfl, hE6, hK6⟩; have hX6 := (hK6 48 (by decide) (by decide)).2 _ _ HX5.out; have hL6 := KeepT.R (Kd.R_below HL5.out (HB0 _).out) rfl (hK6 2 (by decide) (by decide)); obtain ⟨ad6, e6, y1⟩ := Kd.at_int (Kd.R_reads' hL6).2.2 ((qn : Int) + 1) (by omega) (by omega); obtain rfl : adl = ad6 := (by injection e6); obtain ⟨v0, v1, v2, v3⟩ := cells4 hX6; have HE6 := Aside0.mk hE6; have HL6 := Aside0.mk hL6; clear hE6 hK6 hL6 hX6 v0 v2 v3))
                          go_wp2
                          go_roundg (l0.length - (m + 1))
                          case measure => omega
                          case rel => exact ⟨m + 1, _, by omega, by omega, by go_num, HF1, ⟨by have := HLx.out; have := HA1.out; have := addE_le a1 x1 (rd ws ((qn : Int) + 1)) 4; omega⟩, HE6, HL6⟩
                        · have hst : tailT ws a1 x1 x3 qn = a1 := by unfold tailT; rw [if_pos hqz, if_neg hql]
                          rw [hst] at HF1
                          have HIx := Aside0.mk hix
                          clear hix hst hq
                          go_wp2_with (first | fail | (go_at_call 73; refine (HIx.out _ (Kd.R_reads' HL3.out).2.2).mono ?_; rintro e w5 ⟨rfl, ⟨nd5, rfl⟩⟩; have HE5 : Aside0 (EInv w bo A1 c1 l0 a1 _) := ⟨EInv.below HE3.out (pw_below_drewN (Below.refl _ _) nd5)⟩; have HL5 := Aside0.mk (Kd.R_below HL3.out (pw_below_drewN (Below.refl _ _) nd5)); have HX5 := Aside0.mk (blk_drewN HX3.out nd5)))
                          go_roundg (l0.length - (m + 1))
                          case measure => omega
                          case rel => exact ⟨m + 1, a1, by omega, by omega, by go_num, HF1, ⟨by have := HLx.out; have := HA1.out; omega⟩, HE5, HL5⟩
                    | true =>
                      rw [hd3] at hco3 HF1
                      simp only [if_true] at HF1
                      have HC3 := Aside0.mk hco3
                      have hadd := fun W (h : EInv w bo A1 c1 l0 ax W) => edges_add h x3 x1 2 (by have := HLx.out; omega)
                      have HAd := Aside0.mk hadd
                      clear hco3 hd3 hadd
                      obtain ⟨z0, z1, z2, z3⟩ := cells4 HXb.out
                      go_upto_region 17 with (first | (go_at_call 54; refine (HC3.out _ (Kd.R_reads' HIb.out.2.2.1).2.2).mono ?_; rintro e w4 ⟨rfl, ⟨nd4, rfl⟩⟩; have HI4 : Aside0 (EInv w bo A1 c1 l0 ax _) := ⟨HIb.out.below (pw_below_drewN (Below.refl _ _) nd4)⟩; have HL4 := Aside0.mk (Kd.R_below HLb.out (pw_below_drewN (Below.refl _ _) nd4)); have HX4 := Aside0.mk (blk_drewN HXb.out nd4)) | (go_at_call 71; refine (HAd.out _ HI4.out).mono ?_; rintro e w3 ⟨rfl, hE3, hK3⟩))
                      have HX3 := Aside0.mk ((hK3 48 (by decide) (by decide)).2 _ _ HX4.out)
                      have HL3 := Aside0.mk (KeepT.R HL4.out rfl (hK3 2 (by decide) (by decide)))
                      have HE3 := Aside0.mk hE3
                      obtain ⟨a1, ha1⟩ : ∃ a1, a1 = addE ax x3 x1 2 := ⟨_, rfl⟩
                      have HA1 : Aside0 (a1.length ≤ ax.length + 1) := ⟨by rw [ha1]; exact addE_le _ _ _ _⟩
                      rw [← ha1] at HE3 HF1
                      clear ha1 hE3 hK3 z0 z1 z2 z3
                      obtain ⟨z0, z1, z2, z3⟩ := cells4 HX3.out
                      have hix := fun W h => slices_Index_int64_int64.calls A2 c2 ws x3 _ W h (Kd.R_reads' HLm.out).2.1 rfl
                      have hq := idxP_ge (fun y => x3 == y) ws
                      generalize idxP (fun y => x3 == y) ws = q at hix hq HF1
                      by_cases hq0 : q < 0
                      · obtain rfl : q = -1 := by omega
                        by_cases h3 : x3 ≤ 1
                        · by_cases hln : 0 < ws.length
                          · have hst : tailT ws a1 x1 x3 (-1) = addE a1 x1 (rd ws 0) 4 := by unfold tailT; rw [if_neg (by decide), if_pos (by decide), if_pos h3, if_pos hln]; rfl
                            rw [hst] at HF1
                            have HIx := Aside0.mk hix
                            clear hix hst hq
                            go_upto_region 19 with (first | fail | (go_at_call 73; refine (HIx.out _ (Kd.R_reads' HL3.out).2.2).mono ?_; rintro e w5 ⟨rfl, ⟨nd5, rfl⟩⟩; have HE5 : Aside0 (EInv w bo A1 c1 l0 a1 _) := ⟨EInv.below HE3.out (pw_below_drewN (Below.refl _ _) nd5)⟩; have HL5 := Aside0.mk (Kd.R_below HL3.out (pw_below_drewN (Below.refl _ _) nd5)); have HX5 := Aside0.mk (blk_drewN HX3.out nd5)))
                            obtain ⟨adl, el, y0⟩ := Kd.at_int (Kd.R_reads' HL5.out).2.2 (0) (by omega) (by omega)
                            cases el
                            clear z0 z1 z2 z3
                            obtain ⟨z0, z1, z2, z3⟩ := cells4 HX5.out
                            have hadd := fun W (h : EInv w bo A1 c1 l0 a1 W) => edges_add h x1 (rd ws (0)) 4 (by have := HLx.out; have := HA1.out; omega)
                            have HA := Aside0.mk hadd
                            clear hadd
                            have HB0 : ∀ W : World, Aside0 (Below W.heap.size W W.drew) := fun W => ⟨Below.drew (Below.refl _ _)⟩
                            go_region_held3 (fun w' => w'.cell? ⟨wr.heap.size, 1, none⟩ = some (.int .i64 x1) ∧ w'.cell? adl = some (.int .i64 (rd ws (0)))) (first | exact ⟨z1, y0⟩ | exact ⟨v1, y1⟩)
                              (first | (go_at_call 71; refine (HA.out _ (EInv.below HE5.out (HB0 _).out)).mono ?_; rintro e w6 ⟨rfl, hE6, hK6⟩; have hX6 := (hK6 48 (by decide) (by decide)).2 _ _ HX5.out; have hL6 := KeepT.R (Kd.R_below HL5.out (HB0 _).out) rfl (hK6 2 (by decide) (by decide)); obtain ⟨ad6, e6, y1⟩ := Kd.at_int (Kd.R_reads' hL6).2.2 (0) (by omega) (by omega); obtain rfl : adl = ad6 := (by injection e6); obtain ⟨v0, v1, v2, v3⟩ := cells4 hX6; have HE6 := Aside0.mk hE6; have HL6 := Aside0.mk hL6; clear hE6 hK6 hL6 hX6 v0 v2 v3))
                            go_wp2
                            go_roundg (l0.length - (m + 1))
                            case measure => omega
                            case rel => exact ⟨m + 1, _, by omega, by omega, by go_num, HF1, ⟨by have := HLx.out; have := HA1.out; have := addE_le a1 x1 (rd ws (0)) 4; omega⟩, HE6, HL6⟩
                          · have hlz : True := trivial
                            have hst : tailT ws a1 x1 x3 (-1) = a1 := by unfold tailT; rw [if_neg (by decide), if_pos (by decide), if_pos h3, if_neg hln]
                            rw [hst] at HF1
                            have HIx := Aside0.mk hix
                            clear hix hst hq
                            go_wp2_with (first | fail | (go_at_call 73; refine (HIx.out _ (Kd.R_reads' HL3.out).2.2).mono ?_; rintro e w5 ⟨rfl, ⟨nd5, rfl⟩⟩; have HE5 : Aside0 (EInv w bo A1 c1 l0 a1 _) := ⟨EInv.below HE3.out (pw_below_drewN (Below.refl _ _) nd5)⟩; have HL5 := Aside0.mk (Kd.R_below HL3.out (pw_below_drewN (Below.refl _ _) nd5)); have HX5 := Aside0.mk (blk_drewN HX3.out nd5)))
                            go_roundg (l0.length - (m + 1))
                            case measure => omega
                            case rel => exact ⟨m + 1, a1, by omega, by omega, by go_num, HF1, ⟨by have := HLx.out; have := HA1.out; omega⟩, HE5, HL5⟩
                        · have h3z : ¬ x3 ≤ 1 := h3
                          have hst : tailT ws a1 x1 x3 (-1) = a1 := by unfold tailT; rw [if_neg (by decide), if_pos (by decide), if_neg h3]
                          rw [hst] at HF1
                          have HIx := Aside0.mk hix
                          clear hix hst hq
                          go_wp2_with (first | fail | (go_at_call 73; refine (HIx.out _ (Kd.R_reads' HL3.out).2.2).mono ?_; rintro e w5 ⟨rfl, ⟨nd5, rfl⟩⟩; have HE5 : Aside0 (EInv w bo A1 c1 l0 a1 _) := ⟨EInv.below HE3.out (pw_below_drewN (Below.refl _ _) nd5)⟩; have HL5 := Aside0.mk (Kd.R_below HL3.out (pw_below_drewN (Below.refl _ _) nd5)); have HX5 := Aside0.mk (blk_drewN HX3.out nd5)))
                          go_roundg (l0.length - (m + 1))
                          case measure => omega
                          case rel => exact ⟨m + 1, a1, by omega, by omega, by go_num, HF1, ⟨by have := HLx.out; have := HA1.out; omega⟩, HE5, HL5⟩
                      · obtain ⟨qn, rfl⟩ : ∃ qn : Nat, q = qn := ⟨q.toNat, by omega⟩
                        have hqz : (0 : Int) < (qn : Int) + 1 := by omega
                        have hqp : (0 : Int) ≤ (qn : Int) + 1 := by omega
                        have hqw : IntKind.i64.wrap ((qn : Int) + 1) = (qn : Int) + 1 := by rw [IntKind.wrap_i64]; omega
                        have hqne : ((qn : Int) + 1 == 0) = false := beq_eq_false_iff_ne.2 (by omega)
                        by_cases hql : (qn : Int) + 1 < ws.length
                        · have hst : tailT ws a1 x1 x3 qn = addE a1 x1 (rd ws ((qn : Int) + 1)) 4 := by unfold tailT; rw [if_pos hqz, if_pos hql]
                          rw [hst] at HF1
                          have HIx := Aside0.mk hix
                          clear hix hst hq
                          go_upto_region 19 with (first | fail | (go_at_call 73; refine (HIx.out _ (Kd.R_reads' HL3.out).2.2).mono ?_; rintro e w5 ⟨rfl, ⟨nd5, rfl⟩⟩; have HE5 : Aside0 (EInv w bo A1 c1 l0 a1 _) := ⟨EInv.below HE3.out (pw_below_drewN (Below.refl _ _) nd5)⟩; have HL5 := Aside0.mk (Kd.R_below HL3.out (pw_below_drewN (Below.refl _ _) nd5)); have HX5 := Aside0.mk (blk_drewN HX3.out nd5)))
                          obtain ⟨adl, el, y0⟩ := Kd.at_int (Kd.R_reads' HL5.out).2.2 ((qn : Int) + 1) (by omega) (by omega)
                          cases el
                          clear z0 z1 z2 z3
                          obtain ⟨z0, z1, z2, z3⟩ := cells4 HX5.out
                          have hadd := fun W (h : EInv w bo A1 c1 l0 a1 W) => edges_add h x1 (rd ws ((qn : Int) + 1)) 4 (by have := HLx.out; have := HA1.out; omega)
                          have HA := Aside0.mk hadd
                          clear hadd
                          have HB0 : ∀ W : World, Aside0 (Below W.heap.size W W.drew) := fun W => ⟨Below.drew (Below.refl _ _)⟩
                          go_region_held3 (fun w' => w'.cell? ⟨wr.heap.size, 1, none⟩ = some (.int .i64 x1) ∧ w'.cell? ⟨adl.block, adl.off + (qn + 1), none⟩ = some (.int .i64 (rd ws ((qn : Int) + 1)))) (first | exact ⟨z1, y0⟩ | exact ⟨v1, y1⟩)
                            (first | (go_at_call 71; refine (HA.out _ (EInv.below HE5.out (HB0 _).out)).mono ?_; rintro e w6 ⟨rfl, hE6, hK6⟩; have hX6 := (hK6 48 (by decide) (by decide)).2 _ _ HX5.out; have hL6 := KeepT.R (Kd.R_below HL5.out (HB0 _).out) rfl (hK6 2 (by decide) (by decide)); obtain ⟨ad6, e6, y1⟩ := Kd.at_int (Kd.R_reads' hL6).2.2 ((qn : Int) + 1) (by omega) (by omega); obtain rfl : adl = ad6 := (by injection e6); obtain ⟨v0, v1, v2, v3⟩ := cells4 hX6; have HE6 := Aside0.mk hE6; have HL6 := Aside0.mk hL6; clear hE6 hK6 hL6 hX6 v0 v2 v3))
                          go_wp2
                          go_roundg (l0.length - (m + 1))
                          case measure => omega
                          case rel => exact ⟨m + 1, _, by omega, by omega, by go_num, HF1, ⟨by have := HLx.out; have := HA1.out; have := addE_le a1 x1 (rd ws ((qn : Int) + 1)) 4; omega⟩, HE6, HL6⟩
                        · have hst : tailT ws a1 x1 x3 qn = a1 := by unfold tailT; rw [if_pos hqz, if_neg hql]
                          rw [hst] at HF1
                          have HIx := Aside0.mk hix
                          clear hix hst hq
                          go_wp2_with (first | fail | (go_at_call 73; refine (HIx.out _ (Kd.R_reads' HL3.out).2.2).mono ?_; rintro e w5 ⟨rfl, ⟨nd5, rfl⟩⟩; have HE5 : Aside0 (EInv w bo A1 c1 l0 a1 _) := ⟨EInv.below HE3.out (pw_below_drewN (Below.refl _ _) nd5)⟩; have HL5 := Aside0.mk (Kd.R_below HL3.out (pw_below_drewN (Below.refl _ _) nd5)); have HX5 := Aside0.mk (blk_drewN HX3.out nd5)))
                          go_roundg (l0.length - (m + 1))
                          case measure => omega
                          case rel => exact ⟨m + 1, a1, by omega, by omega, by go_num, HF1, ⟨by have := HLx.out; have := HA1.out; omega⟩, HE5, HL5⟩
                · have hbn : (x2 != (kk : Int)) = true := bne_iff_ne.2 hb
                  have hst : hopE (commL l0) ws (kk : Int) ax ⟨2, x1, x2, x3⟩ = ax := by unfold hopE; simp only [if_true, if_neg hb]
                  rw [hst] at HF1
                  clear hst hb
                  go_wp2_with (fail)
                  go_roundg (l0.length - (m + 1))
                  case measure => omega
                  case rel => exact ⟨m + 1, ax, by omega, by omega, by go_num, HF1, ⟨by have := HLx.out; omega⟩, HIa, HLa⟩
              · have han : (x0 != 2) = true := bne_iff_ne.2 ha
                have hst : hopE (commL l0) ws (kk : Int) ax ⟨x0, x1, x2, x3⟩ = ax := by unfold hopE; simp only [if_neg ha]
                rw [hst] at HF1
                clear hst ha
                go_wp2_with (fail)
                go_roundg (l0.length - (m + 1))
                case measure => omega
                case rel => exact ⟨m + 1, ax, by omega, by omega, by go_num, HF1, ⟨by have := HLx.out; omega⟩, HIa, HLa⟩
            · have hmz : ¬ (m : Int) < l0.length := by omega
              obtain rfl : m = l0.length := by omega
              have hF := HF.out
              rw [List.drop_length] at hF
              rw [hF] at HS
              go_wp2
              go_roundg (32 - (kk + 1))
              case measure => omega
              case rel => exact ⟨kk + 1, by omega, by omega, by go_num, ⟨by rw [HS.out]; exact HIm.out⟩⟩
    · obtain rfl : kk = 32 := by omega
      obtain ⟨v, h1, h2⟩ := HI.out.1
      obtain ⟨Av, cv, rfl⟩ := Kd.R_slice h2
      have hcell := cells1 h1
      have hfz := blk_frozen h1 0
      go_wp2
      go_ret
      exact ⟨_, rfl, h2, HI.out.2.1⟩


/-! ### slices_Sort_int64_int64: function 56 -/
def lay_sort_ren : Go.Shelf.Ren := ⟨fun | 5 => 56 | 8 => 83 | 7 => 82 | 19 => 94 | 20 => 95 | 10 => 85 | 11 => 86 | 12 => 87 | 13 => 88 | 14 => 89 | 15 => 90 | 16 => 91 | 17 => 92 | 18 => 93 | 30 => 96 | 31 => 97 | 32 => 98 | 33 => 99 | 34 => 100 | 35 => 101 | 40 => 102 | n => n, fun | 23 => 29 | 25 => 2 | 3 => 3 | 32 => 86 | 22 => 29 | 0 => 0 | 44 => 98 | 46 => 100 | 4 => 4 | 36 => 90 | 35 => 89 | 41 => 95 | 5 => 5 | 9 => 9 | 53 => 101 | 57 => 105 | 63 => 107 | 64 => 108 | n => n, fun | n => n⟩
theorem lay_sort : Go.Proofs.SlLaysM.n5 Try.prog lay_sort_ren := {
  mixed := by kernel_rfl
  f5 := ⟨Try.f56.name, by decide, Try.func56.trans (congrArg some (by kernel_rfl))⟩
  f7 := ⟨Try.f82.name, by decide, Try.func82.trans (congrArg some (by kernel_rfl))⟩
  f8 := Try.func83.trans (congrArg some (by kernel_rfl))
  f10 := ⟨Try.f85.name, by decide, Try.func85.trans (congrArg some (by kernel_rfl))⟩
  f11 := ⟨Try.f86.name, by decide, Try.func86.trans (congrArg some (by kernel_rfl))⟩
  f12 := ⟨Try.f87.name, by decide, Try.func87.trans (congrArg some (by kernel_rfl))⟩
  f13 := ⟨Try.f88.name, by decide, Try.func88.trans (congrArg some (by kernel_rfl))⟩
  f14 := ⟨Try.f89.name, by decide, Try.func89.trans (congrArg some (by kernel_rfl))⟩
  f15 := ⟨Try.f90.name, by decide, Try.func90.trans (congrArg some (by kernel_rfl))⟩
  f16 := ⟨Try.f91.name, by decide, Try.func91.trans (congrArg some (by kernel_rfl))⟩
  f17 := ⟨Try.f92.name, by decide, Try.func92.trans (congrArg some (by kernel_rfl))⟩
  f18 := ⟨Try.f93.name, by decide, Try.func93.trans (congrArg some (by kernel_rfl))⟩
  f19 := Try.func94.trans (congrArg some (by kernel_rfl))
  f20 := Try.func95.trans (congrArg some (by kernel_rfl))
  f30 := ⟨Try.f96.name, by decide, Try.func96.trans (congrArg some (by kernel_rfl))⟩
  f31 := Try.func97.trans (congrArg some (by kernel_rfl))
  f32 := Try.func98.trans (congrArg some (by kernel_rfl))
  f33 := ⟨Try.f99.name, by decide, Try.func99.trans (congrArg some (by kernel_rfl))⟩
  f34 := ⟨Try.f100.name, by decide, Try.func100.trans (congrArg some (by kernel_rfl))⟩
  f35 := ⟨Try.f101.name, by decide, Try.func101.trans (congrArg some (by kernel_rfl))⟩
  f40 := ⟨Try.f102.name, by decide, Try.func102.trans (congrArg some (by kernel_rfl))⟩
  t0 := Try.underlying0
  a0 := Try.isAgg0
  z0 := Try.sizeOf0
  v0 := Try.zeroValue0
  t3 := Try.underlying3
  a3 := Try.isAgg3
  z3 := Try.sizeOf3
  v3 := Try.zeroValue3
  t4 := Try.underlying4
  a4 := Try.isAgg4
  z4 := Try.sizeOf4
  v4 := Try.zeroValue4
  t5 := Try.underlying5
  a5 := Try.isAgg5
  z5 := Try.sizeOf5
  v5 := Try.zeroValue5
  t9 := Try.underlying9
  a9 := Try.isAgg9
  z9 := Try.sizeOf9
  v9 := Try.zeroValue9
  t22 := Try.underlying29
  a22 := Try.isAgg29
  z22 := Try.sizeOf29
  v22 := Try.zeroValue29
  t23 := Try.underlying29
  a23 := Try.isAgg29
  z23 := Try.sizeOf29
  v23 := Try.zeroValue29
  t25 := Try.underlying2
  a25 := Try.isAgg2
  z25 := Try.sizeOf2
  v25 := Try.zeroValue2
  t32 := Try.underlying86
  a32 := Try.isAgg86
  z32 := Try.sizeOf86
  v32 := Try.zeroValue86
  t35 := Try.underlying89
  a35 := Try.isAgg89
  z35 := Try.sizeOf89
  v35 := Try.zeroValue89
  t36 := Try.underlying90
  a36 := Try.isAgg90
  z36 := Try.sizeOf90
  v36 := Try.zeroValue90
  t41 := Try.underlying95
  a41 := Try.isAgg95
  z41 := Try.sizeOf95
  v41 := Try.zeroValue95
  t44 := Try.underlying98
  a44 := Try.isAgg98
  z44 := Try.sizeOf98
  v44 := Try.zeroValue98
  t46 := Try.underlying100
  a46 := Try.isAgg100
  z46 := Try.sizeOf100
  v46 := Try.zeroValue100
  t53 := Try.underlying101
  a53 := Try.isAgg101
  z53 := Try.sizeOf101
  v53 := Try.zeroValue101
  t57 := Try.underlying105
  a57 := Try.isAgg105
  z57 := Try.sizeOf105
  v57 := Try.zeroValue105
  t63 := Try.underlying107
  a63 := Try.isAgg107
  z63 := Try.sizeOf107
  v63 := Try.zeroValue107
  t64 := Try.underlying108
  a64 := Try.isAgg108
  z64 := Try.sizeOf108
  v64 := Try.zeroValue108 }
theorem slices_Sort_int64_int64.calls {base : Nat} {ok : Nat → Prop} {v : Value} {xs : List Int} {w : World} (h : Kd.R (Kd.int .i64) 2 w base ok v xs) (hx : xs.length ≤ 1099511627776) :
    Calls Try.prog 56 #[v] w fun e w' => e = .returned (.tuple #[]) ∧ Kd.R (Kd.int .i64) 2 w' base ok v (xs.mergeSort fun x y => decide (x ≤ y)) ∧ w.grownBy w' v.ownBlock := Kd.sort_int lay_sort h hx



/-! ### slices_Delete_int64_int64: function 62 -/
def lay_delete_ren : Go.Shelf.Ren := ⟨fun | 45 => 62 | n => n, fun | 22 => 29 | 23 => 2 | 3 => 3 | 4 => 4 | 0 => 0 | n => n, fun | n => n⟩
theorem lay_delete : Go.Proofs.SlLaysN.n45 Try.prog lay_delete_ren := {
  mixed := by kernel_rfl
  f45 := ⟨Try.f62.name, by decide, Try.func62.trans (congrArg some (by kernel_rfl))⟩
  t0 := Try.underlying0
  a0 := Try.isAgg0
  z0 := Try.sizeOf0
  v0 := Try.zeroValue0
  t3 := Try.underlying3
  a3 := Try.isAgg3
  z3 := Try.sizeOf3
  v3 := Try.zeroValue3
  t4 := Try.underlying4
  a4 := Try.isAgg4
  z4 := Try.sizeOf4
  v4 := Try.zeroValue4
  t22 := Try.underlying29
  a22 := Try.isAgg29
  z22 := Try.sizeOf29
  v22 := Try.zeroValue29
  t23 := Try.underlying2
  a23 := Try.isAgg2
  z23 := Try.sizeOf2
  v23 := Try.zeroValue2
  i23 := by kernel_rfl }
theorem slices_Delete_int64_int64.calls {base : Nat} {ok : Nat → Prop} {v : Value} {xs : List Int} {w : World} (h : Kd.R (Kd.int .i64) 2 w base ok v xs) (i j : Nat) (hij : i ≤ j) (hj : j ≤ xs.length) (hx : 0 < xs.length) :
    Calls Try.prog 62 #[v, .int .i64 i, .int .i64 j] w fun e w' => ∃ v', e = .returned v' ∧ Kd.R (Kd.int .i64) 2 w' base ok v' (xs.take i ++ xs.drop j) ∧ w.grownBy w' v.ownBlock := Kd.delete_int lay_delete h i j hij hj hx


end Go.Proofs.Ytkabmhjnhcfkcaa.XFnExactSerialOrder
