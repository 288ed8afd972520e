/- The machine's side of one law: functions as plain Lean functions, and that the calls do what these say. Written by a program of this session; no condition beyond those that each theorem names. -/
import Derived.Test.YtkabmhjnhcfkcaaXFnExactSerialOrderx0
import Derived.Test.YtkabmhjnhcfkcaaXFnExactSerialOrderx2
import Derived.Test.YtkabmhjnhcfkcaaXFnExactSerialOrderx3
import Derived.Test.YtkabmhjnhcfkcaaXFnExactSerialOrderx10
import Derived.Test.YtkabmhjnhcfkcaaXFnExactSerialOrderx11
import Derived.Test.YtkabmhjnhcfkcaaXFnExactSerialOrderx12
import Derived.Test.YtkabmhjnhcfkcaaXFnExactSerialOrderx13
namespace Go.Proofs.Ytkabmhjnhcfkcaa.XFnExactSerialOrder
open Go.RowKit Go.Proofs.YtkabmhjnhcfkcaaW.PrintWords Go.Proofs.YtkabmhjnhcfkcaaW.PrintLast Go.Proofs.YtkabmhjnhcfkcaaW.PrintMore
attribute [local go_sem] max2_int min2_int max_two min_two max_three min_three max_four min_four   -- for this text's walks alone
set_option linter.unusedVariables false
set_option linter.unusedSimpArgs false

/-! ### impl_SerialOrder: function 27 -/
def edgeB (ll : List Int) (txn : Int) (e : S45) : Bool := e.f1 == txn && (e.f0 != txn && ll.contains e.f0)
set_option maxHeartbeats 4000000 in
theorem impl_SerialOrder_1_1.calls (x : S45) (b1 b2 : Nat) (txn : Int) (AL : Option Addr) (cl : Nat) (ll : List Int) (w : World) (h1 : w.heap[b1]? = some (.cells #[.int .i64 txn] 2 (0, 0))) (h2 : w.heap[b2]? = some (.cells #[.slice AL ll.length cl] 29 (0, 0))) (hrl : Kd.C (Kd.int .i64) w AL ll.length ll) (hcl : ll.length ≤ cl) :
    Calls Try.prog 61 #[.agg #[.int .i64 x.f0, .int .i64 x.f1, .int .i64 x.f2], .pointer (some ⟨b1, 0, none⟩), .pointer (some ⟨b2, 0, none⟩)] w fun e w' => e = .returned (.bool (edgeB ll txn x)) ∧ Below w.heap.size w w' := by
  obtain ⟨f, t, k⟩ := x
  have hu := Try.underlying45
  have HS := Aside0.mk (show edgeB ll txn ⟨f, t, k⟩ = (t == txn && (f != txn && ll.contains f)) from rfl)
  generalize edgeB ll txn ⟨f, t, k⟩ = r at HS ⊢
  have HIn := Aside0.mk (slices_Contains_int64_int64.calls AL cl ll f _ (w.alloc (.cells #[.int .i64 f, .int .i64 t, .int .i64 k] 45)) (Kd.C_alloc hrl _) hcl rfl)
  generalize ll.contains f = cc at HS HIn
  have HB := Aside0.mk (below_alloc (Below.refl w.heap.size w) (.cells #[.int .i64 f, .int .i64 t, .int .i64 k] 45))
  obtain ⟨x0, x1, x2⟩ := cells3 (heap_alloc_new w (.cells #[.int .i64 f, .int .i64 t, .int .i64 k] 45))
  have c1 := cells1 h1
  have c2 := cells1 h2
  have d1 := cells1 (blk_alloc h1 (.cells #[.int .i64 f, .int .i64 t, .int .i64 k] 45))
  have d2 := cells1 (blk_alloc h2 (.cells #[.int .i64 f, .int .i64 t, .int .i64 k] 45))
  clear h1 h2 hrl hcl
  by_cases ca : t = txn
  · subst ca
    by_cases cb : f = t
    · subst cb
      have cb1 : (f != f) = false := by simp
      go_enter Try.func61, Try.ntmps61
      go_wp2
      go_ret
      exact ⟨by rw [HS.out]; simp, HB.out⟩
    · have cb1 : (f != t) = true := bne_iff_ne.2 cb
      clear cb
      go_enter Try.func61, Try.ntmps61
      go_wp2_with (go_at_call 54; refine HIn.out.mono ?_; rintro e w' ⟨rfl, hd⟩)
      go_ret
      exact ⟨by rw [HS.out, cb1]; simp, by obtain ⟨nd, rfl⟩ := hd; exact pw_below_drewN HB.out _⟩
  · have ca1 : (t == txn) = false := beq_eq_false_iff_ne.2 ca
    clear ca
    go_enter Try.func61, Try.ntmps61
    go_wp2
    go_ret
    exact ⟨by rw [HS.out, ca1]; simp, HB.out⟩
def freeB (es : List S45) (ll : List Int) (txn : Int) : Bool := !(es.any (edgeB ll txn))
set_option maxHeartbeats 4000000 in
theorem impl_SerialOrder_1.calls (txn : Int) (b1 b2 : Nat) (AE : Option Addr) (ce : Nat) (es : List S45) (AL : Option Addr) (cl : Nat) (ll : List Int) (w : World) (h1 : w.heap[b1]? = some (.cells #[.slice AE es.length ce] 36 (0, 0))) (h2 : w.heap[b2]? = some (.cells #[.slice AL ll.length cl] 29 (0, 0))) (hre : Kd.C k45 w AE es.length es) (hrl : Kd.C (Kd.int .i64) w AL ll.length ll) (hcl : ll.length ≤ cl) :
    Calls Try.prog 60 #[.int .i64 txn, .pointer (some ⟨b1, 0, none⟩), .pointer (some ⟨b2, 0, none⟩)] w fun e w' => e = .returned (.bool (freeB es ll txn)) ∧ Below w.heap.size w w' := by
  have hb0 : Below w.heap.size w (w.alloc (.cells #[.int .i64 txn] 2)) := below_alloc (Below.refl _ _) _
  have HC := Aside0.mk (impl_Edge_33.calls AE ce es 61 #[.pointer (some ⟨w.heap.size, 0, none⟩), .pointer (some ⟨b2, 0, none⟩)] (edgeB ll txn) (w.alloc (.cells #[.int .i64 txn] 2)) (enters_of Try.func61 (by kernel_rfl) rfl) (Kd.C_below hre hb0)
    (fun W x hx hb => (impl_SerialOrder_1_1.calls x _ _ txn AL cl ll W (blk_below (heap_alloc_new w _) hb) (blk_below (blk_alloc h2 _) hb) (Kd.C_below hrl (below_step hb0 hb)) hcl).mono fun e w' h => ⟨h.1, below_step hb h.2⟩))
  have HS := Aside0.mk (show freeB es ll txn = !(es.any (edgeB ll txn)) from rfl)
  generalize freeB es ll txn = r at HS ⊢
  generalize es.any (edgeB ll txn) = q at HC HS
  have HB := Aside0.mk hb0
  have c1 := cells1 h1
  have l1 := blk_lt h1
  have d1 := cells1 (blk_alloc h1 (.cells #[.int .i64 txn] 2))
  clear hb0 hrl hre hcl h1 h2
  go_enter Try.func60, Try.ntmps60
  go_wp2_with (go_at_call 33; refine HC.out.mono ?_; rintro e w' ⟨rfl, hd⟩)
  go_ret
  exact ⟨by rw [HS.out]; rfl, below_step HB.out hd⟩
def serGo (es : List S45) : Nat → List Int → List Int → Int × List Int
  | 0, _, out => (0, out)
  | n + 1, ll, out => if idxP (freeB es ll) ll < 0 then (9, []) else serGo es n (ll.take (idxP (freeB es ll) ll).toNat ++ ll.drop ((idxP (freeB es ll) ll).toNat + 1)) (out ++ [rd ll (idxP (freeB es ll) ll)])
def serL (l : List S48) : Int × List Int := serGo (edgesL l 32) (commL l).length ((commL l).mergeSort fun x y => decide (x ≤ y)) []
def impl_SerialOrder.f (l : List S48) : Option (Int × List Int) := some (if histCode l = 0 then serL l else (histCode l, []))
set_option maxHeartbeats 8000000 in
set_option maxRecDepth 100000 in
theorem impl_SerialOrder_ok (A0 : Option Addr) (c0 : Nat) (l0 : List S48) (w : World) (hr0 : Kd.C k48 w A0 l0.length l0) (hc0 : l0.length ≤ c0) (hz : histCode l0 = 0) (r1 : Int) (r2 : List Int) (hr : serL l0 = (r1, r2)) :
    Calls Try.prog 27 #[.slice A0 l0.length c0] w fun e w' => ∃ v1_ : Value, e = .returned (.agg #[.int .i64 r1, v1_]) ∧ Kd.R (Kd.int .i64) 2 w' w.heap.size (fun _ => True) v1_ r2 ∧ Below w.heap.size w w' := by
  have hist := fun W h => impl_HistoryFault.calls A0 c0 l0 (histCode l0) W h hc0 rfl
  have hl := histCode_len l0 hz
  rw [hz] at hist
  have HC := Aside0.mk hist
  have HR := Aside0.mk hr0
  have HB0 : Aside0 (Below w.heap.size w (w.alloc (.cells #[.int .i64 0, .slice none 0 0] 31))) := ⟨below_alloc (Below.refl _ _) _⟩
  have hu := Try.underlying31
  obtain ⟨nc, hnc⟩ := impl_committed.ev l0 (by omega)
  have HCo := Aside0.mk (fun W h => impl_committed.calls nc A0 c0 l0 _ W h hc0 (hnc nc (Nat.le_refl _)))
  have HE := Aside0.mk (fun W h => impl_edges.calls A0 c0 l0 (edgesL l0 32) W h hc0 (if_pos (by omega)))
  have HLc := Aside0.mk (show (commL l0).length ≤ l0.length by unfold commL; rw [List.length_map]; exact List.length_filter_le _ _)
  have HLe := Aside0.mk (edgesL_le l0 32)
  unfold serL at hr
  generalize commL l0 = cl0 at HCo HLc hr
  generalize edgesL l0 32 = es at HE HLe hr
  have HRes := Aside0.mk hr
  clear hist hr0 hnc hz hr
  go_enter Try.func27, Try.ntmps27
  go_upto_region 5 with (first | (go_at_call 32; refine (HC.out _ (Kd.C_below HR.out HB0.out)).mono ?_; rintro e w1 ⟨rfl, hb1⟩; have HX1 := Aside0.mk (blk_below (heap_alloc_new w _) hb1); have HB1 := Aside0.mk (below_step HB0.out hb1); clear hb1) | (go_at_call 55; refine (HCo.out _ (Kd.C_below HR.out HB1.out)).mono ?_; rintro e w2 ⟨v2, rfl, hR2, hb2⟩; obtain ⟨A2, c2, rfl⟩ := Kd.R_slice hR2; have HX2 := Aside0.mk (blk_below HX1.out hb2); have HB2 := Aside0.mk (below_step HB1.out hb2); have HO2 := Aside0.mk (Kd.R_bound hR2); have HS2 := Aside0.mk hb2.size; clear hR2 hb2) | (go_at_call 34; refine (HE.out _ (Kd.C_below HR.out HB2.out)).mono ?_; rintro e w3 ⟨v3, rfl, hR3, hb3⟩; obtain ⟨A3, c3, rfl⟩ := Kd.R_slice hR3; have HX3 := Aside0.mk (blk_below HX2.out hb3); have HB3 := Aside0.mk (below_step HB2.out hb3); have HO3 := Aside0.mk hR3; have HO2' := Aside0.mk (Kd.R_below HO2.out hb3); clear hR3 hb3))
  have HX5 : Aside0 ((((w3.alloc (.cells #[] 2)).alloc (.cells #[.slice A2 cl0.length c2] 29)).alloc (.cells #[.slice A3 es.length c3] 36)).heap[w.heap.size]? = some (.cells #[.int .i64 0, .slice none 0 0] 31 (0, 0))) := ⟨blk_alloc (blk_alloc (blk_alloc HX3.out _) _) _⟩
  have HL5 : Aside0 ((((w3.alloc (.cells #[] 2)).alloc (.cells #[.slice A2 cl0.length c2] 29)).alloc (.cells #[.slice A3 es.length c3] 36)).heap[w3.heap.size + 1]? = some (.cells #[.slice A2 cl0.length c2] 29 (0, 0))) := ⟨by have := blk_alloc (heap_alloc_new (w3.alloc (.cells #[] 2)) (.cells #[.slice A2 cl0.length c2] 29)) (.cells #[.slice A3 es.length c3] 36); simpa using this⟩
  have HA5 : Aside0 ((((w3.alloc (.cells #[] 2)).alloc (.cells #[.slice A2 cl0.length c2] 29)).alloc (.cells #[.slice A3 es.length c3] 36)).heap[w3.heap.size + 1 + 1]? = some (.cells #[.slice A3 es.length c3] 36 (0, 0))) := ⟨by have := heap_alloc_new ((w3.alloc (.cells #[] 2)).alloc (.cells #[.slice A2 cl0.length c2] 29)) (.cells #[.slice A3 es.length c3] 36); simpa using this⟩
  have HB5 : Aside0 (Below w.heap.size w (((w3.alloc (.cells #[] 2)).alloc (.cells #[.slice A2 cl0.length c2] 29)).alloc (.cells #[.slice A3 es.length c3] 36))) := ⟨below_alloc (below_alloc (below_alloc HB3.out _) _) _⟩
  have HE5 : Aside0 (Kd.R k45 45 (((w3.alloc (.cells #[] 2)).alloc (.cells #[.slice A2 cl0.length c2] 29)).alloc (.cells #[.slice A3 es.length c3] 36)) w.heap.size (fun _ => True) (.slice A3 es.length c3) es) := ⟨Kd.R_alloc (Kd.R_alloc (Kd.R_alloc (Kd.R_lower HO3.out HB2.out.size) _) _) _⟩
  have HO5 : Aside0 (Kd.R (Kd.int .i64) 2 (((w3.alloc (.cells #[] 2)).alloc (.cells #[.slice A2 cl0.length c2] 29)).alloc (.cells #[.slice A3 es.length c3] 36)) w.heap.size (fun k => some k = (Value.slice A2 cl0.length c2).ownBlock) (.slice A2 cl0.length c2) cl0) := ⟨Kd.R_of_own (Kd.own_of_R (Kd.R_alloc (Kd.R_alloc (Kd.R_alloc (Kd.R_lower HO2'.out HB1.out.size) _) _) _)) (fun k hk => hk.symm)⟩
  have HG : Aside0 (∀ k, w3.heap.size ≤ k → some k ≠ (Value.slice A2 cl0.length c2).ownBlock) := ⟨fun k hk e => by have := Kd.R_lt HO2'.out k e.symm; omega⟩
  have HW5 : Aside0 (Kd.R (Kd.int .i64) 2 (((w3.alloc (.cells #[] 2)).alloc (.cells #[.slice A2 cl0.length c2] 29)).alloc (.cells #[.slice A3 es.length c3] 36)) w.heap.size (fun k => some k ≠ (Value.slice A2 cl0.length c2).ownBlock) (.slice (some ⟨w3.heap.size, 0, none⟩) 0 0) []) := ⟨Kd.R_alloc (Kd.R_alloc (Kd.R_lit0 _ _ _ _ _ HB3.out.size (HG.out _ (Nat.le_refl _))) _) _⟩
  have HG5 : Aside0 (∀ k, (((w3.alloc (.cells #[] 2)).alloc (.cells #[.slice A2 cl0.length c2] 29)).alloc (.cells #[.slice A3 es.length c3] 36)).heap.size ≤ k → some k ≠ (Value.slice A2 cl0.length c2).ownBlock) := ⟨fun k hk => HG.out k (by simp at hk; omega)⟩
  generalize (((w3.alloc (.cells #[] 2)).alloc (.cells #[.slice A2 cl0.length c2] 29)).alloc (.cells #[.slice A3 es.length c3] 36)) = W5 at HX5 HL5 HA5 HB5 HE5 HO5 HW5 HG5 ⊢
  have HS3 := Aside0.mk HB3.out.size
  clear HO2 HO2' HO3 HB0 HB1 HB2 HB3 HX1 HX2 HX3 HG HR HC HCo HE
  generalize (Value.slice A2 cl0.length c2).ownBlock = gL at HO5 HW5 HG5
  have HbL0 : Aside0 (w.heap.size ≤ w3.heap.size + 1) := ⟨Nat.le_succ_of_le HS3.out⟩
  generalize w3.heap.size + 1 = bL at HL5 HA5 HbL0 ⊢
  generalize bL + 1 = bA at HA5 ⊢
  have HSo := Aside0.mk (slices_Sort_int64_int64.calls HO5.out (by have := HLc.out; omega))
  have hh5 := cells1 HL5.out
  go_wp2_with (go_at_call 56; refine HSo.out.mono ?_; rintro e w6 ⟨rfl, hO6, hg6⟩)
  have hnL := fun k (e : some k = gL) => e
  have HX6 := Aside0.mk (blk_grown HX5.out hg6 (Kd.R_ne HO5.out HX5.out (by decide)))
  have HL6 := Aside0.mk (blk_grown HL5.out hg6 (Kd.R_ne HO5.out HL5.out (by decide)))
  have HA6 := Aside0.mk (blk_grown HA5.out hg6 (Kd.R_ne HO5.out HA5.out (by decide)))
  have HB6 := Aside0.mk (pw_below_grown HB5.out _ HB5.out.size hg6 (Kd.R_base HO5.out))
  have HE6 := Aside0.mk (Kd.R_over HE5.out HO5.out (by decide) hg6)
  have HW6 := Aside0.mk (Kd.R_grown HW5.out hg6 (fun k hk e => hk (HO5.out.1 k e.symm)))
  have HG6 : Aside0 (∀ k, w6.heap.size ≤ k → some k ≠ gL) := ⟨fun k hk => HG5.out k (Nat.le_trans hg6.size hk)⟩
  have HO6 := Aside0.mk hO6
  have hsl : (cl0.mergeSort fun x y => decide (x ≤ y)).length = cl0.length := List.length_mergeSort _
  rw [← hsl] at HRes HLc HL6 HO6
  generalize (cl0.mergeSort fun x y => decide (x ≤ y)) = sl at HRes HLc HL6 HO6
  clear HX5 HL5 HA5 HB5 HE5 HW5 HG5 HO5 hg6 hO6 HSo hh5 hsl hnL
  go_loopg [6] sl.length (fun gg s6 wr => ∃ (ll out : List Int) (vL : Value), ll.length ≤ gg ∧ Aside0 (serGo es ll.length ll out = (r1, r2)) ∧ Aside0 (ll.length + out.length ≤ 400) ∧ Aside0 (wr.heap[bL]? = some (.cells #[vL] 29 (0, 0))) ∧ Aside0 (Kd.R (Kd.int .i64) 2 wr w.heap.size (fun k => some k = gL) vL ll) ∧ Aside0 (Kd.R (Kd.int .i64) 2 wr w.heap.size (fun k => some k ≠ gL) s6 out) ∧ Aside0 (wr.heap[w.heap.size]? = some (.cells #[.int .i64 0, .slice none 0 0] 31 (0, 0))) ∧ Aside0 (wr.heap[bA]? = some (.cells #[.slice A3 es.length c3] 36 (0, 0))) ∧ Aside0 (Kd.R k45 45 wr w.heap.size (fun _ => True) (.slice A3 es.length c3) es) ∧ Aside0 (∀ k, wr.heap.size ≤ k → some k ≠ gL) ∧ Aside0 (Below w.heap.size w wr))
  case atStart => exact ⟨sl, [], _, Nat.le_refl _, HRes, ⟨by have := HLc.out; simp; omega⟩, HL6, HO6, HW6, HX6, HA6, HE6, HG6, HB6⟩
  case round =>
    clear HX6 HL6 HA6 HB6 HE6 HW6 HG6 HO6 HRes HLc
    obtain ⟨ll, out, vL, hgl, HRes, HLen, HL, HO, HOut, HX, HA, HE, HG, HB⟩ := hrel
    obtain ⟨AL, cL, rfl, hcL, hCL⟩ := Kd.R_reads HO.out
    have hh := cells1 HL.out
    have ha := cells1 HA.out
    by_cases hpos : 0 < ll.length
    · have hposz : (0 : Int) < ll.length := by omega
      obtain ⟨n, hn⟩ : ∃ n, ll.length = n + 1 := ⟨ll.length - 1, by omega⟩
      have hres := HRes.out
      rw [hn] at hres
      unfold serGo at hres
      have HI := Aside0.mk (slices_IndexFunc_int64_int64.calls AL cL ll 60 #[.pointer (some ⟨bA, 0, none⟩), .pointer (some ⟨bL, 0, none⟩)] (freeB es ll) wr (enters_of Try.func60 (by kernel_rfl) rfl) hCL (fun W x hx hb => (impl_SerialOrder_1.calls x _ _ A3 c3 es AL cL ll W (blk_below HA.out hb) (blk_below HL.out hb) (Kd.C_below (Kd.R_reads' HE.out).2.2 hb) (Kd.C_below hCL hb) hcL).mono fun e w' h => ⟨h.1, below_step hb h.2⟩))
      have hge := idxP_ge (freeB es ll) ll
      generalize idxP (freeB es ll) ll = kk at HI hge hres
      have HN := Aside0.mk hn
      clear hn
      by_cases hk : kk < 0
      · rw [if_pos hk] at hres
        simp only [Prod.mk.injEq] at hres
        obtain ⟨rfl, rfl⟩ := hres
        clear hge
        go_upto_region 9 with (go_at_call 59; refine HI.out.mono ?_; rintro e w7 ⟨rfl, hb7⟩)
        have HX7 := Aside0.mk (blk_below HX.out hb7)
        have HB7 := Aside0.mk (below_step HB.out hb7)
        obtain ⟨hr1, hr2⟩ := cells2 HX7.out
        have hf1 := blk_frozen HX7.out 0
        have hf2 := blk_frozen HX7.out 1
        clear hb7
        go_wp2
        have hs1 := blk_set HX7.out 0 (.int .i64 9)
        have hs2 := blk_set hs1 1 (.slice none 0 0)
        refine bodyPost_ret (results_cell_row rfl _ _ w.heap.size 31 #[.int .i64 9, .slice none 0 0] (0, 0) _ rfl (by simpa using hs2) Try.underlying31 rfl (by kernel_rfl)) rfl ⟨_, rfl, ?_, below_set (below_set HB7.out (by omega)) (by omega)⟩
        exact Kd.R_nil _ _ _ _ _
      · rw [if_neg hk] at hres
        obtain ⟨m, rfl⟩ : ∃ m : Nat, kk = (m : Int) := ⟨kk.toNat, by omega⟩
        have hm : m < ll.length := by omega
        simp only [Int.toNat_natCast] at hres
        have HRe := Aside0.mk hres
        clear hres hge
        go_upto_region 10 with (go_at_call 59; refine HI.out.mono ?_; rintro e w7 ⟨rfl, hb7⟩)
        have HX7 := Aside0.mk (blk_below HX.out hb7)
        have HL7 := Aside0.mk (blk_below HL.out hb7)
        have HA7 := Aside0.mk (blk_below HA.out hb7)
        have HB7 := Aside0.mk (below_step HB.out hb7)
        have HE7 := Aside0.mk (Kd.R_below HE.out hb7)
        have HO7 := Aside0.mk (Kd.R_below HO.out hb7)
        have HOut7 := Aside0.mk (Kd.R_below HOut.out hb7)
        have HG7 : Aside0 (∀ k, w7.heap.size ≤ k → some k ≠ gL) := ⟨fun k hk => HG.out k (Nat.le_trans hb7.size hk)⟩
        obtain ⟨ad, rfl, hx⟩ := Kd.at_int (Kd.R_reads' HO7.out).2.2 (m : Int) (by omega) (by omega)
        clear hb7 HX HL HA HB HE HO HOut HG HI hh ha hCL
        have hh := cells1 HL7.out
        simp only [Int.toNat_natCast] at hx
        have h0m : (0 : Int) ≤ (m : Int) := by omega
        have hml : (m : Int) < (ll.length : Int) := by omega
        generalize rd ll (m : Int) = x at hx HRe
        go_upto_region 11 with (at_builtin; refine Kd.R_append (Kd.int .i64) (w0 := w) w.heap.size rfl (.tmp 30) (.tmp 35) 29 2 (.int .i64 0) 8 rfl Try.underlying29 info2 rfl (by decide) (by omega) u6 out x [.int .i64 x] (fun k => some k ≠ gL) (fun _ => False) rfl rfl ?aP (fun _ hk => hk.elim) ?aF ?aO ?aB ?aS ?aL ?_; (case aP => exact rfl); (case aF => exact HG7.out); (case aO => exact HOut7.out); (case aB => exact HB7.out); (case aS => exact HB7.out.size); (case aL => have := HLen.out; omega); intro v8 w8 ho8 hb8 hg8 hat)
        have HX8 := Aside0.mk (blk_grown HX7.out hg8 (Kd.R_ne HOut7.out HX7.out (by decide)))
        have HL8 := Aside0.mk (blk_grown HL7.out hg8 (Kd.R_ne HOut7.out HL7.out (by decide)))
        have HA8 := Aside0.mk (blk_grown HA7.out hg8 (Kd.R_ne HOut7.out HA7.out (by decide)))
        have HE8 := Aside0.mk (Kd.R_over HE7.out HOut7.out (by decide) hg8)
        have HO8 := Aside0.mk (Kd.R_grown HO7.out hg8 (fun k hk e => HOut7.out.1 k e.symm hk))
        have HG8 : Aside0 (∀ k, w8.heap.size ≤ k → some k ≠ gL) := ⟨fun k hk => HG7.out k (Nat.le_trans hg8.size hk)⟩
        have HB8 := Aside0.mk hb8
        have HOut8 := Aside0.mk ho8
        clear hb8 ho8 hg8 hat HX7 HL7 HA7 HE7 HO7 HG7 HB7 HOut7 hh hx h0m hml
        have hh := cells1 HL8.out
        have HD : Aside0 (∀ j : Int, j = ((m + 1 : Nat) : Int) → Calls Try.prog 62 #[.slice (some ad) ll.length cL, .int .i64 (m : Int), .int .i64 j] w8 fun e w' => ∃ v', e = .returned v' ∧ Kd.R (Kd.int .i64) 2 w' w.heap.size (fun k => some k = gL) v' (ll.take m ++ ll.drop (m + 1)) ∧ w8.grownBy w' (Value.slice (some ad) ll.length cL).ownBlock) := ⟨fun j e => by subst e; exact slices_Delete_int64_int64.calls HO8.out m (m + 1) (by omega) (by omega) (by omega)⟩
        have hl2 : (ll.take m ++ ll.drop (m + 1)).length = n := by have := HN.out; simp; omega
        generalize ll.take m ++ ll.drop (m + 1) = l2 at HD HRe hl2
        have HL2 := Aside0.mk hl2
        clear hl2
        go_wp2_with (go_at_call 62; refine (HD.out _ (wrap_nat m 1000 (by have := HLen.out; omega) (by omega))).mono ?_; rintro e w9 ⟨v9, rfl, ho9, hg9⟩; have HL9 := Aside0.mk (blk_grown HL8.out hg9 (Kd.R_ne HO8.out HL8.out (by decide))); have hh9 := cells1 HL9.out; have hf9 := blk_frozen HL9.out 0; obtain ⟨A9, c9, rfl⟩ := Kd.R_slice ho9)
        have HX9 := Aside0.mk (blk_grown HX8.out hg9 (Kd.R_ne HO8.out HX8.out (by decide)))
        have HA9 := Aside0.mk (blk_grown HA8.out hg9 (Kd.R_ne HO8.out HA8.out (by decide)))
        have HE9 := Aside0.mk (Kd.R_over HE8.out HO8.out (by decide) hg9)
        have HOut9 := Aside0.mk (Kd.R_grown HOut8.out hg9 (fun k hk e => hk (HO8.out.1 k e.symm)))
        have HG9 : Aside0 (∀ k, w9.heap.size ≤ k → some k ≠ gL) := ⟨fun k hk => HG8.out k (Nat.le_trans hg9.size hk)⟩
        have HB9 := Aside0.mk (pw_below_grown HB8.out _ HB8.out.size hg9 (Kd.R_base HO8.out))
        have HbL : Aside0 (w.heap.size ≤ bL) := ⟨HbL0.out⟩
        go_roundg n
        case measure => have := HN.out; omega
        case rel => exact ⟨l2, out ++ [x], _, by rw [HL2.out]; exact Nat.le_refl _, ⟨by rw [HL2.out]; exact HRe.out⟩, ⟨by have := HLen.out; have := HL2.out; have := HN.out; simp; omega⟩, ⟨blk_set HL9.out 0 _⟩, ⟨Kd.R_set ho9 HL9.out (by decide) 0 _⟩, ⟨Kd.R_set HOut9.out HL9.out (by decide) 0 _⟩, ⟨blk_far HX9.out (blk_ne HX9.out HL9.out (by decide)) _⟩, ⟨blk_far HA9.out (blk_ne HA9.out HL9.out (by decide)) _⟩, ⟨Kd.R_set HE9.out HL9.out (by decide) 0 _⟩, ⟨fun k hk => HG9.out k (by simpa using hk)⟩, ⟨below_set HB9.out HbL.out⟩⟩
    · obtain rfl : ll = [] := List.length_eq_zero_iff.1 (by omega)
      have hres := HRes.out
      simp only [serGo, List.length_nil, Prod.mk.injEq] at hres
      obtain ⟨rfl, rfl⟩ := hres
      obtain ⟨A4, c4, rfl, hc4, hC4⟩ := Kd.R_reads HOut.out
      obtain ⟨hr1, hr2⟩ := cells2 HX.out
      have hf1 := blk_frozen HX.out 0
      have hf2 := blk_frozen HX.out 1
      clear hCL hC4
      go_wp2
      have hs1 := blk_set HX.out 0 (.int .i64 0)
      have hs2 := blk_set hs1 1 (.slice A4 out.length c4)
      refine bodyPost_ret (results_cell_row rfl _ _ w.heap.size 31 #[.int .i64 0, .slice A4 out.length c4] (0, 0) _ rfl (by simpa using hs2) Try.underlying31 rfl (by kernel_rfl)) rfl ⟨_, rfl, ?_, below_set (below_set HB.out (by omega)) (by omega)⟩
      exact Kd.R_mono (Kd.R_set (Kd.R_set HOut.out HX.out (by decide) 0 _) hs1 (by decide) 1 _) (fun _ _ => trivial)
set_option maxHeartbeats 4000000 in
theorem impl_SerialOrder.calls (A0 : Option Addr) (c0 : Nat) (l0 : List S48) (r1 : Int) (r2 : List Int) (w : World) (hr0 : Kd.C k48 w A0 l0.length l0) (hc0 : l0.length ≤ c0) (h : impl_SerialOrder.f l0 = some (r1, r2)) :
    Calls Try.prog 27 #[.slice A0 l0.length c0] w fun e w' => ∃ v1_ : Value, e = .returned (.agg #[.int .i64 r1, v1_]) ∧ Kd.R (Kd.int .i64) 2 w' w.heap.size (fun _ => True) v1_ r2 ∧ Below w.heap.size w w' := by
  unfold impl_SerialOrder.f at h
  by_cases hz : histCode l0 = 0
  · rw [if_pos hz] at h
    exact impl_SerialOrder_ok A0 c0 l0 w hr0 hc0 hz r1 r2 (by simpa using h)
  · rw [if_neg hz] at h
    simp only [Option.some.injEq, Prod.mk.injEq] at h
    obtain ⟨rfl, rfl⟩ := h
    have hu := Try.underlying31
    have hb0 : Below w.heap.size w (w.alloc (.cells #[.int .i64 0, .slice none 0 0] 31)) := below_alloc (Below.refl _ _) _
    have hist := impl_HistoryFault.calls A0 c0 l0 (histCode l0) (w.alloc (.cells #[.int .i64 0, .slice none 0 0] 31)) (Kd.C_below hr0 hb0) hc0 rfl
    have hzb : (histCode l0 != 0) = true := bne_iff_ne.2 hz
    generalize histCode l0 = c at hist hzb
    have HC := Aside0.mk hist
    have HB := Aside0.mk hb0
    clear hist hb0 hr0 hc0 hz
    go_enter Try.func27, Try.ntmps27
    go_upto_region 3 with (go_at_call 32; refine HC.out.mono ?_; rintro e w1 ⟨rfl, hb1⟩)
    have hX2 := blk_below (heap_alloc_new w _) hb1
    have hB2 := below_step HB.out hb1
    obtain ⟨hr1, hr2⟩ := cells2 hX2
    have hf1 := blk_frozen hX2 0
    have hf2 := blk_frozen hX2 1
    have HX2 := Aside0.mk hX2
    have HB2 := Aside0.mk hB2
    clear hX2 hB2 hb1
    go_wp2
    have hs1 := blk_set HX2.out 0 (.int .i64 c)
    have hs2 := blk_set hs1 1 (.slice none 0 0)
    refine bodyPost_ret (results_cell_row rfl _ _ w.heap.size 31 #[.int .i64 c, .slice none 0 0] (0, 0) _ rfl (by simpa using hs2) Try.underlying31 rfl (by kernel_rfl)) rfl ⟨_, rfl, ?_, below_set (below_set HB2.out (by omega)) (by omega)⟩
    exact Kd.R_nil _ _ _ _ _


/-! ### laws_FnExactSerialOrder: function 7 -/
def laws_FnExactSerialOrder.j0 : Nat → List (S50) → Bool → Int → List Int → Int → List Int → Option (Bool)
  | 0, _, _, _, _, _, _ => none
  | k + 1, x0, x42, x327000, x327001, x335000, x335001 => if x42 = true then (some false) else ((laws_markIntsResult.f k x335000 x335001 1).bind fun bt343 => ((laws_heldIntsResult.f k x335000 bt343.2 1).bind fun t345 => (if t345 < 0 then (some false) else (if t345 = bt343.1 then ((laws_toHopS.f k x0).bind fun t346 => ((impl_SerialOrder.f t346).bind fun bt349 => ((laws_eqIntsResult.f k bt349.1 bt349.2 x327000 x327001).bind fun t354 => (if t354 = true then ((laws_heldIntsResult.f k x335000 bt343.2 1).bind fun t355 => (if t355 < 0 then (some false) else (if t355 = bt343.1 then (some true) else (some false)))) else (some false))))) else (some false)))))
def laws_FnExactSerialOrder.f (k : Nat) (l0 : List (S50)) : Option (Bool) := (laws_szHopS.f l0 1048576).bind fun t318 => (if t318 < 0 then (some true) else ((laws_toHopS.f k l0).bind fun t319 => ((spec_SerialOrder.f k t319).bind fun bt322 => ((laws_toHopS.f k l0).bind fun t327 => ((impl_SerialOrder.f t327).bind fun bt330 => ((laws_eqIntsResult.f k bt330.1 bt330.2 bt322.1 bt322.2).bind fun t335 => (if t335 = true then ((laws_toHopS.f k l0).bind fun t336 => ((laws_eqHopS.f k t327 t336).bind fun t339 => (if t339 = true then ((laws_markHopS.f k t327 1).bind fun bt340 => (if bt340.1 < 0 then (laws_FnExactSerialOrder.j0 k l0 true bt322.1 bt322.2 bt330.1 bt330.2) else ((laws_eqIntsResult.f k bt330.1 bt330.2 bt322.1 bt322.2).bind fun t342 => (laws_FnExactSerialOrder.j0 k l0 (!t342) bt322.1 bt322.2 bt330.1 bt330.2)))) else (some false)))) else (some false))))))))
theorem laws_FnExactSerialOrder.mono_l : ∀ k, (∀ y0 y1 y2 y3 y4 y5, LeO (laws_FnExactSerialOrder.j0 k y0 y1 y2 y3 y4 y5) (laws_FnExactSerialOrder.j0 (k + 1) y0 y1 y2 y3 y4 y5))
  | 0 => fun _ _ _ _ _ _ r h => by simp [laws_FnExactSerialOrder.j0] at h
  | k + 1 => by
    have ih0 := laws_FnExactSerialOrder.mono_l k
    · intro y0 y1 y2 y3 y4 y5
      unfold laws_FnExactSerialOrder.j0
      repeat' first
      | (with_reducible exact ih0 _ _ _ _ _ _)
      | (with_reducible exact laws_eqHopS.mono _ _ _)
      | (with_reducible exact laws_eqIntsResult.mono _ _ _ _ _)
      | (with_reducible exact laws_heldIntsResult.mono _ _ _ _)
      | (with_reducible exact laws_markHopS.mono _ _ _)
      | (with_reducible exact laws_markIntsResult.mono _ _ _ _)
      | (with_reducible exact laws_toHopS.mono _ _)
      | (with_reducible exact spec_SerialOrder.mono _ _)
      | (with_reducible exact LeO.refl _)
      | (with_reducible exact LeO.none _)
      | (with_reducible refine LeO.ite ?_ ?_)
      | (with_reducible refine LeO.bind ?_ (fun _ => ?_))
      | exact ih0 _ _ _ _ _ _
      | exact laws_eqHopS.mono _ _ _
      | exact laws_eqIntsResult.mono _ _ _ _ _
      | exact laws_heldIntsResult.mono _ _ _ _
      | exact laws_markHopS.mono _ _ _
      | exact laws_markIntsResult.mono _ _ _ _
      | exact laws_toHopS.mono _ _
      | exact spec_SerialOrder.mono _ _
      | exact LeO.none _
      | refine LeO.ite ?_ ?_
      | refine LeO.bind ?_ (fun _ => ?_)
theorem laws_FnExactSerialOrder.mono : ∀ a0 k, LeO (laws_FnExactSerialOrder.f k a0) (laws_FnExactSerialOrder.f (k + 1) a0) := by
  intro a0 k
  have ih0 := laws_FnExactSerialOrder.mono_l k
  unfold laws_FnExactSerialOrder.f
  repeat' first
      | (with_reducible exact ih0 _ _ _ _ _ _)
      | (with_reducible exact laws_eqHopS.mono _ _ _)
      | (with_reducible exact laws_eqIntsResult.mono _ _ _ _ _)
      | (with_reducible exact laws_heldIntsResult.mono _ _ _ _)
      | (with_reducible exact laws_markHopS.mono _ _ _)
      | (with_reducible exact laws_markIntsResult.mono _ _ _ _)
      | (with_reducible exact laws_toHopS.mono _ _)
      | (with_reducible exact spec_SerialOrder.mono _ _)
      | (with_reducible exact LeO.refl _)
      | (with_reducible exact LeO.none _)
      | (with_reducible refine LeO.ite ?_ ?_)
      | (with_reducible refine LeO.bind ?_ (fun _ => ?_))
      | exact ih0 _ _ _ _ _ _
      | exact laws_eqHopS.mono _ _ _
      | exact laws_eqIntsResult.mono _ _ _ _ _
      | exact laws_heldIntsResult.mono _ _ _ _
      | exact laws_markHopS.mono _ _ _
      | exact laws_markIntsResult.mono _ _ _ _
      | exact laws_toHopS.mono _ _
      | exact spec_SerialOrder.mono _ _
      | exact LeO.none _
      | refine LeO.ite ?_ ?_
      | refine LeO.bind ?_ (fun _ => ?_)
set_option maxHeartbeats 8000000 in
set_option maxRecDepth 100000 in
theorem laws_FnExactSerialOrder.calls (k : Nat) (A0 : Option Addr) (c0 : Nat) (l0 : List (S50)) (r : Bool) (w : World) (hr0 : Kd.C k50 w A0 l0.length l0) (hc0 : l0.length ≤ c0) (HRT : Aside0 (r = true)) (h : laws_FnExactSerialOrder.f k l0 = some r) :
    Calls Try.prog 7 #[.slice A0 l0.length c0] w fun e w' => e = .returned (.bool r) ∧ Below w.heap.size w w' := by
  have hu31 := Try.underlying31
  have HR0 := Aside0.mk hr0
  have HC0 := Aside0.mk hc0
  clear hr0 hc0
  have HB := Aside0.mk (Below.refl w.heap.size w)
  have H : ((laws_szHopS.f l0 1048576).bind fun t318 => (if t318 < 0 then (some true) else ((laws_toHopS.f k l0).bind fun t319 => ((spec_SerialOrder.f k t319).bind fun bt322 => ((laws_toHopS.f k l0).bind fun t327 => ((impl_SerialOrder.f t327).bind fun bt330 => ((laws_eqIntsResult.f k bt330.1 bt330.2 bt322.1 bt322.2).bind fun t335 => (if t335 = true then ((laws_toHopS.f k l0).bind fun t336 => ((laws_eqHopS.f k t327 t336).bind fun t339 => (if t339 = true then ((laws_markHopS.f k t327 1).bind fun bt340 => (if bt340.1 < 0 then (laws_FnExactSerialOrder.j0 k l0 true bt322.1 bt322.2 bt330.1 bt330.2) else ((laws_eqIntsResult.f k bt330.1 bt330.2 bt322.1 bt322.2).bind fun t342 => (laws_FnExactSerialOrder.j0 k l0 (!t342) bt322.1 bt322.2 bt330.1 bt330.2)))) else (some false)))) else (some false))))))))) = some r := h
  clear h
  replace H := Option.bind_eq_some_iff.mp H
  obtain ⟨t318, A20, H⟩ := H
  replace H : (if t318 < 0 then (some true) else ((laws_toHopS.f k l0).bind fun t319 => ((spec_SerialOrder.f k t319).bind fun bt322 => ((laws_toHopS.f k l0).bind fun t327 => ((impl_SerialOrder.f t327).bind fun bt330 => ((laws_eqIntsResult.f k bt330.1 bt330.2 bt322.1 bt322.2).bind fun t335 => (if t335 = true then ((laws_toHopS.f k l0).bind fun t336 => ((laws_eqHopS.f k t327 t336).bind fun t339 => (if t339 = true then ((laws_markHopS.f k t327 1).bind fun bt340 => (if bt340.1 < 0 then (laws_FnExactSerialOrder.j0 k l0 true bt322.1 bt322.2 bt330.1 bt330.2) else ((laws_eqIntsResult.f k bt330.1 bt330.2 bt322.1 bt322.2).bind fun t342 => (laws_FnExactSerialOrder.j0 k l0 (!t342) bt322.1 bt322.2 bt330.1 bt330.2)))) else (some false)))) else (some false)))))))) = some r := H
  have A2 := Aside0.mk A20
  clear A20
  by_cases c3 : t318 < 0
  · rw [if_pos c3] at H
    have c3b0 : decide (t318 < 0) = true := decide_eq_true c3
    clear c3
    obtain rfl := Option.some.inj H
    go_enter Try.func7, Try.ntmps7
    go_wp2_with (first | ((with_reducible refine gate_callee (f := 8) rfl ?_); refine goesL_ (some 13) rfl rfl Try.func8 (by kernel_rfl) rfl #[.slice A0 l0.length c0, .int .i64 1048576] rfl (by (try simp only [List.map_toArray, List.map_cons, List.map_nil]); first | done | rfl | (simp only [List.length_drop, List.length_take]; rfl)) ?_; (with_reducible refine (laws_szHopS.calls _ _ l0 1048576 t318 _ ?side1 ?side2 A2.out).mono ?_); (case side1 => repeat (first | exact HR0.out | (with_reducible refine Kd.C_alloc ?_ _) | (with_reducible refine Kd.C_drewN ?_ _) | (with_reducible refine Kd.C_drew ?_))); (case side2 => exact HC0.out); rintro e w' ⟨rfl, ⟨nd, rfl⟩⟩; refine ⟨_, rfl, ?_⟩))
    go_ret
    exact ⟨by first | rfl | (simp [errW_none, errW_some] <;> rfl) | (simp [*, errW_none, errW_some] <;> rfl), by repeat (first | (with_reducible first | exact HB.out | apply below_alloc | apply pw_below_drewN | apply below_drew1) | exact HB.out)⟩
  · rw [if_neg c3] at H
    have c3b0 : decide (t318 < 0) = false := decide_eq_false c3
    clear c3
    replace H := Option.bind_eq_some_iff.mp H
    obtain ⟨t319, A40, H⟩ := H
    replace H : ((spec_SerialOrder.f k t319).bind fun bt322 => ((laws_toHopS.f k l0).bind fun t327 => ((impl_SerialOrder.f t327).bind fun bt330 => ((laws_eqIntsResult.f k bt330.1 bt330.2 bt322.1 bt322.2).bind fun t335 => (if t335 = true then ((laws_toHopS.f k l0).bind fun t336 => ((laws_eqHopS.f k t327 t336).bind fun t339 => (if t339 = true then ((laws_markHopS.f k t327 1).bind fun bt340 => (if bt340.1 < 0 then (laws_FnExactSerialOrder.j0 k l0 true bt322.1 bt322.2 bt330.1 bt330.2) else ((laws_eqIntsResult.f k bt330.1 bt330.2 bt322.1 bt322.2).bind fun t342 => (laws_FnExactSerialOrder.j0 k l0 (!t342) bt322.1 bt322.2 bt330.1 bt330.2)))) else (some false)))) else (some false)))))) = some r := H
    have A4 := Aside0.mk A40
    clear A40
    replace H := Option.bind_eq_some_iff.mp H
    obtain ⟨⟨t322, t323⟩, A50, H⟩ := H
    replace H : ((laws_toHopS.f k l0).bind fun t327 => ((impl_SerialOrder.f t327).bind fun bt330 => ((laws_eqIntsResult.f k bt330.1 bt330.2 t322 t323).bind fun t335 => (if t335 = true then ((laws_toHopS.f k l0).bind fun t336 => ((laws_eqHopS.f k t327 t336).bind fun t339 => (if t339 = true then ((laws_markHopS.f k t327 1).bind fun bt340 => (if bt340.1 < 0 then (laws_FnExactSerialOrder.j0 k l0 true t322 t323 bt330.1 bt330.2) else ((laws_eqIntsResult.f k bt330.1 bt330.2 t322 t323).bind fun t342 => (laws_FnExactSerialOrder.j0 k l0 (!t342) t322 t323 bt330.1 bt330.2)))) else (some false)))) else (some false))))) = some r := H
    have A5 := Aside0.mk A50
    clear A50
    replace H := Option.bind_eq_some_iff.mp H
    obtain ⟨t327, A60, H⟩ := H
    replace H : ((impl_SerialOrder.f t327).bind fun bt330 => ((laws_eqIntsResult.f k bt330.1 bt330.2 t322 t323).bind fun t335 => (if t335 = true then ((laws_toHopS.f k l0).bind fun t336 => ((laws_eqHopS.f k t327 t336).bind fun t339 => (if t339 = true then ((laws_markHopS.f k t327 1).bind fun bt340 => (if bt340.1 < 0 then (laws_FnExactSerialOrder.j0 k l0 true t322 t323 bt330.1 bt330.2) else ((laws_eqIntsResult.f k bt330.1 bt330.2 t322 t323).bind fun t342 => (laws_FnExactSerialOrder.j0 k l0 (!t342) t322 t323 bt330.1 bt330.2)))) else (some false)))) else (some false)))) = some r := H
    have A6 := Aside0.mk A60
    clear A60
    replace H := Option.bind_eq_some_iff.mp H
    obtain ⟨⟨t330, t331⟩, A70, H⟩ := H
    replace H : ((laws_eqIntsResult.f k t330 t331 t322 t323).bind fun t335 => (if t335 = true then ((laws_toHopS.f k l0).bind fun t336 => ((laws_eqHopS.f k t327 t336).bind fun t339 => (if t339 = true then ((laws_markHopS.f k t327 1).bind fun bt340 => (if bt340.1 < 0 then (laws_FnExactSerialOrder.j0 k l0 true t322 t323 t330 t331) else ((laws_eqIntsResult.f k t330 t331 t322 t323).bind fun t342 => (laws_FnExactSerialOrder.j0 k l0 (!t342) t322 t323 t330 t331)))) else (some false)))) else (some false))) = some r := H
    have A7 := Aside0.mk A70
    clear A70
    replace H := Option.bind_eq_some_iff.mp H
    obtain ⟨t335, A80, H⟩ := H
    replace H : (if t335 = true then ((laws_toHopS.f k l0).bind fun t336 => ((laws_eqHopS.f k t327 t336).bind fun t339 => (if t339 = true then ((laws_markHopS.f k t327 1).bind fun bt340 => (if bt340.1 < 0 then (laws_FnExactSerialOrder.j0 k l0 true t322 t323 t330 t331) else ((laws_eqIntsResult.f k t330 t331 t322 t323).bind fun t342 => (laws_FnExactSerialOrder.j0 k l0 (!t342) t322 t323 t330 t331)))) else (some false)))) else (some false)) = some r := H
    have A8 := Aside0.mk A80
    clear A80
    by_cases c9 : t335 = true
    · subst c9
      have H1 : ((laws_toHopS.f k l0).bind fun t336 => ((laws_eqHopS.f k t327 t336).bind fun t339 => (if t339 = true then ((laws_markHopS.f k t327 1).bind fun bt340 => (if bt340.1 < 0 then (laws_FnExactSerialOrder.j0 k l0 true t322 t323 t330 t331) else ((laws_eqIntsResult.f k t330 t331 t322 t323).bind fun t342 => (laws_FnExactSerialOrder.j0 k l0 (!t342) t322 t323 t330 t331)))) else (some false)))) = some r := by rw [if_pos rfl] at H; exact H
      clear H
      have H := H1
      clear H1
      replace H := Option.bind_eq_some_iff.mp H
      obtain ⟨t336, A100, H⟩ := H
      replace H : ((laws_eqHopS.f k t327 t336).bind fun t339 => (if t339 = true then ((laws_markHopS.f k t327 1).bind fun bt340 => (if bt340.1 < 0 then (laws_FnExactSerialOrder.j0 k l0 true t322 t323 t330 t331) else ((laws_eqIntsResult.f k t330 t331 t322 t323).bind fun t342 => (laws_FnExactSerialOrder.j0 k l0 (!t342) t322 t323 t330 t331)))) else (some false))) = some r := H
      have A10 := Aside0.mk A100
      clear A100
      replace H := Option.bind_eq_some_iff.mp H
      obtain ⟨t339, A110, H⟩ := H
      replace H : (if t339 = true then ((laws_markHopS.f k t327 1).bind fun bt340 => (if bt340.1 < 0 then (laws_FnExactSerialOrder.j0 k l0 true t322 t323 t330 t331) else ((laws_eqIntsResult.f k t330 t331 t322 t323).bind fun t342 => (laws_FnExactSerialOrder.j0 k l0 (!t342) t322 t323 t330 t331)))) else (some false)) = some r := H
      have A11 := Aside0.mk A110
      clear A110
      by_cases c12 : t339 = true
      · subst c12
        have H1 : ((laws_markHopS.f k t327 1).bind fun bt340 => (if bt340.1 < 0 then (laws_FnExactSerialOrder.j0 k l0 true t322 t323 t330 t331) else ((laws_eqIntsResult.f k t330 t331 t322 t323).bind fun t342 => (laws_FnExactSerialOrder.j0 k l0 (!t342) t322 t323 t330 t331)))) = some r := by rw [if_pos rfl] at H; exact H
        clear H
        have H := H1
        clear H1
        replace H := Option.bind_eq_some_iff.mp H
        obtain ⟨⟨t340, t341⟩, A130, H⟩ := H
        replace H : (if t340 < 0 then (laws_FnExactSerialOrder.j0 k l0 true t322 t323 t330 t331) else ((laws_eqIntsResult.f k t330 t331 t322 t323).bind fun t342 => (laws_FnExactSerialOrder.j0 k l0 (!t342) t322 t323 t330 t331))) = some r := H
        have A13 := Aside0.mk A130
        clear A130
        have HC14 := Aside0.mk H
        clear H
        go_enter Try.func7, Try.ntmps7
        go_upto_region 14 with (first | ((with_reducible refine gate_callee (f := 8) rfl ?_); refine goesL_ (some 13) rfl rfl Try.func8 (by kernel_rfl) rfl #[.slice A0 l0.length c0, .int .i64 1048576] rfl (by (try simp only [List.map_toArray, List.map_cons, List.map_nil]); first | done | rfl | (simp only [List.length_drop, List.length_take]; rfl)) ?_; (with_reducible refine (laws_szHopS.calls _ _ l0 1048576 t318 _ ?side1 ?side2 A2.out).mono ?_); (case side1 => repeat (first | exact HR0.out | (with_reducible refine Kd.C_alloc ?_ _) | (with_reducible refine Kd.C_drewN ?_ _) | (with_reducible refine Kd.C_drew ?_))); (case side2 => exact HC0.out); rintro e w' ⟨rfl, ⟨nd, rfl⟩⟩; refine ⟨_, rfl, ?_⟩) | ((with_reducible refine gate_callee (f := 10) rfl ?_); refine goesL_ (some 17) rfl rfl Try.func10 (by kernel_rfl) rfl #[.slice A0 l0.length c0] rfl (by (try simp only [List.map_toArray, List.map_cons, List.map_nil]); first | done | rfl | (simp only [List.length_drop, List.length_take]; rfl)) ?_; (with_reducible refine (laws_toHopS.calls k _ _ l0 t319 _ ?side1 ?side2 A4.out).mono ?_); (case side1 => repeat (first | exact HR0.out | (with_reducible refine Kd.C_alloc ?_ _) | (with_reducible refine Kd.C_drewN ?_ _) | (with_reducible refine Kd.C_drew ?_))); (case side2 => exact HC0.out); rintro e w15 ⟨v320, rfl, ho0, hb⟩; refine ⟨_, rfl, ?_⟩; have n0_ := Aside0.mk (Kd.R_lower ho0 (below_size bo)); have n1_ := Aside0.mk (below_step bo hb); clear HB; have HO321 := n0_; have HB := n1_; clear n0_ n1_; (try clear hb); (try clear hb2); (try clear hk); (try clear hi); (try clear ho0); obtain ⟨Ao16, co16, eo16⟩ := Kd.R_slice HO321.out; subst eo16) | ((with_reducible refine gate_callee (f := 26) rfl ?_); refine goesL_ (some 18) rfl rfl Try.func26 (by kernel_rfl) rfl #[.slice Ao16 t319.length co16] rfl (by (try simp only [List.map_toArray, List.map_cons, List.map_nil]); first | done | rfl | (simp only [List.length_drop, List.length_take]; rfl)) ?_; (with_reducible refine (spec_SerialOrder.calls k _ _ t319 t322 t323 _ ?side1 ?side2 A5.out).mono ?_); (case side1 => repeat (first | exact (Kd.R_reads' HO321.out).2.2 | (with_reducible refine Kd.C_alloc ?_ _) | (with_reducible refine Kd.C_drewN ?_ _) | (with_reducible refine Kd.C_drew ?_))); (case side2 => exact (Kd.R_reads' HO321.out).2.1); rintro e w17 ⟨v324, rfl, ho0, hb⟩; refine ⟨_, rfl, ?_⟩; have n0_ := Aside0.mk (Kd.R_below (by (with_reducible repeat (first | apply Kd.R_alloc | apply Kd.R_drewN | apply Kd.R_drew)); exact HO321.out) hb); have n1_ := Aside0.mk (Kd.R_lower ho0 (below_size bo)); have n2_ := Aside0.mk (below_step bo hb); clear HO321; clear HB; have HO321 := n0_; have HO325 := n1_; have HB := n2_; clear n0_ n1_ n2_; (try clear hb); (try clear hb2); (try clear hk); (try clear hi); (try clear ho0)) | ((with_reducible refine gate_dst (N := 4) rfl ?_); refine box_event ?hg (N := 4) ?hd (cs := #[.int .i64 0, .slice none 0 0]) (t := 31) ?hr ?_; (case hd => rfl); (case hg => rfl); (case hr => first | (go_simp; done) | (go_simp; rfl)); intro gb326 hg w18 hbox hb; have n0_ := Aside0.mk (Kd.R_below (by (with_reducible repeat (first | apply Kd.R_alloc | apply Kd.R_drewN | apply Kd.R_drew)); exact HO321.out) hb); have n1_ := Aside0.mk (Kd.R_below (by (with_reducible repeat (first | apply Kd.R_alloc | apply Kd.R_drewN | apply Kd.R_drew)); exact HO325.out) hb); have n2_ := Aside0.mk (below_step bo hb); have n3_ := Aside0.mk (hbox); have n4_ := Aside0.mk ((by rw [hg]; exact (below_size bo) : w.heap.size ≤ gb326)); have n5_ := Aside0.mk ((by rw [hg]; exact (below_size bo) : w.heap.size ≤ gb326)); clear HO321; clear HO325; clear HB; have HO321 := n0_; have HO325 := n1_; have HB := n2_; have BK326 := n3_; have GW326 := n4_; have GE326 := n5_; clear n0_ n1_ n2_ n3_ n4_ n5_; clear hb hbox hg; have hcz19_0 : w18.cell? ⟨gb326, 0, none⟩ = some (.int .i64 0) := (blk_cell BK326.out 0).trans rfl; have hcz19_1 : w18.cell? ⟨gb326, 1, none⟩ = some (.slice none 0 0) := (blk_cell BK326.out 1).trans rfl; have hfz19_0 := blk_frozen BK326.out 0; have hfz19_1 := blk_frozen BK326.out 1; obtain ⟨Ao20, co20, eo20⟩ := Kd.R_slice HO325.out; subst eo20) | ((with_reducible refine gate_callee (f := 10) rfl ?_); refine goesL_ (some 20) rfl rfl Try.func10 (by kernel_rfl) rfl #[.slice A0 l0.length c0] rfl (by (try simp only [List.map_toArray, List.map_cons, List.map_nil]); first | done | rfl | (simp only [List.length_drop, List.length_take]; rfl)) ?_; (with_reducible refine (laws_toHopS.calls k _ _ l0 t327 _ ?side1 ?side2 A6.out).mono ?_); (case side1 => exact Kd.C_below HR0.out (by repeat (first | (with_reducible first | exact HB.out | apply below_alloc | apply pw_below_drewN | apply below_drew1 | refine below_set ?_ GE326.out) | exact HB.out))); (case side2 => exact HC0.out); rintro e w21 ⟨v328, rfl, ho0, hb⟩; refine ⟨_, rfl, ?_⟩; have n0_ := Aside0.mk (Kd.R_elder' (by (with_reducible repeat (first | apply Kd.R_alloc | apply Kd.R_drewN | apply Kd.R_drew)); exact (Kd.R_mono (Kd.R_far (p := ⟨gb326, 1, none⟩) (Kd.R_far (p := ⟨gb326, 0, none⟩) (Kd.R_types HO321.out BK326.out (by decide)) (fun _ hk => hk.2) (.int .i64 t322)) (fun _ hk => hk.2) (.slice Ao20 t323.length co20)) (fun _ h_ => h_.1))) (Kd.R_base ho0) hb); have n1_ := Aside0.mk (Kd.R_below (by (with_reducible repeat (first | apply Kd.R_alloc | apply Kd.R_drewN | apply Kd.R_drew)); exact (Kd.R_mono (Kd.R_far (p := ⟨gb326, 1, none⟩) (Kd.R_far (p := ⟨gb326, 0, none⟩) (Kd.R_types HO325.out BK326.out (by decide)) (fun _ hk => hk.2) (.int .i64 t322)) (fun _ hk => hk.2) (.slice Ao20 t323.length co20)) (fun _ h_ => h_.1))) hb); have n2_ := Aside0.mk (Kd.R_lower (Kd.R_new' ho0 (Kd.R_lt (by (with_reducible repeat (first | apply Kd.R_alloc | apply Kd.R_drewN | apply Kd.R_drew)); exact (Kd.R_mono (Kd.R_far (p := ⟨gb326, 1, none⟩) (Kd.R_far (p := ⟨gb326, 0, none⟩) (Kd.R_types HO321.out BK326.out (by decide)) (fun _ hk => hk.2) (.int .i64 t322)) (fun _ hk => hk.2) (.slice Ao20 t323.length co20)) (fun _ h_ => h_.1))))) (below_size (by repeat (first | (with_reducible first | exact HB.out | apply below_alloc | apply pw_below_drewN | apply below_drew1 | refine below_set ?_ GE326.out) | exact HB.out)))); have n3_ := Aside0.mk (blk_below (g := gb326) (o := .cells #[.int .i64 t322, .slice Ao20 t323.length co20] 31 (0, 0)) (by (with_reducible repeat (first | refine blk_drewN ?_ _ | refine blk_drew ?_ | refine blk_alloc ?_ _)); refine blk_put (cs := #[.int .i64 t322, .slice none 0 0]) ?_ 1 _ rfl; (with_reducible repeat (first | refine blk_drewN ?_ _ | refine blk_drew ?_ | refine blk_alloc ?_ _)); refine blk_put (cs := #[.int .i64 0, .slice none 0 0]) ?_ 0 _ rfl; (with_reducible repeat (first | refine blk_drewN ?_ _ | refine blk_drew ?_ | refine blk_alloc ?_ _)); exact BK326.out) hb); have n4_ := Aside0.mk (below_step (by repeat (first | (with_reducible first | exact HB.out | apply below_alloc | apply pw_below_drewN | apply below_drew1 | refine below_set ?_ GE326.out) | exact HB.out)) hb); clear HO321; clear HO325; clear BK326; clear HB; have HO321 := n0_; have HO325 := n1_; have HO329 := n2_; have BK326 := n3_; have HB := n4_; clear n0_ n1_ n2_ n3_ n4_; (try clear hb); (try clear hb2); (try clear hk); (try clear hi); (try clear ho0); obtain ⟨Ao22, co22, eo22⟩ := Kd.R_slice HO329.out; subst eo22) | ((with_reducible refine gate_callee (f := 27) rfl ?_); refine goesL_ (some 22) rfl rfl Try.func27 (by kernel_rfl) rfl #[.slice Ao22 t327.length co22] rfl (by (try simp only [List.map_toArray, List.map_cons, List.map_nil]); first | done | rfl | (simp only [List.length_drop, List.length_take]; rfl)) ?_; (with_reducible refine (impl_SerialOrder.calls _ _ t327 t330 t331 _ ?side1 ?side2 A7.out).mono ?_); (case side1 => repeat (first | exact (Kd.R_reads' HO329.out).2.2 | (with_reducible refine Kd.C_alloc ?_ _) | (with_reducible refine Kd.C_drewN ?_ _) | (with_reducible refine Kd.C_drew ?_))); (case side2 => exact (Kd.R_reads' HO329.out).2.1); rintro e w23 ⟨v332, rfl, ho0, hb⟩; refine ⟨_, rfl, ?_⟩; have n0_ := Aside0.mk (Kd.R_below (by (with_reducible repeat (first | apply Kd.R_alloc | apply Kd.R_drewN | apply Kd.R_drew)); exact HO321.out) hb); have n1_ := Aside0.mk (Kd.R_elder' (by (with_reducible repeat (first | apply Kd.R_alloc | apply Kd.R_drewN | apply Kd.R_drew)); exact HO325.out) (Kd.R_base ho0) hb); have n2_ := Aside0.mk (Kd.R_below (by (with_reducible repeat (first | apply Kd.R_alloc | apply Kd.R_drewN | apply Kd.R_drew)); exact HO329.out) hb); have n3_ := Aside0.mk (Kd.R_lower (Kd.R_new' ho0 (Kd.R_lt (by (with_reducible repeat (first | apply Kd.R_alloc | apply Kd.R_drewN | apply Kd.R_drew)); exact HO325.out))) (below_size (by repeat (first | (with_reducible first | exact HB.out | apply below_alloc | apply pw_below_drewN | apply below_drew1 | refine below_set ?_ GE326.out) | exact HB.out)))); have n4_ := Aside0.mk (blk_below (g := gb326) (o := .cells #[.int .i64 t322, .slice Ao20 t323.length co20] 31 (0, 0)) (by (with_reducible repeat (first | refine blk_drewN ?_ _ | refine blk_drew ?_ | refine blk_alloc ?_ _)); exact BK326.out) hb); have n5_ := Aside0.mk (below_step (by repeat (first | (with_reducible first | exact HB.out | apply below_alloc | apply pw_below_drewN | apply below_drew1 | refine below_set ?_ GE326.out) | exact HB.out)) hb); clear HO321; clear HO325; clear HO329; clear BK326; clear HB; have HO321 := n0_; have HO325 := n1_; have HO329 := n2_; have HO333 := n3_; have BK326 := n4_; have HB := n5_; clear n0_ n1_ n2_ n3_ n4_ n5_; (try clear hb); (try clear hb2); (try clear hk); (try clear hi); (try clear ho0)) | ((with_reducible refine gate_dst (N := 6) rfl ?_); refine box_event ?hg (N := 6) ?hd (cs := #[.int .i64 0, .slice none 0 0]) (t := 31) ?hr ?_; (case hd => rfl); (case hg => rfl); (case hr => first | (go_simp; done) | (go_simp; rfl)); intro gb334 hg w24 hbox hb; have n0_ := Aside0.mk (Kd.R_below (by (with_reducible repeat (first | apply Kd.R_alloc | apply Kd.R_drewN | apply Kd.R_drew)); exact HO321.out) hb); have n1_ := Aside0.mk (Kd.R_below (by (with_reducible repeat (first | apply Kd.R_alloc | apply Kd.R_drewN | apply Kd.R_drew)); exact HO325.out) hb); have n2_ := Aside0.mk (Kd.R_below (by (with_reducible repeat (first | apply Kd.R_alloc | apply Kd.R_drewN | apply Kd.R_drew)); exact HO329.out) hb); have n3_ := Aside0.mk (Kd.R_below (by (with_reducible repeat (first | apply Kd.R_alloc | apply Kd.R_drewN | apply Kd.R_drew)); exact HO333.out) hb); have n4_ := Aside0.mk (blk_below (g := gb326) (o := .cells #[.int .i64 t322, .slice Ao20 t323.length co20] 31 (0, 0)) (by (with_reducible repeat (first | refine blk_drewN ?_ _ | refine blk_drew ?_ | refine blk_alloc ?_ _)); exact BK326.out) hb); have n5_ := Aside0.mk (below_step (by repeat (first | (with_reducible first | exact HB.out | apply below_alloc | apply pw_below_drewN | apply below_drew1 | refine below_set ?_ GE326.out) | exact HB.out)) hb); have n6_ := Aside0.mk (hbox); have n7_ := Aside0.mk ((by rw [hg]; exact (below_size (by repeat (first | (with_reducible first | exact HB.out | apply below_alloc | apply pw_below_drewN | apply below_drew1 | refine below_set ?_ GE326.out) | exact HB.out))) : w.heap.size ≤ gb334)); have n8_ := Aside0.mk ((by rw [hg]; exact (below_size (by repeat (first | (with_reducible first | exact HB.out | apply below_alloc | apply pw_below_drewN | apply below_drew1 | refine below_set ?_ GE326.out) | exact HB.out))) : w.heap.size ≤ gb334)); have n9_ := Aside0.mk ((by rw [hg]; exact Nat.ne_of_lt (blk_lt (g := gb326) (o := .cells #[.int .i64 t322, .slice Ao20 t323.length co20] 31 (0, 0)) (by (with_reducible repeat (first | refine blk_drewN ?_ _ | refine blk_drew ?_ | refine blk_alloc ?_ _)); exact BK326.out)) : gb326 ≠ gb334)); have n10_ := Aside0.mk ((by rw [hg]; exact Nat.ne_of_gt (blk_lt (g := gb326) (o := .cells #[.int .i64 t322, .slice Ao20 t323.length co20] 31 (0, 0)) (by (with_reducible repeat (first | refine blk_drewN ?_ _ | refine blk_drew ?_ | refine blk_alloc ?_ _)); exact BK326.out)) : gb334 ≠ gb326)); clear HO321; clear HO325; clear HO329; clear HO333; clear BK326; clear HB; have HO321 := n0_; have HO325 := n1_; have HO329 := n2_; have HO333 := n3_; have BK326 := n4_; have HB := n5_; have BK334 := n6_; have GW334 := n7_; have GE334 := n8_; have NB326_334 := n9_; have NB334_326 := n10_; clear n0_ n1_ n2_ n3_ n4_ n5_ n6_ n7_ n8_ n9_ n10_; clear hb hbox hg; have hnb25 := NB334_326.out; have hnc25 := NB326_334.out; have hcz26_0 : w24.cell? ⟨gb334, 0, none⟩ = some (.int .i64 0) := (blk_cell BK334.out 0).trans rfl; have hcz26_1 : w24.cell? ⟨gb334, 1, none⟩ = some (.slice none 0 0) := (blk_cell BK334.out 1).trans rfl; have hfz26_0 := blk_frozen BK334.out 0; have hfz26_1 := blk_frozen BK334.out 1; obtain ⟨Ao27, co27, eo27⟩ := Kd.R_slice HO333.out; subst eo27; have hcz28_0 : w24.cell? ⟨gb326, 0, none⟩ = some (.int .i64 t322) := (blk_cell BK326.out 0).trans rfl; have hcz28_1 : w24.cell? ⟨gb326, 1, none⟩ = some (.slice Ao20 t323.length co20) := (blk_cell BK326.out 1).trans rfl; have hfz28_0 := blk_frozen BK326.out 0; have hfz28_1 := blk_frozen BK326.out 1) | ((with_reducible refine gate_callee (f := 15) rfl ?_); refine goesL_ (some 25) rfl rfl Try.func15 (by kernel_rfl) rfl #[.agg #[.int .i64 t330, .slice Ao27 t331.length co27], .agg #[.int .i64 t322, .slice Ao20 t323.length co20]] rfl (by (try simp only [List.map_toArray, List.map_cons, List.map_nil]); first | done | rfl | (simp only [List.length_drop, List.length_take]; rfl)) ?_; (with_reducible refine (laws_eqIntsResult.calls k t330 _ _ t331 t322 _ _ t323 true _ ?side1 ?side2 ?side3 ?side4 A8.out).mono ?_); (case side1 => refine (Kd.R_reads' (e := 2) (base := w.heap.size) (ok := fun k_ => (True ∧ some k_ ≠ (.slice Ao20 t323.length co20 : Value).ownBlock)) (n := t331.length) (c := co27) ?_).2.2; exact (by (with_reducible repeat (first | apply Kd.R_alloc | apply Kd.R_drewN | apply Kd.R_drew)); exact (Kd.R_mono (Kd.R_far (p := ⟨gb334, 1, none⟩) (Kd.R_far (p := ⟨gb334, 0, none⟩) (Kd.R_types HO333.out BK334.out (by decide)) (fun _ hk => hk.2) (.int .i64 t330)) (fun _ hk => hk.2) (.slice Ao27 t331.length co27)) (fun _ h_ => h_.1)))); (case side2 => exact (Kd.R_reads' HO333.out).2.1); (case side3 => refine (Kd.R_reads' (e := 2) (base := w.heap.size) (ok := fun k_ => (True ∧ some k_ ≠ (.slice Ao27 t331.length co27 : Value).ownBlock)) (n := t323.length) (c := co20) ?_).2.2; exact (by (with_reducible repeat (first | apply Kd.R_alloc | apply Kd.R_drewN | apply Kd.R_drew)); exact (Kd.R_mono (Kd.R_far (p := ⟨gb334, 1, none⟩) (Kd.R_far (p := ⟨gb334, 0, none⟩) (Kd.R_types HO325.out BK334.out (by decide)) (fun _ hk => hk.2) (.int .i64 t330)) (fun _ hk => hk.2) (.slice Ao27 t331.length co27)) (fun _ h_ => h_.1)))); (case side4 => exact (Kd.R_reads' HO325.out).2.1); rintro e w29 ⟨rfl, hb⟩; refine ⟨_, rfl, ?_⟩; have n0_ := Aside0.mk (Kd.R_below (by (with_reducible repeat (first | apply Kd.R_alloc | apply Kd.R_drewN | apply Kd.R_drew)); exact (Kd.R_mono (Kd.R_far (p := ⟨gb334, 1, none⟩) (Kd.R_far (p := ⟨gb334, 0, none⟩) (Kd.R_types HO321.out BK334.out (by decide)) (fun _ hk => hk.2) (.int .i64 t330)) (fun _ hk => hk.2) (.slice Ao27 t331.length co27)) (fun _ h_ => h_.1))) hb); have n1_ := Aside0.mk (Kd.R_below (by (with_reducible repeat (first | apply Kd.R_alloc | apply Kd.R_drewN | apply Kd.R_drew)); exact (Kd.R_mono (Kd.R_far (p := ⟨gb334, 1, none⟩) (Kd.R_far (p := ⟨gb334, 0, none⟩) (Kd.R_types HO325.out BK334.out (by decide)) (fun _ hk => hk.2) (.int .i64 t330)) (fun _ hk => hk.2) (.slice Ao27 t331.length co27)) (fun _ h_ => h_.1))) hb); have n2_ := Aside0.mk (Kd.R_below (by (with_reducible repeat (first | apply Kd.R_alloc | apply Kd.R_drewN | apply Kd.R_drew)); exact (Kd.R_mono (Kd.R_far (p := ⟨gb334, 1, none⟩) (Kd.R_far (p := ⟨gb334, 0, none⟩) (Kd.R_types HO329.out BK334.out (by decide)) (fun _ hk => hk.2) (.int .i64 t330)) (fun _ hk => hk.2) (.slice Ao27 t331.length co27)) (fun _ h_ => h_.1))) hb); have n3_ := Aside0.mk (Kd.R_below (by (with_reducible repeat (first | apply Kd.R_alloc | apply Kd.R_drewN | apply Kd.R_drew)); exact (Kd.R_mono (Kd.R_far (p := ⟨gb334, 1, none⟩) (Kd.R_far (p := ⟨gb334, 0, none⟩) (Kd.R_types HO333.out BK334.out (by decide)) (fun _ hk => hk.2) (.int .i64 t330)) (fun _ hk => hk.2) (.slice Ao27 t331.length co27)) (fun _ h_ => h_.1))) hb); have n4_ := Aside0.mk (blk_below (g := gb326) (o := .cells #[.int .i64 t322, .slice Ao20 t323.length co20] 31 (0, 0)) (by (with_reducible repeat (first | refine blk_drewN ?_ _ | refine blk_drew ?_ | refine blk_alloc ?_ _)); refine blk_far ?_ NB326_334.out _; (with_reducible repeat (first | refine blk_drewN ?_ _ | refine blk_drew ?_ | refine blk_alloc ?_ _)); refine blk_far ?_ NB326_334.out _; (with_reducible repeat (first | refine blk_drewN ?_ _ | refine blk_drew ?_ | refine blk_alloc ?_ _)); exact BK326.out) hb); have n5_ := Aside0.mk (blk_below (g := gb334) (o := .cells #[.int .i64 t330, .slice Ao27 t331.length co27] 31 (0, 0)) (by (with_reducible repeat (first | refine blk_drewN ?_ _ | refine blk_drew ?_ | refine blk_alloc ?_ _)); refine blk_put (cs := #[.int .i64 t330, .slice none 0 0]) ?_ 1 _ rfl; (with_reducible repeat (first | refine blk_drewN ?_ _ | refine blk_drew ?_ | refine blk_alloc ?_ _)); refine blk_put (cs := #[.int .i64 0, .slice none 0 0]) ?_ 0 _ rfl; (with_reducible repeat (first | refine blk_drewN ?_ _ | refine blk_drew ?_ | refine blk_alloc ?_ _)); exact BK334.out) hb); have n6_ := Aside0.mk (below_step (by repeat (first | (with_reducible first | exact HB.out | apply below_alloc | apply pw_below_drewN | apply below_drew1 | refine below_set ?_ GE326.out | refine below_set ?_ GE334.out) | exact HB.out)) hb); clear HO321; clear HO325; clear HO329; clear HO333; clear BK326; clear BK334; clear HB; have HO321 := n0_; have HO325 := n1_; have HO329 := n2_; have HO333 := n3_; have BK326 := n4_; have BK334 := n5_; have HB := n6_; clear n0_ n1_ n2_ n3_ n4_ n5_ n6_; (try clear hb); (try clear hb2); (try clear hk); (try clear hi)) | ((with_reducible refine gate_callee (f := 10) rfl ?_); refine goesL_ (some 29) rfl rfl Try.func10 (by kernel_rfl) rfl #[.slice A0 l0.length c0] rfl (by (try simp only [List.map_toArray, List.map_cons, List.map_nil]); first | done | rfl | (simp only [List.length_drop, List.length_take]; rfl)) ?_; (with_reducible refine (laws_toHopS.calls k _ _ l0 t336 _ ?side1 ?side2 A10.out).mono ?_); (case side1 => repeat (first | exact (Kd.C_below HR0.out HB.out) | (with_reducible refine Kd.C_alloc ?_ _) | (with_reducible refine Kd.C_drewN ?_ _) | (with_reducible refine Kd.C_drew ?_))); (case side2 => exact HC0.out); rintro e w30 ⟨v337, rfl, ho0, hb⟩; refine ⟨_, rfl, ?_⟩; have n0_ := Aside0.mk (Kd.R_elder' (by (with_reducible repeat (first | apply Kd.R_alloc | apply Kd.R_drewN | apply Kd.R_drew)); exact HO321.out) (Kd.R_base ho0) hb); have n1_ := Aside0.mk (Kd.R_below (by (with_reducible repeat (first | apply Kd.R_alloc | apply Kd.R_drewN | apply Kd.R_drew)); exact HO325.out) hb); have n2_ := Aside0.mk (Kd.R_elder' (by (with_reducible repeat (first | apply Kd.R_alloc | apply Kd.R_drewN | apply Kd.R_drew)); exact HO329.out) (Kd.R_base ho0) hb); have n3_ := Aside0.mk (Kd.R_below (by (with_reducible repeat (first | apply Kd.R_alloc | apply Kd.R_drewN | apply Kd.R_drew)); exact HO333.out) hb); have n4_ := Aside0.mk (Kd.R_lower (Kd.R_new' (Kd.R_new' ho0 (Kd.R_lt (by (with_reducible repeat (first | apply Kd.R_alloc | apply Kd.R_drewN | apply Kd.R_drew)); exact HO321.out))) (Kd.R_lt (by (with_reducible repeat (first | apply Kd.R_alloc | apply Kd.R_drewN | apply Kd.R_drew)); exact HO329.out))) (below_size (by repeat (first | (with_reducible first | exact HB.out | apply below_alloc | apply pw_below_drewN | apply below_drew1 | refine below_set ?_ GE326.out | refine below_set ?_ GE334.out) | exact HB.out)))); have n5_ := Aside0.mk (blk_below (g := gb326) (o := .cells #[.int .i64 t322, .slice Ao20 t323.length co20] 31 (0, 0)) (by (with_reducible repeat (first | refine blk_drewN ?_ _ | refine blk_drew ?_ | refine blk_alloc ?_ _)); exact BK326.out) hb); have n6_ := Aside0.mk (blk_below (g := gb334) (o := .cells #[.int .i64 t330, .slice Ao27 t331.length co27] 31 (0, 0)) (by (with_reducible repeat (first | refine blk_drewN ?_ _ | refine blk_drew ?_ | refine blk_alloc ?_ _)); exact BK334.out) hb); have n7_ := Aside0.mk (below_step (by repeat (first | (with_reducible first | exact HB.out | apply below_alloc | apply pw_below_drewN | apply below_drew1 | refine below_set ?_ GE326.out | refine below_set ?_ GE334.out) | exact HB.out)) hb); clear HO321; clear HO325; clear HO329; clear HO333; clear BK326; clear BK334; clear HB; have HO321 := n0_; have HO325 := n1_; have HO329 := n2_; have HO333 := n3_; have HO338 := n4_; have BK326 := n5_; have BK334 := n6_; have HB := n7_; clear n0_ n1_ n2_ n3_ n4_ n5_ n6_ n7_; (try clear hb); (try clear hb2); (try clear hk); (try clear hi); (try clear ho0); obtain ⟨Ao31, co31, eo31⟩ := Kd.R_slice HO338.out; subst eo31) | ((with_reducible refine gate_callee (f := 12) rfl ?_); refine goesL_ (some 30) rfl rfl Try.func12 (by kernel_rfl) rfl #[.slice Ao22 t327.length co22, .slice Ao31 t336.length co31] rfl (by (try simp only [List.map_toArray, List.map_cons, List.map_nil]); first | done | rfl | (simp only [List.length_drop, List.length_take]; rfl)) ?_; (with_reducible refine (laws_eqHopS.calls k _ _ t327 _ _ t336 true _ ?side1 ?side2 ?side3 ?side4 A11.out).mono ?_); (case side1 => repeat (first | exact (Kd.R_reads' HO329.out).2.2 | (with_reducible refine Kd.C_alloc ?_ _) | (with_reducible refine Kd.C_drewN ?_ _) | (with_reducible refine Kd.C_drew ?_))); (case side2 => exact (Kd.R_reads' HO329.out).2.1); (case side3 => repeat (first | exact (Kd.R_reads' HO338.out).2.2 | (with_reducible refine Kd.C_alloc ?_ _) | (with_reducible refine Kd.C_drewN ?_ _) | (with_reducible refine Kd.C_drew ?_))); (case side4 => exact (Kd.R_reads' HO338.out).2.1); rintro e w32 ⟨rfl, hb⟩; refine ⟨_, rfl, ?_⟩; have n0_ := Aside0.mk (Kd.R_below (by (with_reducible repeat (first | apply Kd.R_alloc | apply Kd.R_drewN | apply Kd.R_drew)); exact HO321.out) hb); have n1_ := Aside0.mk (Kd.R_below (by (with_reducible repeat (first | apply Kd.R_alloc | apply Kd.R_drewN | apply Kd.R_drew)); exact HO325.out) hb); have n2_ := Aside0.mk (Kd.R_below (by (with_reducible repeat (first | apply Kd.R_alloc | apply Kd.R_drewN | apply Kd.R_drew)); exact HO329.out) hb); have n3_ := Aside0.mk (Kd.R_below (by (with_reducible repeat (first | apply Kd.R_alloc | apply Kd.R_drewN | apply Kd.R_drew)); exact HO333.out) hb); have n4_ := Aside0.mk (Kd.R_below (by (with_reducible repeat (first | apply Kd.R_alloc | apply Kd.R_drewN | apply Kd.R_drew)); exact HO338.out) hb); have n5_ := Aside0.mk (blk_below (g := gb326) (o := .cells #[.int .i64 t322, .slice Ao20 t323.length co20] 31 (0, 0)) (by (with_reducible repeat (first | refine blk_drewN ?_ _ | refine blk_drew ?_ | refine blk_alloc ?_ _)); exact BK326.out) hb); have n6_ := Aside0.mk (blk_below (g := gb334) (o := .cells #[.int .i64 t330, .slice Ao27 t331.length co27] 31 (0, 0)) (by (with_reducible repeat (first | refine blk_drewN ?_ _ | refine blk_drew ?_ | refine blk_alloc ?_ _)); exact BK334.out) hb); have n7_ := Aside0.mk (below_step (by repeat (first | (with_reducible first | exact HB.out | apply below_alloc | apply pw_below_drewN | apply below_drew1 | refine below_set ?_ GE326.out | refine below_set ?_ GE334.out) | exact HB.out)) hb); clear HO321; clear HO325; clear HO329; clear HO333; clear HO338; clear BK326; clear BK334; clear HB; have HO321 := n0_; have HO325 := n1_; have HO329 := n2_; have HO333 := n3_; have HO338 := n4_; have BK326 := n5_; have BK334 := n6_; have HB := n7_; clear n0_ n1_ n2_ n3_ n4_ n5_ n6_ n7_; (try clear hb); (try clear hb2); (try clear hk); (try clear hi)) | ((with_reducible refine gate_callee (f := 16) rfl ?_); refine goesL_ (some 34) rfl rfl Try.func16 (by kernel_rfl) rfl #[.slice Ao22 t327.length co22, .int .i64 1] rfl (by (try simp only [List.map_toArray, List.map_cons, List.map_nil]); first | done | rfl | (simp only [List.length_drop, List.length_take]; rfl)) ?_; (with_reducible refine (laws_markHopS.calls k (fun k_ => some k_ = (.slice Ao22 t327.length co22 : Value).ownBlock) (.slice Ao22 t327.length co22) t327 1 t340 t341 w _ ?side1 ?side2 A13.out).mono ?_); (case side1 => repeat (first | (with_reducible first | exact HB.out | apply below_alloc | apply pw_below_drewN | apply below_drew1 | refine below_set ?_ GE326.out | refine below_set ?_ GE334.out) | exact HB.out)); (case side2 => exact Kd.R_tight rfl HO329.out); rintro e w33 ⟨rfl, hy0, hb, hkp⟩; refine ⟨_, rfl, ?_⟩; have n0_ := Aside0.mk (Kd.R_mono (ok' := fun k_ => some k_ ≠ (.slice Ao22 t327.length co22 : Value).ownBlock ∧ some k_ ≠ (.slice Ao31 t336.length co31 : Value).ownBlock) (Kd.R_keptB (HO321.out) hkp (fun k_ hk_ hs_ => (hk_.1.2) hs_)) (fun k_ hk_ => ⟨hk_.1.1.2, hk_.1.2⟩)); have n1_ := Aside0.mk (Kd.R_mono (ok' := fun k_ => some k_ ≠ (.slice Ao27 t331.length co27 : Value).ownBlock) (Kd.R_keptB ((Kd.R_apart' HO325.out (Kd.R_typed HO329.out) (by decide))) hkp (fun k_ hk_ hs_ => (hk_.2) hs_)) (fun k_ hk_ => hk_.1.1.2)); have n2_ := Aside0.mk (blk_kept (by (with_reducible repeat (first | refine blk_drewN ?_ _ | refine blk_drew ?_ | refine blk_alloc ?_ _)); exact BK326.out) hkp (fun hs_ => (fun e_ => (Kd.R_ne HO329.out BK326.out (by decide)) e_) hs_)); have n3_ := Aside0.mk (Kd.R_reok rfl hy0 (fun k_ e_ => HO329.out.1 k_ e_)); have n4_ := Aside0.mk (Kd.R_mono (ok' := fun k_ => some k_ ≠ (.slice Ao20 t323.length co20 : Value).ownBlock) (Kd.R_keptB ((Kd.R_apart' HO333.out (Kd.R_typed HO329.out) (by decide))) hkp (fun k_ hk_ hs_ => (hk_.2) hs_)) (fun k_ hk_ => hk_.1.1.2)); have n5_ := Aside0.mk (blk_kept (by (with_reducible repeat (first | refine blk_drewN ?_ _ | refine blk_drew ?_ | refine blk_alloc ?_ _)); exact BK334.out) hkp (fun hs_ => (fun e_ => (Kd.R_ne HO329.out BK334.out (by decide)) e_) hs_)); have n6_ := Aside0.mk (Kd.R_mono (ok' := fun k_ => some k_ ≠ (.slice Ao16 t319.length co16 : Value).ownBlock ∧ some k_ ≠ (.slice Ao22 t327.length co22 : Value).ownBlock) (Kd.R_keptB (HO338.out) hkp (fun k_ hk_ hs_ => (hk_.2) hs_)) (fun k_ hk_ => ⟨hk_.1.1.2, hk_.1.2⟩)); have n7_ := Aside0.mk (hb); clear HO321; clear HO325; clear BK326; clear HO329; clear HO333; clear BK334; clear HO338; clear HB; have HO321 := n0_; have HO325 := n1_; have BK326 := n2_; have HO329 := n3_; have HO333 := n4_; have BK334 := n5_; have HO338 := n6_; have HB := n7_; clear n0_ n1_ n2_ n3_ n4_ n5_ n6_ n7_; (try clear hb); (try clear hkp); (try clear hy0)))
        (try simp only [Act.put, List.setIfInBounds_toArray, List.set_cons_zero, List.set_cons_succ])
        go_cut [42] (fun v42 wc => ∃ (kq : Nat) (x42_13 : Bool), v42 = .bool x42_13 ∧ Aside0 (laws_FnExactSerialOrder.j0 kq l0 x42_13 t322 t323 t330 t331 = some r) ∧ Aside0 (kq ≤ k) ∧ Aside0 (Kd.R (Kd.int .i64) 2 wc w.heap.size (fun k_ => some k_ ≠ ((.slice Ao27 t331.length co27) : Value).ownBlock) (.slice Ao20 t323.length co20) t323) ∧ Aside0 (Kd.R (Kd.int .i64) 2 wc w.heap.size (fun k_ => some k_ ≠ ((.slice Ao20 t323.length co20) : Value).ownBlock) (.slice Ao27 t331.length co27) t331) ∧ Aside0 (wc.heap[gb326]? = some (.cells #[.int .i64 t322, (.slice Ao20 t323.length co20)] 31 (0, 0))) ∧ Aside0 (wc.heap[gb334]? = some (.cells #[.int .i64 t330, (.slice Ao27 t331.length co27)] 31 (0, 0))) ∧ Aside0 (Below w.heap.size w wc))
        case first =>
          have H := HC14.out
          clear HC14
          by_cases c34 : t340 < 0
          · rw [if_pos c34] at H
            have c34b0 : decide (t340 < 0) = true := decide_eq_true c34
            clear c34
            (first | rw [c34b0] | (simp only [i64_w, i32_w]; rw [c34b0]) | skip)
            have H' := Aside0.mk H
            clear H
            go_wp2
            go_meet
            case rel => exact ⟨_, (true), (by first | rfl | (simp; done) | (simp [*]; done)), H', ⟨by first | omega | exact Nat.le_refl _⟩, ⟨by (with_reducible repeat (first | apply Kd.R_alloc | apply Kd.R_drewN | apply Kd.R_drew)); exact HO325.out⟩, ⟨by (with_reducible repeat (first | apply Kd.R_alloc | apply Kd.R_drewN | apply Kd.R_drew)); exact HO333.out⟩, ⟨by (with_reducible repeat (first | refine blk_drewN ?_ _ | refine blk_drew ?_ | refine blk_alloc ?_ _)); exact BK326.out⟩, ⟨by (with_reducible repeat (first | refine blk_drewN ?_ _ | refine blk_drew ?_ | refine blk_alloc ?_ _)); exact BK334.out⟩, ⟨by repeat (first | (with_reducible first | exact HB.out | apply below_alloc | apply pw_below_drewN | apply below_drew1 | refine below_set ?_ GE326.out | refine below_set ?_ GE334.out) | exact HB.out)⟩⟩
          · rw [if_neg c34] at H
            have c34b0 : decide (t340 < 0) = false := decide_eq_false c34
            clear c34
            (first | rw [c34b0] | (simp only [i64_w, i32_w]; rw [c34b0]) | skip)
            replace H := Option.bind_eq_some_iff.mp H
            obtain ⟨t342, A350, H⟩ := H
            replace H : (laws_FnExactSerialOrder.j0 k l0 (!t342) t322 t323 t330 t331) = some r := H
            have A35 := Aside0.mk A350
            clear A350
            have H' := Aside0.mk H
            clear H
            have hnb36 := NB334_326.out
            have hnc36 := NB326_334.out
            have hcz37_0 : w33.cell? ⟨gb334, 0, none⟩ = some (.int .i64 t330) := (blk_cell BK334.out 0).trans rfl
            have hcz37_1 : w33.cell? ⟨gb334, 1, none⟩ = some (.slice Ao27 t331.length co27) := (blk_cell BK334.out 1).trans rfl
            have hfz37_0 := blk_frozen BK334.out 0
            have hfz37_1 := blk_frozen BK334.out 1
            have hcz38_0 : w33.cell? ⟨gb326, 0, none⟩ = some (.int .i64 t322) := (blk_cell BK326.out 0).trans rfl
            have hcz38_1 : w33.cell? ⟨gb326, 1, none⟩ = some (.slice Ao20 t323.length co20) := (blk_cell BK326.out 1).trans rfl
            have hfz38_0 := blk_frozen BK326.out 0
            have hfz38_1 := blk_frozen BK326.out 1
            go_wp2_with (first | (go_at_call 15; (with_reducible refine (laws_eqIntsResult.calls k t330 _ _ t331 t322 _ _ t323 t342 _ ?side1 ?side2 ?side3 ?side4 A35.out).mono ?_); (case side1 => repeat (first | exact (Kd.R_reads' HO333.out).2.2 | (with_reducible refine Kd.C_alloc ?_ _) | (with_reducible refine Kd.C_drewN ?_ _) | (with_reducible refine Kd.C_drew ?_))); (case side2 => exact (Kd.R_reads' HO333.out).2.1); (case side3 => repeat (first | exact (Kd.R_reads' HO325.out).2.2 | (with_reducible refine Kd.C_alloc ?_ _) | (with_reducible refine Kd.C_drewN ?_ _) | (with_reducible refine Kd.C_drew ?_))); (case side4 => exact (Kd.R_reads' HO325.out).2.1); rintro e w39 ⟨rfl, hb⟩; have n0_ := Aside0.mk (Kd.R_below (by (with_reducible repeat (first | apply Kd.R_alloc | apply Kd.R_drewN | apply Kd.R_drew)); exact HO321.out) hb); have n1_ := Aside0.mk (Kd.R_below (by (with_reducible repeat (first | apply Kd.R_alloc | apply Kd.R_drewN | apply Kd.R_drew)); exact HO325.out) hb); have n2_ := Aside0.mk (Kd.R_below (by (with_reducible repeat (first | apply Kd.R_alloc | apply Kd.R_drewN | apply Kd.R_drew)); exact HO329.out) hb); have n3_ := Aside0.mk (Kd.R_below (by (with_reducible repeat (first | apply Kd.R_alloc | apply Kd.R_drewN | apply Kd.R_drew)); exact HO333.out) hb); have n4_ := Aside0.mk (Kd.R_below (by (with_reducible repeat (first | apply Kd.R_alloc | apply Kd.R_drewN | apply Kd.R_drew)); exact HO338.out) hb); have n5_ := Aside0.mk (blk_below (g := gb326) (o := .cells #[.int .i64 t322, .slice Ao20 t323.length co20] 31 (0, 0)) (by (with_reducible repeat (first | refine blk_drewN ?_ _ | refine blk_drew ?_ | refine blk_alloc ?_ _)); exact BK326.out) hb); have n6_ := Aside0.mk (blk_below (g := gb334) (o := .cells #[.int .i64 t330, .slice Ao27 t331.length co27] 31 (0, 0)) (by (with_reducible repeat (first | refine blk_drewN ?_ _ | refine blk_drew ?_ | refine blk_alloc ?_ _)); exact BK334.out) hb); have n7_ := Aside0.mk (below_step (by repeat (first | (with_reducible first | exact HB.out | apply below_alloc | apply pw_below_drewN | apply below_drew1 | refine below_set ?_ GE326.out | refine below_set ?_ GE334.out) | exact HB.out)) hb); clear HO321; clear HO325; clear HO329; clear HO333; clear HO338; clear BK326; clear BK334; clear HB; have HO321 := n0_; have HO325 := n1_; have HO329 := n2_; have HO333 := n3_; have HO338 := n4_; have BK326 := n5_; have BK334 := n6_; have HB := n7_; clear n0_ n1_ n2_ n3_ n4_ n5_ n6_ n7_; (try clear hb); (try clear hb2); (try clear hk); (try clear hi)))
            go_meet
            case rel => exact ⟨_, (!t342), (by first | rfl | (simp; done) | (simp [*]; done)), H', ⟨by first | omega | exact Nat.le_refl _⟩, ⟨by (with_reducible repeat (first | apply Kd.R_alloc | apply Kd.R_drewN | apply Kd.R_drew)); exact HO325.out⟩, ⟨by (with_reducible repeat (first | apply Kd.R_alloc | apply Kd.R_drewN | apply Kd.R_drew)); exact HO333.out⟩, ⟨by (with_reducible repeat (first | refine blk_drewN ?_ _ | refine blk_drew ?_ | refine blk_alloc ?_ _)); exact BK326.out⟩, ⟨by (with_reducible repeat (first | refine blk_drewN ?_ _ | refine blk_drew ?_ | refine blk_alloc ?_ _)); exact BK334.out⟩, ⟨by repeat (first | (with_reducible first | exact HB.out | apply below_alloc | apply pw_below_drewN | apply below_drew1 | refine below_set ?_ GE326.out | refine below_set ?_ GE334.out) | exact HB.out)⟩⟩
        case rest =>
          clear HC14
          try clear c1
          try clear c2
          try clear p2
          try clear c3
          try clear c3b0
          try clear c7
          try clear c8
          try clear c9
          try clear c10
          try clear c12
          try clear c15
          try clear c16
          try clear c25
          try clear c26
          try clear c27
          try clear c34
          try clear c34b0
          try clear c36
          try clear hcz19_0
          try clear hcz19_1
          try clear hcz26_0
          try clear hcz26_1
          try clear hcz28_0
          try clear hcz28_1
          try clear hcz37_0
          try clear hcz37_1
          try clear hcz38_0
          try clear hcz38_1
          try clear hfz19_0
          try clear hfz19_1
          try clear hfz26_0
          try clear hfz26_1
          try clear hfz28_0
          try clear hfz28_1
          try clear hfz37_0
          try clear hfz37_1
          try clear hfz38_0
          try clear hfz38_1
          obtain ⟨kq, x42_13, rfl, HA, HJ13, HO_327001, HO_335001, BK326, BK334, HB⟩ := hcut
          cases kq with
          | zero => exact absurd HA.out (by simp [laws_FnExactSerialOrder.j0])
          | succ kj13 =>
            have H := HA.out
            clear HA
            simp only [laws_FnExactSerialOrder.j0] at H
            by_cases c40 : x42_13 = true
            · subst c40
              have H1 : (some false) = some r := by rw [if_pos rfl] at H; exact H
              clear H
              have H := H1
              clear H1
              exact absurd (Option.some.inj H) (by rw [HRT.out]; decide)
            · replace c40 := Bool.eq_false_iff.mpr c40
              subst c40
              have H1 : ((laws_markIntsResult.f kj13 t330 t331 1).bind fun bt343 => ((laws_heldIntsResult.f kj13 t330 bt343.2 1).bind fun t345 => (if t345 < 0 then (some false) else (if t345 = bt343.1 then ((laws_toHopS.f kj13 l0).bind fun t346 => ((impl_SerialOrder.f t346).bind fun bt349 => ((laws_eqIntsResult.f kj13 bt349.1 bt349.2 t322 t323).bind fun t354 => (if t354 = true then ((laws_heldIntsResult.f kj13 t330 bt343.2 1).bind fun t355 => (if t355 < 0 then (some false) else (if t355 = bt343.1 then (some true) else (some false)))) else (some false))))) else (some false))))) = some r := by rw [if_neg (show ¬ (false = true) by decide)] at H; exact H
              clear H
              have H := H1
              clear H1
              replace H := Option.bind_eq_some_iff.mp H
              obtain ⟨⟨t343, t344⟩, A410, H⟩ := H
              replace H : ((laws_heldIntsResult.f kj13 t330 t344 1).bind fun t345 => (if t345 < 0 then (some false) else (if t345 = t343 then ((laws_toHopS.f kj13 l0).bind fun t346 => ((impl_SerialOrder.f t346).bind fun bt349 => ((laws_eqIntsResult.f kj13 bt349.1 bt349.2 t322 t323).bind fun t354 => (if t354 = true then ((laws_heldIntsResult.f kj13 t330 t344 1).bind fun t355 => (if t355 < 0 then (some false) else (if t355 = t343 then (some true) else (some false)))) else (some false))))) else (some false)))) = some r := H
              have A41 := Aside0.mk A410
              clear A410
              replace H := Option.bind_eq_some_iff.mp H
              obtain ⟨t345, A420, H⟩ := H
              replace H : (if t345 < 0 then (some false) else (if t345 = t343 then ((laws_toHopS.f kj13 l0).bind fun t346 => ((impl_SerialOrder.f t346).bind fun bt349 => ((laws_eqIntsResult.f kj13 bt349.1 bt349.2 t322 t323).bind fun t354 => (if t354 = true then ((laws_heldIntsResult.f kj13 t330 t344 1).bind fun t355 => (if t355 < 0 then (some false) else (if t355 = t343 then (some true) else (some false)))) else (some false))))) else (some false))) = some r := H
              have A42 := Aside0.mk A420
              clear A420
              by_cases c43 : t345 < 0
              · rw [if_pos c43] at H
                have c43b0 : decide (t345 < 0) = true := decide_eq_true c43
                clear c43
                exact absurd (Option.some.inj H) (by rw [HRT.out]; decide)
              · rw [if_neg c43] at H
                have c43b0 : decide (t345 < 0) = false := decide_eq_false c43
                clear c43
                by_cases c44 : t345 = t343
                · rw [if_pos c44] at H
                  have c44b0 : (t345 == t343) = true := beq_iff_eq.mpr c44
                  have c44b1 : (t345 != t343) = false := bne_eq_false_iff_eq.mpr c44
                  clear c44
                  replace H := Option.bind_eq_some_iff.mp H
                  obtain ⟨t346, A450, H⟩ := H
                  replace H : ((impl_SerialOrder.f t346).bind fun bt349 => ((laws_eqIntsResult.f kj13 bt349.1 bt349.2 t322 t323).bind fun t354 => (if t354 = true then ((laws_heldIntsResult.f kj13 t330 t344 1).bind fun t355 => (if t355 < 0 then (some false) else (if t355 = t343 then (some true) else (some false)))) else (some false)))) = some r := H
                  have A45 := Aside0.mk A450
                  clear A450
                  replace H := Option.bind_eq_some_iff.mp H
                  obtain ⟨⟨t349, t350⟩, A460, H⟩ := H
                  replace H : ((laws_eqIntsResult.f kj13 t349 t350 t322 t323).bind fun t354 => (if t354 = true then ((laws_heldIntsResult.f kj13 t330 t344 1).bind fun t355 => (if t355 < 0 then (some false) else (if t355 = t343 then (some true) else (some false)))) else (some false))) = some r := H
                  have A46 := Aside0.mk A460
                  clear A460
                  replace H := Option.bind_eq_some_iff.mp H
                  obtain ⟨t354, A470, H⟩ := H
                  replace H : (if t354 = true then ((laws_heldIntsResult.f kj13 t330 t344 1).bind fun t355 => (if t355 < 0 then (some false) else (if t355 = t343 then (some true) else (some false)))) else (some false)) = some r := H
                  have A47 := Aside0.mk A470
                  clear A470
                  by_cases c48 : t354 = true
                  · subst c48
                    have H1 : ((laws_heldIntsResult.f kj13 t330 t344 1).bind fun t355 => (if t355 < 0 then (some false) else (if t355 = t343 then (some true) else (some false)))) = some r := by rw [if_pos rfl] at H; exact H
                    clear H
                    have H := H1
                    clear H1
                    replace H := Option.bind_eq_some_iff.mp H
                    obtain ⟨t355, A490, H⟩ := H
                    replace H : (if t355 < 0 then (some false) else (if t355 = t343 then (some true) else (some false))) = some r := H
                    have A49 := Aside0.mk A490
                    clear A490
                    by_cases c50 : t355 < 0
                    · rw [if_pos c50] at H
                      have c50b0 : decide (t355 < 0) = true := decide_eq_true c50
                      clear c50
                      exact absurd (Option.some.inj H) (by rw [HRT.out]; decide)
                    · rw [if_neg c50] at H
                      have c50b0 : decide (t355 < 0) = false := decide_eq_false c50
                      clear c50
                      by_cases c51 : t355 = t343
                      · rw [if_pos c51] at H
                        have c51b0 : (t355 == t343) = true := beq_iff_eq.mpr c51
                        have c51b1 : (t355 != t343) = false := bne_eq_false_iff_eq.mpr c51
                        clear c51
                        obtain rfl := Option.some.inj H
                        have hnb52 := NB334_326.out
                        have hnc52 := NB326_334.out
                        have hcz53_0 : wc.cell? ⟨gb334, 0, none⟩ = some (.int .i64 t330) := (blk_cell BK334.out 0).trans rfl
                        have hcz53_1 : wc.cell? ⟨gb334, 1, none⟩ = some (.slice Ao27 t331.length co27) := (blk_cell BK334.out 1).trans rfl
                        have hfz53_0 := blk_frozen BK334.out 0
                        have hfz53_1 := blk_frozen BK334.out 1
                        go_wp2_with (first | ((with_reducible refine gate_callee (f := 17) rfl ?_); refine goesL_ (some 45) rfl rfl Try.func17 (by kernel_rfl) rfl #[.agg #[.int .i64 t330, .slice Ao27 t331.length co27], .int .i64 1] rfl (by (try simp only [List.map_toArray, List.map_cons, List.map_nil]); first | done | rfl | (simp only [List.length_drop, List.length_take]; rfl)) ?_; (with_reducible refine (laws_markIntsResult.calls kj13 t330 (fun k_ => some k_ = (.slice Ao27 t331.length co27 : Value).ownBlock) (.slice Ao27 t331.length co27) t331 1 t343 t344 w _ ?side1 ?side2 A41.out).mono ?_); (case side1 => repeat (first | (with_reducible first | exact HB.out | apply below_alloc | apply pw_below_drewN | apply below_drew1 | refine below_set ?_ GE326.out | refine below_set ?_ GE334.out) | exact HB.out)); (case side2 => exact Kd.R_tight rfl HO_335001.out); rintro e w54 ⟨rfl, hy0, hb, hkp⟩; refine ⟨_, rfl, ?_⟩; have n0_ := Aside0.mk (Kd.R_mono (ok' := fun k_ => some k_ ≠ (.slice Ao27 t331.length co27 : Value).ownBlock) (Kd.R_keptB (HO_327001.out) hkp (fun k_ hk_ hs_ => (hk_) hs_)) (fun k_ hk_ => hk_.1)); have n1_ := Aside0.mk (Kd.R_reok rfl hy0 (fun k_ e_ => HO_335001.out.1 k_ e_)); have n2_ := Aside0.mk (blk_kept (by (with_reducible repeat (first | refine blk_drewN ?_ _ | refine blk_drew ?_ | refine blk_alloc ?_ _)); exact BK326.out) hkp (fun hs_ => (fun e_ => (Kd.R_ne HO_335001.out BK326.out (by decide)) e_) hs_)); have n3_ := Aside0.mk (blk_kept (by (with_reducible repeat (first | refine blk_drewN ?_ _ | refine blk_drew ?_ | refine blk_alloc ?_ _)); exact BK334.out) hkp (fun hs_ => (fun e_ => (Kd.R_ne HO_335001.out BK334.out (by decide)) e_) hs_)); have n4_ := Aside0.mk (hb); clear HO_327001; clear HO_335001; clear BK326; clear BK334; clear HB; have HO_327001 := n0_; have HO_335001 := n1_; have BK326 := n2_; have BK334 := n3_; have HB := n4_; clear n0_ n1_ n2_ n3_ n4_; (try clear hb); (try clear hkp); (try clear hy0); have hcz55_0 : w54.cell? ⟨gb334, 0, none⟩ = some (.int .i64 t330) := (blk_cell BK334.out 0).trans rfl; have hcz55_1 : w54.cell? ⟨gb334, 1, none⟩ = some (.slice Ao27 t331.length co27) := (blk_cell BK334.out 1).trans rfl; have hfz55_0 := blk_frozen BK334.out 0; have hfz55_1 := blk_frozen BK334.out 1) | ((with_reducible refine gate_callee (f := 18) rfl ?_); refine goesL_ (some 48) rfl rfl Try.func18 (by kernel_rfl) rfl #[.agg #[.int .i64 t330, .slice Ao27 t344.length co27], .int .i64 1] rfl (by (try simp only [List.map_toArray, List.map_cons, List.map_nil]); first | done | (rw [show t344.length = t331.length from (Kd.R_reads' HO_335001.out).1.symm] <;> rfl) | rfl | (simp only [List.length_drop, List.length_take]; rfl)) ?_; (with_reducible refine (laws_heldIntsResult.calls kj13 t330 _ _ t344 1 t345 _ ?side1 ?side2 A42.out).mono ?_); (case side1 => repeat (first | exact (Kd.R_reads' HO_335001.out).2.2 | (with_reducible refine Kd.C_alloc ?_ _) | (with_reducible refine Kd.C_drewN ?_ _) | (with_reducible refine Kd.C_drew ?_))); (case side2 => rw [show t344.length = t331.length from (Kd.R_reads' HO_335001.out).1.symm]; exact (Kd.R_reads' HO_335001.out).2.1); rintro e w56 ⟨rfl, hb⟩; refine ⟨_, rfl, ?_⟩; have n0_ := Aside0.mk (Kd.R_below (by (with_reducible repeat (first | apply Kd.R_alloc | apply Kd.R_drewN | apply Kd.R_drew)); exact HO_327001.out) hb); have n1_ := Aside0.mk (Kd.R_below (by (with_reducible repeat (first | apply Kd.R_alloc | apply Kd.R_drewN | apply Kd.R_drew)); exact HO_335001.out) hb); have n2_ := Aside0.mk (blk_below (g := gb326) (o := .cells #[.int .i64 t322, .slice Ao20 t323.length co20] 31 (0, 0)) (by (with_reducible repeat (first | refine blk_drewN ?_ _ | refine blk_drew ?_ | refine blk_alloc ?_ _)); exact BK326.out) hb); have n3_ := Aside0.mk (blk_below (g := gb334) (o := .cells #[.int .i64 t330, .slice Ao27 t331.length co27] 31 (0, 0)) (by (with_reducible repeat (first | refine blk_drewN ?_ _ | refine blk_drew ?_ | refine blk_alloc ?_ _)); exact BK334.out) hb); have n4_ := Aside0.mk (below_step (by repeat (first | (with_reducible first | exact HB.out | apply below_alloc | apply pw_below_drewN | apply below_drew1 | refine below_set ?_ GE326.out | refine below_set ?_ GE334.out) | exact HB.out)) hb); clear HO_327001; clear HO_335001; clear BK326; clear BK334; clear HB; have HO_327001 := n0_; have HO_335001 := n1_; have BK326 := n2_; have BK334 := n3_; have HB := n4_; clear n0_ n1_ n2_ n3_ n4_; (try clear hb); (try clear hb2); (try clear hk); (try clear hi)) | ((with_reducible refine gate_callee (f := 10) rfl ?_); refine goesL_ (some 55) rfl rfl Try.func10 (by kernel_rfl) rfl #[.slice A0 l0.length c0] rfl (by (try simp only [List.map_toArray, List.map_cons, List.map_nil]); first | done | rfl | (simp only [List.length_drop, List.length_take]; rfl)) ?_; (with_reducible refine (laws_toHopS.calls kj13 _ _ l0 t346 _ ?side1 ?side2 A45.out).mono ?_); (case side1 => repeat (first | exact (Kd.C_below HR0.out HB.out) | (with_reducible refine Kd.C_alloc ?_ _) | (with_reducible refine Kd.C_drewN ?_ _) | (with_reducible refine Kd.C_drew ?_))); (case side2 => exact HC0.out); rintro e w57 ⟨v347, rfl, ho0, hb⟩; refine ⟨_, rfl, ?_⟩; have n0_ := Aside0.mk (Kd.R_below (by (with_reducible repeat (first | apply Kd.R_alloc | apply Kd.R_drewN | apply Kd.R_drew)); exact HO_327001.out) hb); have n1_ := Aside0.mk (Kd.R_below (by (with_reducible repeat (first | apply Kd.R_alloc | apply Kd.R_drewN | apply Kd.R_drew)); exact HO_335001.out) hb); have n2_ := Aside0.mk (Kd.R_lower ho0 (below_size (by repeat (first | (with_reducible first | exact HB.out | apply below_alloc | apply pw_below_drewN | apply below_drew1 | refine below_set ?_ GE326.out | refine below_set ?_ GE334.out) | exact HB.out)))); have n3_ := Aside0.mk (blk_below (g := gb326) (o := .cells #[.int .i64 t322, .slice Ao20 t323.length co20] 31 (0, 0)) (by (with_reducible repeat (first | refine blk_drewN ?_ _ | refine blk_drew ?_ | refine blk_alloc ?_ _)); exact BK326.out) hb); have n4_ := Aside0.mk (blk_below (g := gb334) (o := .cells #[.int .i64 t330, .slice Ao27 t331.length co27] 31 (0, 0)) (by (with_reducible repeat (first | refine blk_drewN ?_ _ | refine blk_drew ?_ | refine blk_alloc ?_ _)); exact BK334.out) hb); have n5_ := Aside0.mk (below_step (by repeat (first | (with_reducible first | exact HB.out | apply below_alloc | apply pw_below_drewN | apply below_drew1 | refine below_set ?_ GE326.out | refine below_set ?_ GE334.out) | exact HB.out)) hb); clear HO_327001; clear HO_335001; clear BK326; clear BK334; clear HB; have HO_327001 := n0_; have HO_335001 := n1_; have HO348 := n2_; have BK326 := n3_; have BK334 := n4_; have HB := n5_; clear n0_ n1_ n2_ n3_ n4_ n5_; (try clear hb); (try clear hb2); (try clear hk); (try clear hi); (try clear ho0); obtain ⟨Ao58, co58, eo58⟩ := Kd.R_slice HO348.out; subst eo58) | ((with_reducible refine gate_callee (f := 27) rfl ?_); refine goesL_ (some 56) rfl rfl Try.func27 (by kernel_rfl) rfl #[.slice Ao58 t346.length co58] rfl (by (try simp only [List.map_toArray, List.map_cons, List.map_nil]); first | done | rfl | (simp only [List.length_drop, List.length_take]; rfl)) ?_; (with_reducible refine (impl_SerialOrder.calls _ _ t346 t349 t350 _ ?side1 ?side2 A46.out).mono ?_); (case side1 => repeat (first | exact (Kd.R_reads' HO348.out).2.2 | (with_reducible refine Kd.C_alloc ?_ _) | (with_reducible refine Kd.C_drewN ?_ _) | (with_reducible refine Kd.C_drew ?_))); (case side2 => exact (Kd.R_reads' HO348.out).2.1); rintro e w59 ⟨v351, rfl, ho0, hb⟩; refine ⟨_, rfl, ?_⟩; have n0_ := Aside0.mk (Kd.R_elder' (by (with_reducible repeat (first | apply Kd.R_alloc | apply Kd.R_drewN | apply Kd.R_drew)); exact HO_327001.out) (Kd.R_base ho0) hb); have n1_ := Aside0.mk (Kd.R_elder' (by (with_reducible repeat (first | apply Kd.R_alloc | apply Kd.R_drewN | apply Kd.R_drew)); exact HO_335001.out) (Kd.R_base ho0) hb); have n2_ := Aside0.mk (Kd.R_below (by (with_reducible repeat (first | apply Kd.R_alloc | apply Kd.R_drewN | apply Kd.R_drew)); exact HO348.out) hb); have n3_ := Aside0.mk (Kd.R_lower (Kd.R_new' (Kd.R_new' ho0 (Kd.R_lt (by (with_reducible repeat (first | apply Kd.R_alloc | apply Kd.R_drewN | apply Kd.R_drew)); exact HO_327001.out))) (Kd.R_lt (by (with_reducible repeat (first | apply Kd.R_alloc | apply Kd.R_drewN | apply Kd.R_drew)); exact HO_335001.out))) (below_size (by repeat (first | (with_reducible first | exact HB.out | apply below_alloc | apply pw_below_drewN | apply below_drew1 | refine below_set ?_ GE326.out | refine below_set ?_ GE334.out) | exact HB.out)))); have n4_ := Aside0.mk (blk_below (g := gb326) (o := .cells #[.int .i64 t322, .slice Ao20 t323.length co20] 31 (0, 0)) (by (with_reducible repeat (first | refine blk_drewN ?_ _ | refine blk_drew ?_ | refine blk_alloc ?_ _)); exact BK326.out) hb); have n5_ := Aside0.mk (blk_below (g := gb334) (o := .cells #[.int .i64 t330, .slice Ao27 t331.length co27] 31 (0, 0)) (by (with_reducible repeat (first | refine blk_drewN ?_ _ | refine blk_drew ?_ | refine blk_alloc ?_ _)); exact BK334.out) hb); have n6_ := Aside0.mk (below_step (by repeat (first | (with_reducible first | exact HB.out | apply below_alloc | apply pw_below_drewN | apply below_drew1 | refine below_set ?_ GE326.out | refine below_set ?_ GE334.out) | exact HB.out)) hb); clear HO_327001; clear HO_335001; clear HO348; clear BK326; clear BK334; clear HB; have HO_327001 := n0_; have HO_335001 := n1_; have HO348 := n2_; have HO352 := n3_; have BK326 := n4_; have BK334 := n5_; have HB := n6_; clear n0_ n1_ n2_ n3_ n4_ n5_ n6_; (try clear hb); (try clear hb2); (try clear hk); (try clear hi); (try clear ho0)) | ((with_reducible refine gate_dst (N := 10) rfl ?_); refine box_event ?hg (N := 10) ?hd (cs := #[.int .i64 0, .slice none 0 0]) (t := 31) ?hr ?_; (case hd => rfl); (case hg => rfl); (case hr => first | (go_simp; done) | (go_simp; rfl)); intro gb353 hg w60 hbox hb; have n0_ := Aside0.mk (Kd.R_below (by (with_reducible repeat (first | apply Kd.R_alloc | apply Kd.R_drewN | apply Kd.R_drew)); exact HO_327001.out) hb); have n1_ := Aside0.mk (Kd.R_below (by (with_reducible repeat (first | apply Kd.R_alloc | apply Kd.R_drewN | apply Kd.R_drew)); exact HO_335001.out) hb); have n2_ := Aside0.mk (Kd.R_below (by (with_reducible repeat (first | apply Kd.R_alloc | apply Kd.R_drewN | apply Kd.R_drew)); exact HO348.out) hb); have n3_ := Aside0.mk (Kd.R_below (by (with_reducible repeat (first | apply Kd.R_alloc | apply Kd.R_drewN | apply Kd.R_drew)); exact HO352.out) hb); have n4_ := Aside0.mk (blk_below (g := gb326) (o := .cells #[.int .i64 t322, .slice Ao20 t323.length co20] 31 (0, 0)) (by (with_reducible repeat (first | refine blk_drewN ?_ _ | refine blk_drew ?_ | refine blk_alloc ?_ _)); exact BK326.out) hb); have n5_ := Aside0.mk (blk_below (g := gb334) (o := .cells #[.int .i64 t330, .slice Ao27 t331.length co27] 31 (0, 0)) (by (with_reducible repeat (first | refine blk_drewN ?_ _ | refine blk_drew ?_ | refine blk_alloc ?_ _)); exact BK334.out) hb); have n6_ := Aside0.mk (below_step (by repeat (first | (with_reducible first | exact HB.out | apply below_alloc | apply pw_below_drewN | apply below_drew1 | refine below_set ?_ GE326.out | refine below_set ?_ GE334.out) | exact HB.out)) hb); have n7_ := Aside0.mk (hbox); have n8_ := Aside0.mk ((by rw [hg]; exact (below_size (by repeat (first | (with_reducible first | exact HB.out | apply below_alloc | apply pw_below_drewN | apply below_drew1 | refine below_set ?_ GE326.out | refine below_set ?_ GE334.out) | exact HB.out))) : w.heap.size ≤ gb353)); have n9_ := Aside0.mk ((by rw [hg]; exact (below_size (by repeat (first | (with_reducible first | exact HB.out | apply below_alloc | apply pw_below_drewN | apply below_drew1 | refine below_set ?_ GE326.out | refine below_set ?_ GE334.out) | exact HB.out))) : w.heap.size ≤ gb353)); have n10_ := Aside0.mk ((by rw [hg]; exact Nat.ne_of_lt (blk_lt (g := gb326) (o := .cells #[.int .i64 t322, .slice Ao20 t323.length co20] 31 (0, 0)) (by (with_reducible repeat (first | refine blk_drewN ?_ _ | refine blk_drew ?_ | refine blk_alloc ?_ _)); exact BK326.out)) : gb326 ≠ gb353)); have n11_ := Aside0.mk ((by rw [hg]; exact Nat.ne_of_gt (blk_lt (g := gb326) (o := .cells #[.int .i64 t322, .slice Ao20 t323.length co20] 31 (0, 0)) (by (with_reducible repeat (first | refine blk_drewN ?_ _ | refine blk_drew ?_ | refine blk_alloc ?_ _)); exact BK326.out)) : gb353 ≠ gb326)); have n12_ := Aside0.mk ((by rw [hg]; exact Nat.ne_of_lt (blk_lt (g := gb334) (o := .cells #[.int .i64 t330, .slice Ao27 t331.length co27] 31 (0, 0)) (by (with_reducible repeat (first | refine blk_drewN ?_ _ | refine blk_drew ?_ | refine blk_alloc ?_ _)); exact BK334.out)) : gb334 ≠ gb353)); have n13_ := Aside0.mk ((by rw [hg]; exact Nat.ne_of_gt (blk_lt (g := gb334) (o := .cells #[.int .i64 t330, .slice Ao27 t331.length co27] 31 (0, 0)) (by (with_reducible repeat (first | refine blk_drewN ?_ _ | refine blk_drew ?_ | refine blk_alloc ?_ _)); exact BK334.out)) : gb353 ≠ gb334)); clear HO_327001; clear HO_335001; clear HO348; clear HO352; clear BK326; clear BK334; clear HB; have HO_327001 := n0_; have HO_335001 := n1_; have HO348 := n2_; have HO352 := n3_; have BK326 := n4_; have BK334 := n5_; have HB := n6_; have BK353 := n7_; have GW353 := n8_; have GE353 := n9_; have NB326_353 := n10_; have NB353_326 := n11_; have NB334_353 := n12_; have NB353_334 := n13_; clear n0_ n1_ n2_ n3_ n4_ n5_ n6_ n7_ n8_ n9_ n10_ n11_ n12_ n13_; clear hb hbox hg; have hnb61 := NB353_326.out; have hnc61 := NB326_353.out; have hnb62 := NB353_334.out; have hnc62 := NB334_353.out; have hcz63_0 : w60.cell? ⟨gb353, 0, none⟩ = some (.int .i64 0) := (blk_cell BK353.out 0).trans rfl; have hcz63_1 : w60.cell? ⟨gb353, 1, none⟩ = some (.slice none 0 0) := (blk_cell BK353.out 1).trans rfl; have hfz63_0 := blk_frozen BK353.out 0; have hfz63_1 := blk_frozen BK353.out 1; obtain ⟨Ao64, co64, eo64⟩ := Kd.R_slice HO352.out; subst eo64; have hcz65_0 : w60.cell? ⟨gb326, 0, none⟩ = some (.int .i64 t322) := (blk_cell BK326.out 0).trans rfl; have hcz65_1 : w60.cell? ⟨gb326, 1, none⟩ = some (.slice Ao20 t323.length co20) := (blk_cell BK326.out 1).trans rfl; have hfz65_0 := blk_frozen BK326.out 0; have hfz65_1 := blk_frozen BK326.out 1) | ((with_reducible refine gate_callee (f := 15) rfl ?_); refine goesL_ (some 59) rfl rfl Try.func15 (by kernel_rfl) rfl #[.agg #[.int .i64 t349, .slice Ao64 t350.length co64], .agg #[.int .i64 t322, .slice Ao20 t323.length co20]] rfl (by (try simp only [List.map_toArray, List.map_cons, List.map_nil]); first | done | rfl | (simp only [List.length_drop, List.length_take]; rfl)) ?_; (with_reducible refine (laws_eqIntsResult.calls kj13 t349 _ _ t350 t322 _ _ t323 true _ ?side1 ?side2 ?side3 ?side4 A47.out).mono ?_); (case side1 => refine (Kd.R_reads' (e := 2) (base := w.heap.size) (ok := fun k_ => ((True ∧ some k_ ≠ (.slice Ao20 t323.length co20 : Value).ownBlock) ∧ some k_ ≠ (.slice Ao27 t331.length co27 : Value).ownBlock)) (n := t350.length) (c := co64) ?_).2.2; exact (by (with_reducible repeat (first | apply Kd.R_alloc | apply Kd.R_drewN | apply Kd.R_drew)); exact (Kd.R_mono (Kd.R_far (p := ⟨gb353, 1, none⟩) (Kd.R_far (p := ⟨gb353, 0, none⟩) (Kd.R_types HO352.out BK353.out (by decide)) (fun _ hk => hk.2) (.int .i64 t349)) (fun _ hk => hk.2) (.slice Ao64 t350.length co64)) (fun _ h_ => h_.1)))); (case side2 => exact (Kd.R_reads' HO352.out).2.1); (case side3 => refine (Kd.R_reads' (e := 2) (base := w.heap.size) (ok := fun k_ => (some k_ ≠ (.slice Ao27 t331.length co27 : Value).ownBlock ∧ some k_ ≠ (.slice Ao64 t350.length co64 : Value).ownBlock)) (n := t323.length) (c := co20) ?_).2.2; exact (by (with_reducible repeat (first | apply Kd.R_alloc | apply Kd.R_drewN | apply Kd.R_drew)); exact (Kd.R_mono (Kd.R_far (p := ⟨gb353, 1, none⟩) (Kd.R_far (p := ⟨gb353, 0, none⟩) (Kd.R_types HO_327001.out BK353.out (by decide)) (fun _ hk => hk.2) (.int .i64 t349)) (fun _ hk => hk.2) (.slice Ao64 t350.length co64)) (fun _ h_ => h_.1)))); (case side4 => exact (Kd.R_reads' HO_327001.out).2.1); rintro e w66 ⟨rfl, hb⟩; refine ⟨_, rfl, ?_⟩; have n0_ := Aside0.mk (Kd.R_below (by (with_reducible repeat (first | apply Kd.R_alloc | apply Kd.R_drewN | apply Kd.R_drew)); exact (Kd.R_mono (Kd.R_far (p := ⟨gb353, 1, none⟩) (Kd.R_far (p := ⟨gb353, 0, none⟩) (Kd.R_types HO_327001.out BK353.out (by decide)) (fun _ hk => hk.2) (.int .i64 t349)) (fun _ hk => hk.2) (.slice Ao64 t350.length co64)) (fun _ h_ => h_.1))) hb); have n1_ := Aside0.mk (Kd.R_below (by (with_reducible repeat (first | apply Kd.R_alloc | apply Kd.R_drewN | apply Kd.R_drew)); exact (Kd.R_mono (Kd.R_far (p := ⟨gb353, 1, none⟩) (Kd.R_far (p := ⟨gb353, 0, none⟩) (Kd.R_types HO_335001.out BK353.out (by decide)) (fun _ hk => hk.2) (.int .i64 t349)) (fun _ hk => hk.2) (.slice Ao64 t350.length co64)) (fun _ h_ => h_.1))) hb); have n2_ := Aside0.mk (Kd.R_below (by (with_reducible repeat (first | apply Kd.R_alloc | apply Kd.R_drewN | apply Kd.R_drew)); exact (Kd.R_mono (Kd.R_far (p := ⟨gb353, 1, none⟩) (Kd.R_far (p := ⟨gb353, 0, none⟩) (Kd.R_types HO348.out BK353.out (by decide)) (fun _ hk => hk.2) (.int .i64 t349)) (fun _ hk => hk.2) (.slice Ao64 t350.length co64)) (fun _ h_ => h_.1))) hb); have n3_ := Aside0.mk (Kd.R_below (by (with_reducible repeat (first | apply Kd.R_alloc | apply Kd.R_drewN | apply Kd.R_drew)); exact (Kd.R_mono (Kd.R_far (p := ⟨gb353, 1, none⟩) (Kd.R_far (p := ⟨gb353, 0, none⟩) (Kd.R_types HO352.out BK353.out (by decide)) (fun _ hk => hk.2) (.int .i64 t349)) (fun _ hk => hk.2) (.slice Ao64 t350.length co64)) (fun _ h_ => h_.1))) hb); have n4_ := Aside0.mk (blk_below (g := gb326) (o := .cells #[.int .i64 t322, .slice Ao20 t323.length co20] 31 (0, 0)) (by (with_reducible repeat (first | refine blk_drewN ?_ _ | refine blk_drew ?_ | refine blk_alloc ?_ _)); refine blk_far ?_ NB326_353.out _; (with_reducible repeat (first | refine blk_drewN ?_ _ | refine blk_drew ?_ | refine blk_alloc ?_ _)); refine blk_far ?_ NB326_353.out _; (with_reducible repeat (first | refine blk_drewN ?_ _ | refine blk_drew ?_ | refine blk_alloc ?_ _)); exact BK326.out) hb); have n5_ := Aside0.mk (blk_below (g := gb334) (o := .cells #[.int .i64 t330, .slice Ao27 t331.length co27] 31 (0, 0)) (by (with_reducible repeat (first | refine blk_drewN ?_ _ | refine blk_drew ?_ | refine blk_alloc ?_ _)); refine blk_far ?_ NB334_353.out _; (with_reducible repeat (first | refine blk_drewN ?_ _ | refine blk_drew ?_ | refine blk_alloc ?_ _)); refine blk_far ?_ NB334_353.out _; (with_reducible repeat (first | refine blk_drewN ?_ _ | refine blk_drew ?_ | refine blk_alloc ?_ _)); exact BK334.out) hb); have n6_ := Aside0.mk (blk_below (g := gb353) (o := .cells #[.int .i64 t349, .slice Ao64 t350.length co64] 31 (0, 0)) (by (with_reducible repeat (first | refine blk_drewN ?_ _ | refine blk_drew ?_ | refine blk_alloc ?_ _)); refine blk_put (cs := #[.int .i64 t349, .slice none 0 0]) ?_ 1 _ rfl; (with_reducible repeat (first | refine blk_drewN ?_ _ | refine blk_drew ?_ | refine blk_alloc ?_ _)); refine blk_put (cs := #[.int .i64 0, .slice none 0 0]) ?_ 0 _ rfl; (with_reducible repeat (first | refine blk_drewN ?_ _ | refine blk_drew ?_ | refine blk_alloc ?_ _)); exact BK353.out) hb); have n7_ := Aside0.mk (below_step (by repeat (first | (with_reducible first | exact HB.out | apply below_alloc | apply pw_below_drewN | apply below_drew1 | refine below_set ?_ GE326.out | refine below_set ?_ GE334.out | refine below_set ?_ GE353.out) | exact HB.out)) hb); clear HO_327001; clear HO_335001; clear HO348; clear HO352; clear BK326; clear BK334; clear BK353; clear HB; have HO_327001 := n0_; have HO_335001 := n1_; have HO348 := n2_; have HO352 := n3_; have BK326 := n4_; have BK334 := n5_; have BK353 := n6_; have HB := n7_; clear n0_ n1_ n2_ n3_ n4_ n5_ n6_ n7_; (try clear hb); (try clear hb2); (try clear hk); (try clear hi); have hcz67_0 : w66.cell? ⟨gb334, 0, none⟩ = some (.int .i64 t330) := (blk_cell BK334.out 0).trans rfl; have hcz67_1 : w66.cell? ⟨gb334, 1, none⟩ = some (.slice Ao27 t331.length co27) := (blk_cell BK334.out 1).trans rfl; have hfz67_0 := blk_frozen BK334.out 0; have hfz67_1 := blk_frozen BK334.out 1) | ((with_reducible refine gate_callee (f := 18) rfl ?_); refine goesL_ (some 63) rfl rfl Try.func18 (by kernel_rfl) rfl #[.agg #[.int .i64 t330, .slice Ao27 t344.length co27], .int .i64 1] rfl (by (try simp only [List.map_toArray, List.map_cons, List.map_nil]); first | done | (rw [show t344.length = t331.length from (Kd.R_reads' HO_335001.out).1.symm] <;> rfl) | rfl | (simp only [List.length_drop, List.length_take]; rfl)) ?_; (with_reducible refine (laws_heldIntsResult.calls kj13 t330 _ _ t344 1 t355 _ ?side1 ?side2 A49.out).mono ?_); (case side1 => repeat (first | exact (Kd.R_reads' HO_335001.out).2.2 | (with_reducible refine Kd.C_alloc ?_ _) | (with_reducible refine Kd.C_drewN ?_ _) | (with_reducible refine Kd.C_drew ?_))); (case side2 => rw [show t344.length = t331.length from (Kd.R_reads' HO_335001.out).1.symm]; exact (Kd.R_reads' HO_335001.out).2.1); rintro e w68 ⟨rfl, hb⟩; refine ⟨_, rfl, ?_⟩; have n0_ := Aside0.mk (Kd.R_below (by (with_reducible repeat (first | apply Kd.R_alloc | apply Kd.R_drewN | apply Kd.R_drew)); exact HO_327001.out) hb); have n1_ := Aside0.mk (Kd.R_below (by (with_reducible repeat (first | apply Kd.R_alloc | apply Kd.R_drewN | apply Kd.R_drew)); exact HO_335001.out) hb); have n2_ := Aside0.mk (Kd.R_below (by (with_reducible repeat (first | apply Kd.R_alloc | apply Kd.R_drewN | apply Kd.R_drew)); exact HO348.out) hb); have n3_ := Aside0.mk (Kd.R_below (by (with_reducible repeat (first | apply Kd.R_alloc | apply Kd.R_drewN | apply Kd.R_drew)); exact HO352.out) hb); have n4_ := Aside0.mk (blk_below (g := gb326) (o := .cells #[.int .i64 t322, .slice Ao20 t323.length co20] 31 (0, 0)) (by (with_reducible repeat (first | refine blk_drewN ?_ _ | refine blk_drew ?_ | refine blk_alloc ?_ _)); exact BK326.out) hb); have n5_ := Aside0.mk (blk_below (g := gb334) (o := .cells #[.int .i64 t330, .slice Ao27 t331.length co27] 31 (0, 0)) (by (with_reducible repeat (first | refine blk_drewN ?_ _ | refine blk_drew ?_ | refine blk_alloc ?_ _)); exact BK334.out) hb); have n6_ := Aside0.mk (blk_below (g := gb353) (o := .cells #[.int .i64 t349, .slice Ao64 t350.length co64] 31 (0, 0)) (by (with_reducible repeat (first | refine blk_drewN ?_ _ | refine blk_drew ?_ | refine blk_alloc ?_ _)); exact BK353.out) hb); have n7_ := Aside0.mk (below_step (by repeat (first | (with_reducible first | exact HB.out | apply below_alloc | apply pw_below_drewN | apply below_drew1 | refine below_set ?_ GE326.out | refine below_set ?_ GE334.out | refine below_set ?_ GE353.out) | exact HB.out)) hb); clear HO_327001; clear HO_335001; clear HO348; clear HO352; clear BK326; clear BK334; clear BK353; clear HB; have HO_327001 := n0_; have HO_335001 := n1_; have HO348 := n2_; have HO352 := n3_; have BK326 := n4_; have BK334 := n5_; have BK353 := n6_; have HB := n7_; clear n0_ n1_ n2_ n3_ n4_ n5_ n6_ n7_; (try clear hb); (try clear hb2); (try clear hk); (try clear hi)))
                        go_ret
                        exact ⟨by first | rfl | (simp [errW_none, errW_some] <;> rfl) | (simp [*, errW_none, errW_some] <;> rfl), by repeat (first | (with_reducible first | exact HB.out | apply below_alloc | apply pw_below_drewN | apply below_drew1 | refine below_set ?_ GE326.out | refine below_set ?_ GE334.out | refine below_set ?_ GE353.out) | exact HB.out)⟩
                      · rw [if_neg c51] at H
                        have c51b0 : (t355 == t343) = false := beq_eq_false_iff_ne.mpr c51
                        have c51b1 : (t355 != t343) = true := bne_iff_ne.mpr c51
                        exact absurd (Option.some.inj H) (by rw [HRT.out]; decide)
                  · replace c48 := Bool.eq_false_iff.mpr c48
                    subst c48
                    have H1 : (some false) = some r := by rw [if_neg (show ¬ (false = true) by decide)] at H; exact H
                    clear H
                    have H := H1
                    clear H1
                    exact absurd (Option.some.inj H) (by rw [HRT.out]; decide)
                · rw [if_neg c44] at H
                  have c44b0 : (t345 == t343) = false := beq_eq_false_iff_ne.mpr c44
                  have c44b1 : (t345 != t343) = true := bne_iff_ne.mpr c44
                  exact absurd (Option.some.inj H) (by rw [HRT.out]; decide)
      · replace c12 := Bool.eq_false_iff.mpr c12
        subst c12
        have H1 : (some false) = some r := by rw [if_neg (show ¬ (false = true) by decide)] at H; exact H
        clear H
        have H := H1
        clear H1
        exact absurd (Option.some.inj H) (by rw [HRT.out]; decide)
    · replace c9 := Bool.eq_false_iff.mpr c9
      subst c9
      have H1 : (some false) = some r := by rw [if_neg (show ¬ (false = true) by decide)] at H; exact H
      clear H
      have H := H1
      clear H1
      exact absurd (Option.some.inj H) (by rw [HRT.out]; decide)

end Go.Proofs.Ytkabmhjnhcfkcaa.XFnExactSerialOrder
