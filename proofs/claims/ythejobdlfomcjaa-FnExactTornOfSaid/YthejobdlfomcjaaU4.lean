/- Part 4 of the proof that the law FnExactTornOf answers true at every input: memory as trees, the program walked over them, and what it computes; no condition. -/
import Derived.Laws.BytesArg
import Derived.Test.YthejobdlfomcjaaU3
namespace Go.Proofs.Ythejobdlfomcjaa
open Go Go.Px Go.RowKit Go.Proofs
set_option linter.unnecessarySimpa false
set_option linter.unusedVariables false
set_option linter.unusedSimpArgs false
set_option maxRecDepth 100000
attribute [-simp] Int.not_le Int.not_lt
theorem clone_seg (H : HH) {r q i n} {l : List Int} (hb : l.length ≤ 1048576) (hn : i + n ≤ l.length) (ha : arrAt H r q = some (1, l.map encU8)) : PFun Try.prog 126 [.c (.sl r q 1 i n)] H (.c (.own 1 (((l.drop i).take n).map encU8))) := by
  refine PFun.of [0, 2, 4] Try.func126 rfl (by simp [Try.f126]) ?_
  intro d hd0 hfr hcl hout
  have hcd : ∀ n q, CleanH (hit [((d, n), q)]) H := fun n q => hcl.at
  have ha_n : ∀ n, ¬ (d, n) = r := fun n => nm_ne (ne_of_arr hfr ha)
  have ha_d : ¬ r.1 = d := ne_of_arr hfr ha
  have ha_m : ∀ n, ¬ r = (d, n) := fun n => nm_ne' (ne_of_arr hfr ha)
  simp (maxSteps := 4000000) [hd0, hfr, hout, hcl, hcd, delA_none, ha, ha_n, ha_d, ha_m, Try.f126]
  have hno : ∀ row ∈ List.take n (List.drop i (l.map encU8)), ∀ c ∈ row, isOwn c = false := fun row hr c hc => U8_no row (List.mem_of_mem_drop (List.mem_of_mem_take hr)) c hc
  refine ⟨⟨hno, by omega⟩, ?_⟩
  intro h
  subst h
  simp
def newL (id : Int) (data : List Int) (k : Nat) : List DLoose := (List.range k).map fun p => ⟨id, (p : Nat), (data.drop (16 * p)).take 16⟩
theorem newL_succ {id data k} : newL id data (k + 1) = newL id data k ++ [⟨id, (k : Nat), (data.drop (16 * k)).take 16⟩] := by simp [newL, List.range_succ]
def placeF (x : DDisk) (id : Int) (data : List Int) : DDiskResult :=
  if diskF x ≠ 0 then ⟨diskF x, ⟨[], []⟩⟩ else if inR id 0 (x.pages.length - 1) = false then ⟨3, ⟨[], []⟩⟩ else if data.length ≠ 48 then ⟨1, ⟨[], []⟩⟩ else if x.loose.length + 3 > 60 then ⟨2, ⟨[], []⟩⟩ else ⟨0, ⟨x.pages, x.loose ++ newL id data 3⟩⟩
theorem impl_PlaceDisk (H : HH) {r1 q1 r2 q2 r3 q3} {x : DDisk} {id : Int} {data : List Int} (hl : x.le 1048576) (hdl : data.length ≤ 1048576) (a1 : arrAt H r1 q1 = some (1, x.pages.map (encS 1 encU8))) (a2 : arrAt H r2 q2 = some (3, x.loose.map DLoose.enc)) (a3 : arrAt H r3 q3 = some (1, data.map encU8)) :
    PFun Try.prog 47 [.a [.sl r1 q1 1 0 x.pages.length, .sl r2 q2 3 0 x.loose.length], I id, .c (.sl r3 q3 1 0 data.length)] H (.a (placeF x id data).enc) := by
  have hl' := hl
  obtain ⟨⟨b1, b1p⟩, b2, b2p⟩ := hl'
  refine PFun.of [1, 2, 3, 6, 7, 8, 9, 12, 15, 20, 24, 31, 36, 37] Try.func47 rfl (by simp [Try.f47]) ?_
  intro d hd0 hfr hcl hout
  have hcd : ∀ n q, CleanH (hit [((d, n), q)]) H := fun n q => hcl.at
  have a1_n : ∀ n, ¬ (d, n) = r1 := fun n => nm_ne (ne_of_arr hfr a1)
  have a1_d : ¬ r1.1 = d := ne_of_arr hfr a1
  have a1_m : ∀ n, ¬ r1 = (d, n) := fun n => nm_ne' (ne_of_arr hfr a1)
  have a2_n : ∀ n, ¬ (d, n) = r2 := fun n => nm_ne (ne_of_arr hfr a2)
  have a2_d : ¬ r2.1 = d := ne_of_arr hfr a2
  have a2_m : ∀ n, ¬ r2 = (d, n) := fun n => nm_ne' (ne_of_arr hfr a2)
  have a3_n : ∀ n, ¬ (d, n) = r3 := fun n => nm_ne (ne_of_arr hfr a3)
  have a3_d : ¬ r3.1 = d := ne_of_arr hfr a3
  have a3_m : ∀ n, ¬ r3 = (d, n) := fun n => nm_ne' (ne_of_arr hfr a3)
  simp (maxSteps := 4000000) [hd0, hfr, hout, hcl, hcd, delA_none, a1, a1_n, a1_d, a1_m, a2, a2_n, a2_d, a2_m, a3, a3_n, a3_d, a3_m, Try.f47]
  refine (impl_DiskFault _ hl (by simp (maxSteps := 4000000) [hd0, hfr, hout, hcl, hcd, delA_none, a1, a1_n, a1_d, a1_m, a2, a2_n, a2_d, a2_m, a3, a3_n, a3_d, a3_m]) (by simp (maxSteps := 4000000) [hd0, hfr, hout, hcl, hcd, delA_none, a1, a1_n, a1_d, a1_m, a2, a2_n, a2_d, a2_m, a3, a3_n, a3_d, a3_m])).useCK ?_
  simp (maxSteps := 4000000) [hd0, hfr, hout, hcl, hcd, delA_none, a1, a1_n, a1_d, a1_m, a2, a2_n, a2_d, a2_m, a3, a3_n, a3_d, a3_m]
  by_cases h0 : diskF x = 0
  case neg => simp (maxSteps := 4000000) [hd0, hfr, hout, hcl, hcd, delA_none, a1, a1_n, a1_d, a1_m, a2, a2_n, a2_d, a2_m, a3, a3_n, a3_d, a3_m, h0, placeF, DDiskResult.enc]
  simp (maxSteps := 4000000) [hd0, hfr, hout, hcl, hcd, delA_none, a1, a1_n, a1_d, a1_m, a2, a2_n, a2_d, a2_m, a3, a3_n, a3_d, a3_m, h0]
  refine (impl_Disk_hasPage _ b1).useCK ?_
  simp (maxSteps := 4000000) [hd0, hfr, hout, hcl, hcd, delA_none, a1, a1_n, a1_d, a1_m, a2, a2_n, a2_d, a2_m, a3, a3_n, a3_d, a3_m]
  by_cases h1 : inR id 0 (x.pages.length - 1) = true
  case neg =>
    simp only [Bool.not_eq_true] at h1
    simp (maxSteps := 4000000) [hd0, hfr, hout, hcl, hcd, delA_none, a1, a1_n, a1_d, a1_m, a2, a2_n, a2_d, a2_m, a3, a3_n, a3_d, a3_m, h0, h1, placeF, DDiskResult.enc]
  rw [h1]
  by_cases h2 : data.length = 48
  case neg => simp (maxSteps := 4000000) [hd0, hfr, hout, hcl, hcd, delA_none, a1, a1_n, a1_d, a1_m, a2, a2_n, a2_d, a2_m, a3, a3_n, a3_d, a3_m, show ¬ (data.length : Int) = 48 by omega, h0, h1, h2, placeF, DDiskResult.enc]
  have w0 : IntKind.i64.wrap ((x.loose.length : Int) + 3) = x.loose.length + 3 := w64 (by omega) (by omega)
  by_cases h3 : x.loose.length + 3 > 60
  case pos => simp (maxSteps := 4000000) [hd0, hfr, hout, hcl, hcd, delA_none, a1, a1_n, a1_d, a1_m, a2, a2_n, a2_d, a2_m, a3, a3_n, a3_d, a3_m, show (data.length : Int) = 48 by omega, w0, show 60 < (x.loose.length : Int) + 3 by omega, h0, h1, h2, h3, placeF, DDiskResult.enc]
  simp (maxSteps := 4000000) [hd0, hfr, hout, hcl, hcd, delA_none, a1, a1_n, a1_d, a1_m, a2, a2_n, a2_d, a2_m, a3, a3_n, a3_d, a3_m, h2, w0, show ¬ 60 < (x.loose.length : Int) + 3 by omega]
  refine (impl_Disk_copied _ hl (by simp (maxSteps := 4000000) [hd0, hfr, hout, hcl, hcd, delA_none, a1, a1_n, a1_d, a1_m, a2, a2_n, a2_d, a2_m, a3, a3_n, a3_d, a3_m]) (by simp (maxSteps := 4000000) [hd0, hfr, hout, hcl, hcd, delA_none, a1, a1_n, a1_d, a1_m, a2, a2_n, a2_d, a2_m, a3, a3_n, a3_d, a3_m])).useCK ?_
  have hp : placeF x id data = ⟨0, ⟨x.pages, x.loose ++ newL id data 3⟩⟩ := by simp only [placeF, h0, h1, h2]; simp; omega
  rw [hp]
  clear hp
  simp (maxSteps := 4000000) [hd0, hfr, hout, hcl, hcd, delA_none, a1, a1_n, a1_d, a1_m, a2, a2_n, a2_d, a2_m, a3, a3_n, a3_d, a3_m, DDisk.enc]
  refine LoopK.intro (fun m s => ∃ k : Nat, k + m = 3 ∧ s = ⟨[(1, I id), (2, .c (.sl r3 q3 1 0 48)), (6, .c (.pt (d, 6) [] 3 0 0)), (8, .c (.pt (d, 8) [] 2 0 0)), (36, I k)],
      ((d, 8), .own 2 [[.own 1 (x.pages.map (encS 1 encU8)), .own 3 ((x.loose ++ newL id data k).map DLoose.enc)]]) :: ((d, 6), .own 3 [[.v (.int .i64 0), .own 1 [], .own 3 []]]) :: H, []⟩) (3 + 1)
    (LK.intro 3 [1, 2, 6, 8, 36] [3] (by omega) (by decide) (by simp (maxSteps := 4000000) [hd0, hfr, hout, hcl, hcd, delA_none, a1, a1_n, a1_d, a1_m, a2, a2_n, a2_d, a2_m, a3, a3_n, a3_d, a3_m]) ⟨0, by simp [newL]⟩) ?_
  rintro m s ⟨k, hkm, rfl⟩
  by_cases hk : k < 3
  · have w1 : IntKind.i64.wrap ((k : Int) + 1) = k + 1 := w64 (by omega) (by omega)
    obtain ⟨a, ha⟩ : ∃ a : Nat, a = 16 * k := ⟨_, rfl⟩
    obtain ⟨b, hb⟩ : ∃ b : Nat, b = a + 16 := ⟨_, rfl⟩
    have w2 : IntKind.i64.wrap (16 * (k : Int)) = (a : Int) := by rw [w64 (by omega) (by omega)]; omega
    have w3 : IntKind.i64.wrap (16 * ((k : Int) + 1)) = (b : Int) := by rw [w64 (by omega) (by omega)]; omega
    have hnx := newL_succ (id := id) (data := data) (k := k)
    rw [← ha] at hnx
    have hll : (newL id data k).length = k := by simp [newL]
    simp (maxSteps := 4000000) [hd0, hfr, hout, hcl, hcd, delA_none, a1, a1_n, a1_d, a1_m, a2, a2_n, a2_d, a2_m, a3, a3_n, a3_d, a3_m, show (k : Int) < 3 by omega]
    refine DrawK.intro 14 [1, 2, 6, 8, 36, 40, 52] rfl (by kernel_rfl) (by decide) ?_
    simp (maxSteps := 4000000) [hd0, hfr, hout, hcl, hcd, delA_none, a1, a1_n, a1_d, a1_m, a2, a2_n, a2_d, a2_m, a3, a3_n, a3_d, a3_m, w1, w2, w3]
    refine ⟨by omega, _, clone_seg _ hdl (by omega) (by simp (maxSteps := 4000000) [hd0, hfr, hout, hcl, hcd, delA_none, a1, a1_n, a1_d, a1_m, a2, a2_n, a2_d, a2_m, a3, a3_n, a3_d, a3_m]), ?_⟩
    rw [show b - a = 16 by omega]
    simp (maxSteps := 4000000) [hd0, hfr, hout, hcl, hcd, delA_none, a1, a1_n, a1_d, a1_m, a2, a2_n, a2_d, a2_m, a3, a3_n, a3_d, a3_m, hll, hnx]
    refine ⟨by kernel_rfl, by kernel_rfl, by omega, ?_⟩
    refine LK.intro (m - 1) [1, 2, 6, 8, 36] [] (by omega) (by decide) (by simp (maxSteps := 4000000) [hd0, hfr, hout, hcl, hcd, delA_none, a1, a1_n, a1_d, a1_m, a2, a2_n, a2_d, a2_m, a3, a3_n, a3_d, a3_m]) ⟨k + 1, by omega, by simp [hnx, DLoose.enc, w1]⟩
  · have : k = 3 := by omega
    subst this
    simp (maxSteps := 4000000) [hd0, hfr, hout, hcl, hcd, delA_none, a1, a1_n, a1_d, a1_m, a2, a2_n, a2_d, a2_m, a3, a3_n, a3_d, a3_m, DDiskResult.enc]
theorem spec_l2Page (H : HH) {r q c1 n v} {rows : List (List Cell)} (hn : n = rows.length) (hb : n ≤ 1048576) (ha : arrAt H r q = some (2, [[.own 1 rows, c1]])) : PFun Try.prog 122 [.c (.pt r q 2 0 0), I v] H (B (inR v 0 (n - 1))) := by
  subst hn
  refine PFun.of [0, 1, 4] Try.func122 rfl (by simp [Try.f122]) ?_
  intro d hd0 hfr hcl hout
  have hcd : ∀ n q, CleanH (hit [((d, n), q)]) H := fun n q => hcl.at
  have ha_n : ∀ n, ¬ (d, n) = r := fun n => nm_ne (ne_of_arr hfr ha)
  have ha_d : ¬ r.1 = d := ne_of_arr hfr ha
  have ha_m : ∀ n, ¬ r = (d, n) := fun n => nm_ne' (ne_of_arr hfr ha)
  simp (maxSteps := 4000000) [hd0, hfr, hout, hcl, hcd, delA_none, ha, ha_n, ha_d, ha_m, Try.f122]
  have w1 : IntKind.i64.wrap ((rows.length : Int) - 1) = rows.length - 1 := w64 (by omega) (by omega)
  simp (maxSteps := 4000000) [hd0, hfr, hout, hcl, hcd, delA_none, ha, ha_n, ha_d, ha_m, w1]
  refine (spec_l1In _ _ _ _).useCK ?_
  simp (maxSteps := 4000000) [hd0, hfr, hout, hcl, hcd, delA_none, ha, ha_n, ha_d, ha_m]
theorem spec_l2Page2 (H : HH) {r q r1 q1 c1 n v} (hb : n ≤ 1048576) (ha : arrAt H r q = some (2, [[.sl r1 q1 1 0 n, c1]])) : PFun Try.prog 122 [.c (.pt r q 2 0 0), I v] H (B (inR v 0 (n - 1))) := by
  refine PFun.of [0, 1, 4] Try.func122 rfl (by simp [Try.f122]) ?_
  intro d hd0 hfr hcl hout
  have hcd : ∀ n q, CleanH (hit [((d, n), q)]) H := fun n q => hcl.at
  have ha_n : ∀ n, ¬ (d, n) = r := fun n => nm_ne (ne_of_arr hfr ha)
  have ha_d : ¬ r.1 = d := ne_of_arr hfr ha
  have ha_m : ∀ n, ¬ r = (d, n) := fun n => nm_ne' (ne_of_arr hfr ha)
  simp (maxSteps := 4000000) [hd0, hfr, hout, hcl, hcd, delA_none, ha, ha_n, ha_d, ha_m, Try.f122]
  have w1 : IntKind.i64.wrap ((n : Int) - 1) = n - 1 := w64 (by omega) (by omega)
  simp (maxSteps := 4000000) [hd0, hfr, hout, hcl, hcd, delA_none, ha, ha_n, ha_d, ha_m, w1]
  refine (spec_l1In _ _ _ _).useCK ?_
  simp (maxSteps := 4000000) [hd0, hfr, hout, hcl, hcd, delA_none, ha, ha_n, ha_d, ha_m]
theorem spec_l2Place (H : HH) {r1 q1 r2 q2 r3 q3} {x : DDisk} {id : Int} {data : List Int} (hl : x.le 1048576) (h48 : data.length = 48) (a1 : arrAt H r1 q1 = some (1, x.pages.map (encS 1 encU8))) (a2 : arrAt H r2 q2 = some (3, x.loose.map DLoose.enc)) (a3 : arrAt H r3 q3 = some (1, data.map encU8)) :
    PFun Try.prog 123 [.a [.sl r1 q1 1 0 x.pages.length, .sl r2 q2 3 0 x.loose.length], I id, .c (.sl r3 q3 1 0 48)] H (if x.loose.length + 3 > 60 then .t [.a [.sl r1 q1 1 0 x.pages.length, .sl r2 q2 3 0 x.loose.length], I 2] else .t [.a (DDisk.mk x.pages (x.loose ++ newL id data 3)).enc, I 0]) := by
  have hl' := hl
  obtain ⟨⟨b1, b1p⟩, b2, b2p⟩ := hl'
  have w0 : IntKind.i64.wrap ((x.loose.length : Int) + 3) = x.loose.length + 3 := w64 (by omega) (by omega)
  by_cases h3 : x.loose.length + 3 > 60
  · rw [if_pos h3]
    refine PFun.of [1, 2, 3, 6, 7, 8, 9, 14, 19] Try.func123 rfl (by simp [Try.f123]) ?_
    intro d hd0 hfr hcl hout
    have hcd : ∀ n q, CleanH (hit [((d, n), q)]) H := fun n q => hcl.at
    have a1_n : ∀ n, ¬ (d, n) = r1 := fun n => nm_ne (ne_of_arr hfr a1)
    have a1_d : ¬ r1.1 = d := ne_of_arr hfr a1
    have a1_m : ∀ n, ¬ r1 = (d, n) := fun n => nm_ne' (ne_of_arr hfr a1)
    have a2_n : ∀ n, ¬ (d, n) = r2 := fun n => nm_ne (ne_of_arr hfr a2)
    have a2_d : ¬ r2.1 = d := ne_of_arr hfr a2
    have a2_m : ∀ n, ¬ r2 = (d, n) := fun n => nm_ne' (ne_of_arr hfr a2)
    have a3_n : ∀ n, ¬ (d, n) = r3 := fun n => nm_ne (ne_of_arr hfr a3)
    have a3_d : ¬ r3.1 = d := ne_of_arr hfr a3
    have a3_m : ∀ n, ¬ r3 = (d, n) := fun n => nm_ne' (ne_of_arr hfr a3)
    simp (maxSteps := 4000000) [hd0, hfr, hout, hcl, hcd, delA_none, a1, a1_n, a1_d, a1_m, a2, a2_n, a2_d, a2_m, a3, a3_n, a3_d, a3_m, Try.f123, w0, show 60 < (x.loose.length : Int) + 3 by omega]
  rw [if_neg h3]
  refine PFun.of [1, 2, 3, 6, 7, 8, 9, 14, 19] Try.func123 rfl (by simp [Try.f123]) ?_
  intro d hd0 hfr hcl hout
  have hcd : ∀ n q, CleanH (hit [((d, n), q)]) H := fun n q => hcl.at
  have a1_n : ∀ n, ¬ (d, n) = r1 := fun n => nm_ne (ne_of_arr hfr a1)
  have a1_d : ¬ r1.1 = d := ne_of_arr hfr a1
  have a1_m : ∀ n, ¬ r1 = (d, n) := fun n => nm_ne' (ne_of_arr hfr a1)
  have a2_n : ∀ n, ¬ (d, n) = r2 := fun n => nm_ne (ne_of_arr hfr a2)
  have a2_d : ¬ r2.1 = d := ne_of_arr hfr a2
  have a2_m : ∀ n, ¬ r2 = (d, n) := fun n => nm_ne' (ne_of_arr hfr a2)
  have a3_n : ∀ n, ¬ (d, n) = r3 := fun n => nm_ne (ne_of_arr hfr a3)
  have a3_d : ¬ r3.1 = d := ne_of_arr hfr a3
  have a3_m : ∀ n, ¬ r3 = (d, n) := fun n => nm_ne' (ne_of_arr hfr a3)
  simp (maxSteps := 4000000) [hd0, hfr, hout, hcl, hcd, delA_none, a1, a1_n, a1_d, a1_m, a2, a2_n, a2_d, a2_m, a3, a3_n, a3_d, a3_m, Try.f123, w0, show ¬ 60 < (x.loose.length : Int) + 3 by omega]
  refine (spec_l2Copy _ hl (by simp (maxSteps := 4000000) [hd0, hfr, hout, hcl, hcd, delA_none, a1, a1_n, a1_d, a1_m, a2, a2_n, a2_d, a2_m, a3, a3_n, a3_d, a3_m]) (by simp (maxSteps := 4000000) [hd0, hfr, hout, hcl, hcd, delA_none, a1, a1_n, a1_d, a1_m, a2, a2_n, a2_d, a2_m, a3, a3_n, a3_d, a3_m])).useCK ?_
  simp (maxSteps := 4000000) [hd0, hfr, hout, hcl, hcd, delA_none, a1, a1_n, a1_d, a1_m, a2, a2_n, a2_d, a2_m, a3, a3_n, a3_d, a3_m, DDisk.enc]
  refine LoopK.intro (fun m s => ∃ k : Nat, k + m = 3 ∧ s = ⟨[(1, I id), (2, .c (.sl r3 q3 1 0 48)), (6, .c (.pt (d, 6) [] 2 0 0)), (8, .c (.pt (d, 8) [] 2 0 0)), (9, I k)],
      ((d, 8), .own 2 [[.own 1 (x.pages.map (encS 1 encU8)), .own 3 ((x.loose ++ newL id data k).map DLoose.enc)]]) :: ((d, 6), .own 2 [[.own 1 [], .own 3 []]]) :: H, []⟩) (3 + 1)
    (LK.intro 3 [1, 2, 6, 8, 9] [3] (by omega) (by decide) (by simp (maxSteps := 4000000) [hd0, hfr, hout, hcl, hcd, delA_none, a1, a1_n, a1_d, a1_m, a2, a2_n, a2_d, a2_m, a3, a3_n, a3_d, a3_m]) ⟨0, by simp [newL]⟩) ?_
  rintro m s ⟨k, hkm, rfl⟩
  by_cases hk : k < 3
  · have w1 : IntKind.i64.wrap ((k : Int) + 1) = k + 1 := w64 (by omega) (by omega)
    obtain ⟨a, ha⟩ : ∃ a : Nat, a = 16 * k := ⟨_, rfl⟩
    obtain ⟨b, hb⟩ : ∃ b : Nat, b = a + 16 := ⟨_, rfl⟩
    have w2 : IntKind.i64.wrap ((k : Int) * 16) = (a : Int) := by rw [w64 (by omega) (by omega)]; omega
    have w3 : IntKind.i64.wrap (((k : Int) + 1) * 16) = (b : Int) := by rw [w64 (by omega) (by omega)]; omega
    have hnx := newL_succ (id := id) (data := data) (k := k)
    rw [← ha] at hnx
    have hll : (newL id data k).length = k := by simp [newL]
    have hseg : List.take (b - a) (List.drop a (data.map encU8)) = ((data.drop a).take 16).map encU8 := by rw [show b - a = 16 by omega]; simp
    have hno : ∀ row ∈ List.take 16 (List.drop a (data.map encU8)), ∀ c ∈ row, isOwn c = false := fun row hr c hc => U8_no row (List.mem_of_mem_drop (List.mem_of_mem_take hr)) c hc
    simp (maxSteps := 4000000) [hd0, hfr, hout, hcl, hcd, delA_none, a1, a1_n, a1_d, a1_m, a2, a2_n, a2_d, a2_m, a3, a3_n, a3_d, a3_m, show (k : Int) < 3 by omega]
    refine DrawK.intro 15 [1, 2, 6, 8, 9, 23, 36] rfl (by kernel_rfl) (by decide) ?_
    simp (maxSteps := 4000000) [hd0, hfr, hout, hcl, hcd, delA_none, a1, a1_n, a1_d, a1_m, a2, a2_n, a2_d, a2_m, a3, a3_n, a3_d, a3_m, w1, w2, w3, hseg, hll, hnx]
    refine ⟨⟨by omega, by omega⟩, by kernel_rfl, hno, ?_⟩
    repeat (first | (refine And.intro (by kernel_rfl) ?_) | (refine And.intro (by omega) ?_))
    refine LK.intro (m - 1) [1, 2, 6, 8, 9] [] (by omega) (by decide) (by simp (maxSteps := 4000000) [hd0, hfr, hout, hcl, hcd, delA_none, a1, a1_n, a1_d, a1_m, a2, a2_n, a2_d, a2_m, a3, a3_n, a3_d, a3_m]) ⟨k + 1, by omega, by simp [hnx, DLoose.enc, w1]⟩
  · have : k = 3 := by omega
    subst this
    simp (maxSteps := 4000000) [hd0, hfr, hout, hcl, hcd, delA_none, a1, a1_n, a1_d, a1_m, a2, a2_n, a2_d, a2_m, a3, a3_n, a3_d, a3_m]
theorem placeF_le {x : DDisk} {id : Int} {data : List Int} (hl : x.le 1048576) (hd : data.length ≤ 1048576) : (placeF x id data).le 1048576 := by
  unfold placeF
  repeat' split
  all_goals simp only [DDiskResult.le, DDisk.le, List.length_nil, List.not_mem_nil, false_implies, implies_true, and_true, Nat.zero_le]
  obtain ⟨⟨b1, b1p⟩, b2, b2p⟩ := hl
  refine ⟨⟨b1, b1p⟩, by simp [newL]; omega, fun l hm => ?_⟩
  rcases List.mem_append.1 hm with hm | hm
  · exact b2p l hm
  · obtain ⟨p, _, rfl⟩ := List.mem_map.1 hm
    simp [DLoose.le]; omega
theorem spec_PlaceDisk (H : HH) {r1 q1 r2 q2 r3 q3} {x : DDisk} {id : Int} {data : List Int} (hl : x.le 1048576) (hdl : data.length ≤ 1048576) (a1 : arrAt H r1 q1 = some (1, x.pages.map (encS 1 encU8))) (a2 : arrAt H r2 q2 = some (3, x.loose.map DLoose.enc)) (a3 : arrAt H r3 q3 = some (1, data.map encU8)) :
    PFun Try.prog 45 [.a [.sl r1 q1 1 0 x.pages.length, .sl r2 q2 3 0 x.loose.length], I id, .c (.sl r3 q3 1 0 data.length)] H (.a (placeF x id data).enc) := by
  have hl' := hl
  obtain ⟨⟨b1, b1p⟩, b2, b2p⟩ := hl'
  refine PFun.of [1, 2, 3, 6, 7, 8, 9, 13, 18, 22, 32] Try.func45 rfl (by simp [Try.f45]) ?_
  intro d hd0 hfr hcl hout
  have hcd : ∀ n q, CleanH (hit [((d, n), q)]) H := fun n q => hcl.at
  have a1_n : ∀ n, ¬ (d, n) = r1 := fun n => nm_ne (ne_of_arr hfr a1)
  have a1_d : ¬ r1.1 = d := ne_of_arr hfr a1
  have a1_m : ∀ n, ¬ r1 = (d, n) := fun n => nm_ne' (ne_of_arr hfr a1)
  have a2_n : ∀ n, ¬ (d, n) = r2 := fun n => nm_ne (ne_of_arr hfr a2)
  have a2_d : ¬ r2.1 = d := ne_of_arr hfr a2
  have a2_m : ∀ n, ¬ r2 = (d, n) := fun n => nm_ne' (ne_of_arr hfr a2)
  have a3_n : ∀ n, ¬ (d, n) = r3 := fun n => nm_ne (ne_of_arr hfr a3)
  have a3_d : ¬ r3.1 = d := ne_of_arr hfr a3
  have a3_m : ∀ n, ¬ r3 = (d, n) := fun n => nm_ne' (ne_of_arr hfr a3)
  simp (maxSteps := 4000000) [hd0, hfr, hout, hcl, hcd, delA_none, a1, a1_n, a1_d, a1_m, a2, a2_n, a2_d, a2_m, a3, a3_n, a3_d, a3_m, Try.f45]
  refine (spec_DiskFault _ hl (by simp (maxSteps := 4000000) [hd0, hfr, hout, hcl, hcd, delA_none, a1, a1_n, a1_d, a1_m, a2, a2_n, a2_d, a2_m, a3, a3_n, a3_d, a3_m]) (by simp (maxSteps := 4000000) [hd0, hfr, hout, hcl, hcd, delA_none, a1, a1_n, a1_d, a1_m, a2, a2_n, a2_d, a2_m, a3, a3_n, a3_d, a3_m])).useCK ?_
  simp (maxSteps := 4000000) [hd0, hfr, hout, hcl, hcd, delA_none, a1, a1_n, a1_d, a1_m, a2, a2_n, a2_d, a2_m, a3, a3_n, a3_d, a3_m]
  by_cases h0 : diskF x = 0
  case neg => simp (maxSteps := 4000000) [hd0, hfr, hout, hcl, hcd, delA_none, a1, a1_n, a1_d, a1_m, a2, a2_n, a2_d, a2_m, a3, a3_n, a3_d, a3_m, h0, placeF, DDiskResult.enc]
  simp (maxSteps := 4000000) [hd0, hfr, hout, hcl, hcd, delA_none, a1, a1_n, a1_d, a1_m, a2, a2_n, a2_d, a2_m, a3, a3_n, a3_d, a3_m, h0]
  refine (spec_l2Page2 _ (r1 := r1) (q1 := q1) (c1 := .sl r2 q2 3 0 x.loose.length) b1 (by simp (maxSteps := 4000000) [hd0, hfr, hout, hcl, hcd, delA_none, a1, a1_n, a1_d, a1_m, a2, a2_n, a2_d, a2_m, a3, a3_n, a3_d, a3_m])).useCK ?_
  simp (maxSteps := 4000000) [hd0, hfr, hout, hcl, hcd, delA_none, a1, a1_n, a1_d, a1_m, a2, a2_n, a2_d, a2_m, a3, a3_n, a3_d, a3_m]
  by_cases h1 : inR id 0 (x.pages.length - 1) = true
  case neg =>
    simp only [Bool.not_eq_true] at h1
    simp (maxSteps := 4000000) [hd0, hfr, hout, hcl, hcd, delA_none, a1, a1_n, a1_d, a1_m, a2, a2_n, a2_d, a2_m, a3, a3_n, a3_d, a3_m, h0, h1, placeF, DDiskResult.enc]
  rw [h1]
  by_cases h2 : data.length = 48
  case neg => simp (maxSteps := 4000000) [hd0, hfr, hout, hcl, hcd, delA_none, a1, a1_n, a1_d, a1_m, a2, a2_n, a2_d, a2_m, a3, a3_n, a3_d, a3_m, show ¬ (data.length : Int) = 48 by omega, h0, h1, h2, placeF, DDiskResult.enc]
  simp (maxSteps := 4000000) [hd0, hfr, hout, hcl, hcd, delA_none, a1, a1_n, a1_d, a1_m, a2, a2_n, a2_d, a2_m, a3, a3_n, a3_d, a3_m, h2]
  refine (spec_l2Place _ (id := id) hl h2 (by simp (maxSteps := 4000000) [hd0, hfr, hout, hcl, hcd, delA_none, a1, a1_n, a1_d, a1_m, a2, a2_n, a2_d, a2_m, a3, a3_n, a3_d, a3_m]) (by simp (maxSteps := 4000000) [hd0, hfr, hout, hcl, hcd, delA_none, a1, a1_n, a1_d, a1_m, a2, a2_n, a2_d, a2_m, a3, a3_n, a3_d, a3_m]) (by simp (maxSteps := 4000000) [hd0, hfr, hout, hcl, hcd, delA_none, a1, a1_n, a1_d, a1_m, a2, a2_n, a2_d, a2_m, a3, a3_n, a3_d, a3_m])).useCK ?_
  by_cases h3 : x.loose.length + 3 > 60
  · rw [if_pos h3]
    simp (maxSteps := 4000000) [hd0, hfr, hout, hcl, hcd, delA_none, a1, a1_n, a1_d, a1_m, a2, a2_n, a2_d, a2_m, a3, a3_n, a3_d, a3_m, h0, h1, h2, h3, placeF, DDiskResult.enc]
  · rw [if_neg h3]
    simp (maxSteps := 4000000) [hd0, hfr, hout, hcl, hcd, delA_none, a1, a1_n, a1_d, a1_m, a2, a2_n, a2_d, a2_m, a3, a3_n, a3_d, a3_m, h0, h1, h2, h3, placeF, DDiskResult.enc, DDisk.enc]
end Go.Proofs.Ythejobdlfomcjaa

namespace Go.Px
open Go.RowKit
set_option linter.unusedVariables false
set_option linter.unusedSimpArgs false
set_option linter.constructorNameAsVariable false
/-- what is owned in hand gets a name of its own -/
def refsD (d : Nat) : Nat → List Cell → List Cell
  | _, [] => []
  | k, .own z els :: t => .sl (d, k) [] z 0 els.length :: refsD d (k + 1) t
  | k, c :: t => c :: refsD d (k + 1) t
def rootsD (d : Nat) : Nat → List Cell → HH
  | _, [] => []
  | k, .own z els :: t => ((d, k), .own z els) :: rootsD d (k + 1) t
  | k, c :: t => rootsD d (k + 1) t
def cellsA : List T → List Cell
  | [] => []
  | .a l :: t => l ++ cellsA t
  | .c c :: t => c :: cellsA t
  | _ :: t => cellsA t
def refsA (d : Nat) : Nat → List T → List T
  | _, [] => []
  | k, .a l :: t => .a (refsD d k l) :: refsA d (k + l.length) t
  | k, .c (.own z els) :: t => .c (.sl (d, k) [] z 0 els.length) :: refsA d (k + 1) t
  | k, .c c :: t => .c c :: refsA d (k + 1) t
  | k, x :: t => x :: refsA d k t
def rootable : List T → Bool
  | [] => true
  | .a _ :: t => rootable t
  | .c _ :: t => rootable t
  | _ :: _ => false
theorem Holds.append {g R w β} : ∀ {H1 F1 H2 F2}, Holds g R w β H1 F1 → Holds g R w β H2 F2 → Holds g R w β (H1 ++ H2) (F1 ++ F2)
  | _, _, _, _, .nil, h => h
  | _, _, _, _, .sh h0 hr hb ht, h => .sh h0 hr hb (ht.append h)
  | _, _, _, _, .ow h0 hr ht, h => by rw [List.append_assoc]; exact .ow h0 hr (ht.append h)
theorem Holds.split {g R w β} : ∀ {H1 H2 F}, Holds g R w β (H1 ++ H2) F → ∃ F1 F2, F = F1 ++ F2 ∧ Holds g R w β H1 F1 ∧ Holds g R w β H2 F2
  | [], H2, F, h => ⟨[], F, rfl, .nil, h⟩
  | e :: H1, H2, F, h => by
    cases h with
    | sh h0 hr hb ht =>
      obtain ⟨F1, F2, rfl, h1, h2⟩ := ht.split
      exact ⟨F1, F2, rfl, .sh h0 hr hb h1, h2⟩
    | ow h0 hr ht =>
      obtain ⟨F1, F2, rfl, h1, h2⟩ := ht.split
      exact ⟨_, F2, by rw [← List.append_assoc], .ow h0 hr h1, h2⟩
theorem rootsD_holds {g : Nat} {R : Cell → Value → Prop} {w : World} {β : Nm → Value} {d : Nat} (hd : d ≠ 0) : ∀ {l : List Cell} {vs : List Value} {F : List Nat} {k : Nat}, VRep R w l vs F → (∀ j v, vs[j]? = some v → β (d, k + j) = v) → Holds g R w β (rootsD d k l) F
  | _, _, _, k, .nil, hβ => .nil
  | c :: t, _, _, k, @VRep.cons _ _ _ x F1 _ xs G hc ht, hβ => by
    have hx : β (d, k) = x := by simpa using hβ 0 x (by simp)
    have ih := rootsD_holds (g := g) hd (k := k + 1) ht (fun j v hj => by rw [← hβ (j + 1) v (by simpa using hj)]; congr 2; omega)
    by_cases ho : isOwn c = true
    · cases c with
      | own z els =>
        simp only [rootsD]
        exact .ow hd (by rw [hx]; exact hc) ih
      | _ => simp [isOwn] at ho
    · have hF := hc.bare (by simpa using ho)
      subst hF
      cases c with
      | own z els => simp [isOwn] at ho
      | _ => simpa [rootsD] using ih
theorem refsD_rep {R R' : Cell → Value → Prop} {w : World} {d : Nat} : ∀ {l : List Cell} {vs : List Value} {F : List Nat} {k : Nat}, VRep R w l vs F → (∀ c x, isRef c = true → R c x → R' c x) → (∀ (j : Nat) z els v, l[j]? = some (.own z els) → vs[j]? = some v → R' (.sl (d, k + j) [] z 0 els.length) v) →
    VRep R' w (refsD d k l) vs []
  | _, _, _, k, .nil, hR, hO => .nil
  | c :: t, _, _, k, @VRep.cons _ _ _ x F1 _ xs G hc ht, hR, hO => by
    have ih := refsD_rep (d := d) (k := k + 1) ht hR (fun j z els v hj hv => by have := hO (j + 1) z els v (by simpa using hj) (by simpa using hv); rwa [show k + 1 + j = k + (j + 1) by omega])
    cases c with
    | own z els =>
      simp only [refsD]
      exact VRep.cons (F := []) (.ref rfl hc.flat (by simpa using hO 0 z els x rfl rfl)) ih
    | v y => cases hc with
      | v _ h => simpa [refsD] using VRep.cons (.v _ h) ih
      | ref hi => simp [isRef] at hi
    | x => cases hc with
      | x _ h => simpa [refsD] using VRep.cons (.x _ h) ih
      | ref hi => simp [isRef] at hi
    | sl r q z i n => cases hc with
      | ref hi hf hv => simpa [refsD] using VRep.cons (.ref rfl hf (hR _ _ rfl hv)) ih
    | pt r q z i f => cases hc with
      | ref hi hf hv => simpa [refsD] using VRep.cons (.ref rfl hf (hR _ _ rfl hv)) ih
    | fn f cs => cases hc with
      | ref hi hf hv => simpa [refsD] using VRep.cons (.ref rfl hf (hR _ _ rfl hv)) ih
theorem refsA_rep {R : Cell → Value → Prop} {w : World} {d : Nat} : ∀ {args : List T} {vs : List Value} {FA : List Nat} {k : Nat}, rootable args = true → TReps R w args vs FA → ∃ V, VRep R w (cellsA args) V FA ∧
    ∀ R' : Cell → Value → Prop, (∀ c x, isRef c = true → R c x → R' c x) → (∀ (j : Nat) z els v, (cellsA args)[j]? = some (.own z els) → V[j]? = some v → R' (.sl (d, k + j) [] z 0 els.length) v) → TReps R' w (refsA d k args) vs []
  | [], _, _, k, _, .nil => ⟨[], .nil, fun _ _ _ => .nil⟩
  | .a l :: t, _, _, k, hr, @TReps.cons _ _ _ v F _ vs' G hx ht => by
    obtain ⟨vs, rfl, hl⟩ := trep_a hx
    obtain ⟨V, h1, h2⟩ := refsA_rep (d := d) (k := k + l.length) (by simpa [rootable] using hr) ht
    have hll := hl.length
    refine ⟨vs ++ V, hl.append h1, fun R' hR hO => ?_⟩
    simp only [refsA]
    have e1 := refsD_rep (d := d) (k := k) hl hR (fun j z els v hj hv => by
      have hlt := (List.getElem?_eq_some_iff.1 hj).1
      exact hO j z els v (by simp only [cellsA]; rw [List.getElem?_append_left hlt]; exact hj) (by rw [List.getElem?_append_left (by omega)]; exact hv))
    have e2 := h2 R' hR (fun j z els v hj hv => by
      have := hO (l.length + j) z els v (by simp only [cellsA]; rw [List.getElem?_append_right (by omega)]; simpa using hj) (by rw [List.getElem?_append_right (by omega), hll]; simpa using hv)
      rwa [show k + l.length + j = k + (l.length + j) by omega])
    exact TReps.cons (F := []) (.a e1) e2
  | .c c :: t, _, _, k, hr, @TReps.cons _ _ _ v F _ vs' G hx ht => by
    cases hx with
    | c hx =>
      obtain ⟨V, h1, h2⟩ := refsA_rep (d := d) (k := k + 1) (by simpa [rootable] using hr) ht
      have h0 : VRep R w [c] [v] F := by simpa using VRep.cons hx .nil
      refine ⟨v :: V, .cons hx h1, fun R' hR hO => ?_⟩
      have e1 := refsD_rep (d := d) (k := k) h0 hR (fun j z els u hj hv => by
        cases j with
        | zero => simp at hj hv; subst hj hv; exact hO 0 z els _ rfl rfl
        | succ j => simp at hj)
      have e2 := h2 R' hR (fun j z els u hj hv => by
        have := hO (j + 1) z els u (by simpa [cellsA] using hj) (by simpa using hv)
        rwa [show k + 1 + j = k + (j + 1) by omega])
      have key : ∀ c', refsD d k [c] = [c'] → TReps R' w (.c c' :: refsA d (k + 1) t) (v :: vs') [] := fun c' hc' => by
        rw [hc'] at e1
        obtain ⟨v', F1, k1, k2, k3⟩ := e1.nth (j := 0) rfl
        simp at k1 k3; subst k1; subst k3
        exact TReps.cons (F := []) (.c k2) e2
      cases c <;> exact key _ rfl
  | .t l :: t, _, _, k, hr, h => by simp [rootable] at hr
  | .u :: t, _, _, k, hr, h => by simp [rootable] at hr
theorem look_append {r : Nm} : ∀ {H1 H2 : HH}, look (H1 ++ H2) r = match look H1 r with | some c => some c | none => look H2 r
  | [], H2 => rfl
  | (s, c) :: t, H2 => by
    by_cases e : s = r
    · simp [look, e]
    · simp only [List.cons_append, look, e, if_false]; exact look_append
theorem look_rootsD_ne {d : Nat} {r : Nm} (hr : r.1 ≠ d) : ∀ {l : List Cell} {k : Nat}, look (rootsD d k l) r = none
  | [], k => rfl
  | c :: t, k => by
    have ih := look_rootsD_ne hr (l := t) (k := k + 1)
    cases c with
    | own z els => simp only [rootsD, look]; rw [if_neg (fun e => hr (by rw [← e])), ih]
    | _ => simpa [rootsD] using ih
theorem look_rootsD {d : Nat} : ∀ {l : List Cell} {k j : Nat} {z els}, l[j]? = some (.own z els) → look (rootsD d k l) (d, k + j) = some (.own z els)
  | [], k, j, z, els, h => by simp at h
  | c :: t, k, 0, z, els, h => by simp at h; subst h; simp [rootsD, look]
  | c :: t, k, j + 1, z, els, h => by
    have ih := look_rootsD (d := d) (l := t) (k := k + 1) (j := j) (by simpa using h)
    rw [show k + 1 + j = k + (j + 1) by omega] at ih
    cases c with
    | own z' els' =>
      simp only [rootsD, look]
      rw [if_neg (fun e => by have := (Prod.mk.injEq _ _ _ _ ▸ e : d = d ∧ k = k + (j + 1)).2; omega)]
      exact ih
    | _ => simpa [rootsD] using ih
theorem vp1_out {w : World} {β β' : Nm → Value} {H H' : HH} {d : Nat} (hβ : ∀ r, r.1 ≠ d → β' r = β r) (hl : ∀ r, r.1 ≠ d → look H' r = look H r) : ∀ c x, ¬ atD1 d c → VP1 w β H c x → VP1 w β' H' c x := by
  intro c x hn h
  cases c with
  | sl r q z i n => obtain ⟨c, els, hd, e1, e2, e3, e4⟩ := h; exact ⟨c, els, hd, (hl r hn).trans e1, e2, by rw [hβ r hn]; exact e3, e4⟩
  | pt r q z i f => obtain ⟨c, els, hd, e1, e2, e3, e4⟩ := h; exact ⟨c, els, hd, (hl r hn).trans e1, e2, by rw [hβ r hn]; exact e3, e4⟩
  | v y => exact h
  | own z els => exact h.elim
  | fn f cs => exact h.elim
  | x => exact h.elim
theorem vp_named {R : Cell → Value → Prop} {w : World} {β : Nm → Value} {H : HH} {nm : Nm} {z : Nat} {els : List (List Cell)} {v : Value} {F : List Nat} (h : Rep R w (.own z els) v F) (hl : look H nm = some (.own z els)) (hβ : β nm = v) : VP w β H (.sl nm [] z 0 els.length) v := by
  refine ⟨.own z els, els, v, hl, rfl, by simp [hdr, hβ], by simp, ?_⟩
  cases h with
  | ref hi => simp [isRef] at hi
  | nil z A => exact .inr ⟨rfl, A, rfl⟩
  | @own _ b off cap _ arr el fr F hz hb hfr hr hl hs hreps => exact .inl ⟨b, off, _, cap, cap, rfl, by simp, hl, by omega⟩
/-- A contract over references serves for what is owned in hand. -/
theorem PFun.root {P : Program} {f : FuncId} {args : List T} {H : HH} {x : T} (hr : rootable args = true) (hx : ∀ d, x.clean (atD d))
    (h : ∀ d, d ≠ 0 → (∀ n, look H (d, n) = none) → PFun P f (refsA d 0 args) (rootsD d 0 (cellsA args) ++ H) x) : PFun P f args H x := by
  intro g w β F FA vs hgl hh ht hn hlow
  obtain ⟨d, hd0, hfr⟩ := exists_fresh H
  have hfr' : ∀ n, look H (d, n) = none := fun n => by
    cases hl : look H (d, n) with
    | none => rfl
    | some c => exact absurd rfl (hfr _ (look_mem hl))
  obtain ⟨V, hV, hmk⟩ := refsA_rep (d := d) (k := 0) hr ht
  let β' : Nm → Value := fun r => if r.1 = d then V.getD r.2 undef else β r
  have hβd : ∀ (j : Nat) v, V[j]? = some v → β' (d, 0 + j) = v := fun j v hj => by
    show (if (d, 0 + j).1 = d then V.getD (0 + j) undef else _) = v
    rw [if_pos rfl, Nat.zero_add, List.getD_eq_getElem?_getD, hj]; rfl
  have hβ : ∀ r : Nm, r.1 ≠ d → β' r = β r := fun r hr => by show (if r.1 = d then _ else _) = _; rw [if_neg hr]
  have hlk : ∀ r : Nm, r.1 ≠ d → look (rootsD d 0 (cellsA args) ++ H) r = look H r := fun r hr => by rw [look_append, look_rootsD_ne hr]
  have hvp : ∀ c x, isRef c = true → VP w β H c x → VP w β' (rootsD d 0 (cellsA args) ++ H) c x := fun c x hc hv => vp_out hβ hlk c x hc (vp_fresh hfr c x hc hv) hv
  have hO : ∀ (j : Nat) z els v, (cellsA args)[j]? = some (.own z els) → V[j]? = some v → VP w β' (rootsD d 0 (cellsA args) ++ H) (.sl (d, 0 + j) [] z 0 els.length) v := fun j z els v hj hv => by
    obtain ⟨v', F1, k1, k2, k3⟩ := hV.nth hj
    rw [hv] at k1; cases k1
    exact vp_named k2 (by rw [look_append, look_rootsD hj]) (hβd j v hv)
  have hV' : VRep (VP w β' (rootsD d 0 (cellsA args) ++ H)) w (cellsA args) V FA := hV.mono (K := fun _ => False) (fun c _ => clean_false c) (fun c x hc _ hv => hvp c x hc hv) (fun _ _ => rfl)
  have hHo : Holds g (VP w β' (rootsD d 0 (cellsA args) ++ H)) w β' H F := hh.mono (K := fun _ => False) (fun en he => hβ en.1 (hfr en he)) (fun en _ => clean_false en.2) (fun c x hc _ hv => hvp c x hc hv) (fun _ _ => rfl) (fun _ _ => rfl)
  have hHold : Holds g (VP w β' (rootsD d 0 (cellsA args) ++ H)) w β' (rootsD d 0 (cellsA args) ++ H) (FA ++ F) := (rootsD_holds hd0 hV' hβd).append hHo
  have hargs := hmk _ hvp hO
  refine (h d hd0 hfr' g w β' (FA ++ F) [] vs hgl hHold hargs ?_ ?_).mono fun en w' hres => ?_
  · rw [List.append_nil]; exact (List.perm_append_comm.nodup_iff).1 hn
  · intro b hb
    rw [List.append_nil] at hb
    exact hlow b (List.perm_append_comm.subset hb)
  · obtain ⟨y, T1, H', lg, F', FT, rfl, ⟨rfl, rfl, rfl⟩, k1, k2, k3, k4, k5⟩ := hres
    obtain ⟨F1, F2, rfl, m1, m2⟩ := k1.split
    have hlk2 : ∀ r : Nm, r.1 ≠ d → look H r = look (rootsD d 0 (cellsA args) ++ H) r := fun r hr => (hlk r hr).symm
    have hβ2 : ∀ r : Nm, r.1 ≠ d → β r = β' r := fun r hr => (hβ r hr).symm
    have hback := vp_out (w := w') hβ2 hlk2
    have m3 : Holds g (VP w' β H) w' β H F2 := m2.mono (K := atD d) (fun en he => hβ2 en.1 (hfr en he)) (hh.cleans (vp_fresh hfr)) (fun c x hc hk hv => hback c x hc hk hv) (fun _ _ => rfl) (fun _ _ => rfl)
    have m4 : TRep (VP w' β H) w' T1 y FT := k2.mono (hx d) (fun c x hc hk hv => hback c x hc hk hv) (fun _ _ => rfl)
    refine ⟨y, T1, H, [], F2, FT, rfl, ⟨rfl, rfl, rfl⟩, m3, m4, ?_, ?_, fun c x hc hv => ?_⟩
    · exact List.Nodup.sublist (List.Sublist.append (List.sublist_append_right F1 F2) (.refl _)) k3
    · have := k4.sub (B' := F2 ++ FT) (fun b hb => by
        rcases List.mem_append.1 hb with hb | hb
        · simp [hb]
        · simp [hb])
      exact { this with same := fun b hb hnb => this.same b hb (fun hm => hnb (by rw [List.append_nil] at hm; exact List.perm_append_comm.subset hm)), new := fun b hb => (this.new b hb).imp (fun hm => by rw [List.append_nil] at hm; exact List.perm_append_comm.subset hm) id }
    · have hnD := out_notD hv hfr
      have h1 := vp1_out hβ hlk c x hnD hv
      exact vp1_out hβ2 hlk2 c x hnD (k5 c x hc h1)
theorem CleanRows_mk {K : Cell → Prop} {k : Int} {rows : List (List Cell)} (h : CleanRows K rows) : CleanRows K (mkRs k rows) ↔ True := iff_true_intro (mkRs_clean h)
attribute [simp] CleanRows_mk refsA refsD rootsD cellsA rootable
end Go.Px

namespace Go.Proofs.Ythejobdlfomcjaa
open Go Go.Px Go.RowKit Go.Proofs
set_option linter.unnecessarySimpa false
set_option linter.unusedVariables false
set_option linter.unusedSimpArgs false
set_option maxRecDepth 100000
attribute [-simp] Int.not_le Int.not_lt
def cellR (data : List Int) (i : Nat) : DCell := ⟨takeF ((data.drop (6 + 3 * i)).take 1), takeF ((data.drop (7 + 3 * i)).take 2)⟩
def cntF (data : List Int) : Nat := (min (data.getD 5 0) 13).toNat
def cellsR (data : List Int) (i : Nat) : List DCell := (List.range i).map (cellR data)
theorem cellsR_len {data i} : (cellsR data i).length = i := by simp [cellsR]
theorem cellsR_succ {data i} : cellsR data (i + 1) = cellsR data i ++ [cellR data i] := by simp [cellsR, List.range_succ]
def rawF (data : List Int) : DPage := ⟨takeF (data.take 1), takeF (data.tail.take 4), cellsR data (cntF data)⟩
def unpackF (data : List Int) : DPageResult :=
  if data.length ≠ 48 then ⟨1, ⟨0, 0, []⟩⟩ else if takeF (data.drop 46) ≠ sumF (data.take 46) then ⟨6, ⟨0, 0, []⟩⟩ else if pageF (rawF data) ≠ 0 ∨ packF (rawF data) ≠ data then ⟨5, ⟨0, 0, []⟩⟩ else ⟨0, rawF data⟩
@[simp] theorem bytesOf_encU8 {l : List Int} : bytesOf (l.map encU8) = some l := bytesOf_map l
theorem slices_Equal_byte_own (H : HH) {r2 q2} {a b : List Int} (h1 : a.length ≤ 1048576) (a2 : arrAt H r2 q2 = some (1, b.map encU8)) : PFun Try.prog 173 [.c (.own 1 (a.map encU8)), .c (.sl r2 q2 1 0 b.length)] H (B (decide (a = b))) := by
  refine PFun.root rfl (fun d => by simp) (fun d hd hf => ?_)
  have n1 : ∀ n, ¬ (d, n) = r2 := fun n => nm_ne (ne_of_arr hf a2)
  have := slices_Equal_byte (((d, 0), .own 1 (a.map encU8)) :: H) (r1 := (d, 0)) (q1 := []) (r2 := r2) (q2 := q2) (a := a) (b := b) h1 (by simp) (by simp [n1, a2])
  simpa using this
theorem impl_UnpackPage (H : HH) {r q} {data : List Int} (hb : data.length ≤ 1048576) (hB : isB data) (ha : arrAt H r q = some (1, data.map encU8)) :
    PFun Try.prog 181 [.c (.sl r q 1 0 data.length)] H (.a (unpackF data).enc) := by
  refine PFun.of [0, 2, 3, 4, 5, 6, 9, 19, 32, 33, 34, 42, 73] Try.func181 rfl (by simp [Try.f181]) ?_
  intro d hd0 hfr hcl hout
  have hcd : ∀ n q, CleanH (hit [((d, n), q)]) H := fun n q => hcl.at
  have ha_n : ∀ n, ¬ (d, n) = r := fun n => nm_ne (ne_of_arr hfr ha)
  have ha_d : ¬ r.1 = d := ne_of_arr hfr ha
  have ha_m : ∀ n, ¬ r = (d, n) := fun n => nm_ne' (ne_of_arr hfr ha)
  simp (maxSteps := 4000000) [hd0, hfr, hout, hcl, hcd, delA_none, ha, ha_n, ha_d, ha_m, Try.f181]
  by_cases h48 : data.length = 48
  case neg => simp (maxSteps := 4000000) [hd0, hfr, hout, hcl, hcd, delA_none, ha, ha_n, ha_d, ha_m, show ¬ (data.length : Int) = 48 by omega, unpackF, h48, DPageResult.enc]
  simp (maxSteps := 4000000) [hd0, hfr, hout, hcl, hcd, delA_none, ha, ha_n, ha_d, ha_m, h48]
  refine DrawK.intro 9 [0, 2, 3, 19] rfl (by kernel_rfl) (by decide) ?_
  simp (maxSteps := 4000000) [hd0, hfr, hout, hcl, hcd, delA_none, ha, ha_n, ha_d, ha_m]
  refine ⟨_, impl_take _ (l := data) (by omega) hB (by omega) (by omega) (by simp (maxSteps := 4000000) [hd0, hfr, hout, hcl, hcd, delA_none, ha, ha_n, ha_d, ha_m]), ?_⟩
  simp (maxSteps := 4000000) [hd0, hfr, hout, hcl, hcd, delA_none, ha, ha_n, ha_d, ha_m]
  refine ⟨_, impl_SumBytes _ (l := data) (by omega) (by omega) (by simp (maxSteps := 4000000) [hd0, hfr, hout, hcl, hcd, delA_none, ha, ha_n, ha_d, ha_m]), ?_⟩
  have hd2 : List.take 2 (data.drop 46) = data.drop 46 := List.take_of_length_le (by simp; omega)
  by_cases h2 : takeF (data.drop 46) = sumF (data.take 46)
  case neg => simp (maxSteps := 4000000) [hd0, hfr, hout, hcl, hcd, delA_none, ha, ha_n, ha_d, ha_m, hd2, h2, unpackF, h48, DPageResult.enc]
  simp (maxSteps := 4000000) [hd0, hfr, hout, hcl, hcd, delA_none, ha, ha_n, ha_d, ha_m, hd2, h2]
  refine DrawK.introA (zl := [.v (.int .i64 0), .v (.int .i64 0), .own 2 []]) 7 [0, 2, 3, 27] rfl rfl (by kernel_rfl) (by decide) (by decide) (by simp) (by simp) (by decide) (by simp (maxSteps := 4000000) [hd0, hfr, hout, hcl, hcd, delA_none, ha, ha_n, ha_d, ha_m]) ?_
  simp (maxSteps := 4000000) [hd0, hfr, hout, hcl, hcd, delA_none, ha, ha_n, ha_d, ha_m]
  refine ⟨_, impl_take _ (l := data) (by omega) hB (by omega) (by omega) (by simp (maxSteps := 4000000) [hd0, hfr, hout, hcl, hcd, delA_none, ha, ha_n, ha_d, ha_m]), ?_⟩
  simp (maxSteps := 4000000) [hd0, hfr, hout, hcl, hcd, delA_none, ha, ha_n, ha_d, ha_m]
  refine ⟨_, impl_take _ (l := data) (by omega) hB (by omega) (by omega) (by simp (maxSteps := 4000000) [hd0, hfr, hout, hcl, hcd, delA_none, ha, ha_n, ha_d, ha_m]), ?_⟩
  have h5 : 5 < data.length := by omega
  obtain ⟨g1, g2⟩ := hB data[5] (List.getElem_mem h5)
  have w1 : IntKind.i64.wrap data[5] = data[5] := w64 (by omega) (by omega)
  have hc : ite ((13 : Int) < data[5]) (13 : Int) (data[5] : Int) = ((cntF data : Nat) : Int) := by
    simp only [cntF, List.getD_eq_getElem?_getD, List.getElem?_eq_getElem h5, Option.getD_some]
    split <;> omega
  have hc13 : cntF data ≤ 13 := by simp only [cntF]; omega
  simp (maxSteps := 4000000) [hd0, hfr, hout, hcl, hcd, delA_none, ha, ha_n, ha_d, ha_m, h5, encU8, w1, hc]
  repeat (first | (refine And.intro (by kernel_rfl) ?_) | (refine And.intro (by omega) ?_))
  refine LoopK.intro (fun m s => ∃ i : Nat, i + m = cntF data ∧ s = ⟨[(0, .c (.sl r q 1 0 48)), (2, .c (.pt (d, 2) [] 4 0 0)), (3, I 46), (4, .c (.pt (d, 4) [] 3 0 0)), (32, I (cntF data)), (33, I i)],
      ((d, 4), .own 3 [[.v (.int .i64 (takeF (data.take 1))), .v (.int .i64 (takeF (data.tail.take 4))), .own 2 ((cellsR data i).map DCell.enc)]]) :: ((d, 2), .own 4 [[.v (.int .i64 0), .v (.int .i64 0), .v (.int .i64 0), .own 2 []]]) :: H, []⟩) (cntF data + 1)
    (LK.intro (cntF data) [0, 2, 3, 4, 32, 33] [] (by omega) (by decide) (by simp (maxSteps := 4000000) [hd0, hfr, hout, hcl, hcd, delA_none, ha, ha_n, ha_d, ha_m]) ⟨0, by simp [cellsR]⟩) ?_
  rintro m s ⟨i, him, rfl⟩
  have hlen := cellsR_len (data := data) (i := i)
  by_cases hi : i < cntF data
  · have w2 : IntKind.i64.wrap ((i : Int) + 1) = i + 1 := w64 (by omega) (by omega)
    have w3 : IntKind.i64.wrap (3 * (i : Int)) = 3 * i := w64 (by omega) (by omega)
    obtain ⟨at_, hat⟩ : ∃ at_ : Nat, at_ = 6 + 3 * i := ⟨_, rfl⟩
    have w4 : IntKind.i64.wrap (6 + 3 * (i : Int)) = at_ := by rw [w64 (by omega) (by omega)]; omega
    have w5 : IntKind.i64.wrap ((at_ : Int) + 3) = (at_ + 3 : Nat) := by rw [w64 (by omega) (by omega)]; omega
    have w6 : IntKind.i64.wrap ((at_ : Int) + 1) = (at_ + 1 : Nat) := by rw [w64 (by omega) (by omega)]; omega
    simp (maxSteps := 4000000) [hd0, hfr, hout, hcl, hcd, delA_none, ha, ha_n, ha_d, ha_m, show (i : Int) < cntF data by omega, w3, w4, w5, show ¬ (46 : Int) < (at_ : Int) + 3 by omega]
    have hnx := cellsR_succ (data := data) (i := i)
    have w7 : ((at_ : Int) + 3).toNat = at_ + 3 := by omega
    have w8 : ((at_ : Int) + 1).toNat = at_ + 1 := by omega
    refine DrawK.intro 17 [0, 2, 3, 4, 32, 33, 45, 60] rfl (by kernel_rfl) (by decide) ?_
    simp (maxSteps := 4000000) [hd0, hfr, hout, hcl, hcd, delA_none, ha, ha_n, ha_d, ha_m, w6, w5, w7, w8, hlen]
    repeat (first | (refine And.intro (by kernel_rfl) ?_) | (refine And.intro (by omega) ?_))
    refine ⟨_, impl_take _ (l := data) (by omega) hB (by omega) (by omega) (by simp (maxSteps := 4000000) [hd0, hfr, hout, hcl, hcd, delA_none, ha, ha_n, ha_d, ha_m]), ?_⟩
    simp (maxSteps := 4000000) [hd0, hfr, hout, hcl, hcd, delA_none, ha, ha_n, ha_d, ha_m, w6, w5, w7, w8, hlen]
    repeat (first | (refine And.intro (by kernel_rfl) ?_) | (refine And.intro (by omega) ?_))
    refine ⟨_, impl_take _ (l := data) (by omega) hB (by omega) (by omega) (by simp (maxSteps := 4000000) [hd0, hfr, hout, hcl, hcd, delA_none, ha, ha_n, ha_d, ha_m]), ?_⟩
    simp (maxSteps := 4000000) [hd0, hfr, hout, hcl, hcd, delA_none, ha, ha_n, ha_d, ha_m, w2, hlen]
    repeat (first | (refine And.intro (by kernel_rfl) ?_) | (refine And.intro (by omega) ?_))
    refine LK.intro (m - 1) [0, 2, 3, 4, 32, 33] [] (by omega) (by decide) (by simp (maxSteps := 4000000) [hd0, hfr, hout, hcl, hcd, delA_none, ha, ha_n, ha_d, ha_m]) ⟨i + 1, by omega, by simp [hnx, cellR, DCell.enc, hat, show 6 + 3 * i + 1 = 7 + 3 * i by omega]⟩
  · have : i = cntF data := by omega
    subst this
    simp (maxSteps := 4000000) [hd0, hfr, hout, hcl, hcd, delA_none, ha, ha_n, ha_d, ha_m, show ¬ ((cntF data : Nat) : Int) < (cntF data : Nat) by omega]
    refine (impl_PageFault _ (x := rawF data) (by simp only [rawF, hlen]; omega) (by simp (maxSteps := 4000000) [hd0, hfr, hout, hcl, hcd, delA_none, ha, ha_n, ha_d, ha_m, rawF])).useCK ?_
    by_cases hp : pageF (rawF data) = 0
    case neg => simp (maxSteps := 4000000) [hd0, hfr, hout, hcl, hcd, delA_none, ha, ha_n, ha_d, ha_m, hp, unpackF, h48, h2, DPageResult.enc]
    simp (maxSteps := 4000000) [hd0, hfr, hout, hcl, hcd, delA_none, ha, ha_n, ha_d, ha_m, hp]
    refine (impl_Page_pack _ (x := rawF data) (by simp only [rawF, hlen]; omega) (by simp (maxSteps := 4000000) [hd0, hfr, hout, hcl, hcd, delA_none, ha, ha_n, ha_d, ha_m, rawF])).useCK ?_
    have hpl := packF_len (x := rawF data) (by simp only [rawF, hlen]; omega)
    simp (maxSteps := 4000000) [hd0, hfr, hout, hcl, hcd, delA_none, ha, ha_n, ha_d, ha_m, hp]
    have hE : ∀ H', arrAt H' r q = some (1, data.map encU8) → PFun Try.prog 173 [.c (.own 1 ((packF (rawF data)).map encU8)), .c (.sl r q 1 0 48)] H' (B (decide (packF (rawF data) = data))) := fun H' h => by rw [← h48]; exact slices_Equal_byte_own H' (by omega) h
    refine (hE _ (by simp (maxSteps := 4000000) [hd0, hfr, hout, hcl, hcd, delA_none, ha, ha_n, ha_d, ha_m])).useCK ?_
    by_cases hq : packF (rawF data) = data
    · have hU : unpackF data = ⟨0, rawF data⟩ := by simp [unpackF, h48, h2, hp, hq]
      rw [hU]
      simp (maxSteps := 4000000) [hd0, hfr, hout, hcl, hcd, delA_none, ha, ha_n, ha_d, ha_m, hq, DPageResult.enc]
      simp [rawF]
    · have hU : unpackF data = ⟨5, ⟨0, 0, []⟩⟩ := by simp [unpackF, h48, h2, hq]
      rw [hU]
      simp (maxSteps := 4000000) [hd0, hfr, hout, hcl, hcd, delA_none, ha, ha_n, ha_d, ha_m, hq, DPageResult.enc]
theorem baOf_list {a : List Int} : (baOf a).toList = a.map fun n => UInt8.ofNat n.toNat := by
  unfold baOf
  rw [foldl_push_bytes, ByteArray.toList_eq]
  simp [ByteArray.empty, ByteArray.emptyWithCapacity]
  rfl
theorem baOf_inj : ∀ {a b : List Int}, isB a → isB b → (baOf a).toList = (baOf b).toList → a = b := by
  intro a b ha hb h
  rw [baOf_list, baOf_list] at h
  induction a generalizing b with
  | nil => cases b with
    | nil => rfl
    | cons y b => simp at h
  | cons x a ih => cases b with
    | nil => simp at h
    | cons y b =>
      simp only [List.map_cons, List.cons.injEq] at h
      obtain ⟨h1, h2⟩ := h
      have h3 := congrArg UInt8.toNat h1
      simp at h3
      have := ha x (by simp)
      have := hb y (by simp)
      rw [ih (fun z hz => ha z (by simp [hz])) (fun z hz => hb z (by simp [hz])) h2]
      congr 1
      omega
theorem byt_B {n : Int} {k : Nat} : 0 ≤ byt n k ∧ byt n k < 256 := by simp only [byt, wU8]; omega
theorem bytF_B {n : Int} : ∀ {k}, isB (bytF n k)
  | 0 => fun y hy => by simp [bytF] at hy
  | k + 1 => fun y hy => by
    simp only [bytF, List.mem_cons] at hy
    rcases hy with rfl | hy
    · exact byt_B
    · exact bytF_B y hy
theorem isB.append {a b : List Int} (ha : isB a) (hb : isB b) : isB (a ++ b) := fun y hy => (List.mem_append.1 hy).elim (ha y) (hb y)
theorem packF_B {x : DPage} : isB (packF x) := by
  unfold packF padF bodyF headF
  refine isB.append (isB.append (isB.append (isB.append (isB.append bytF_B bytF_B) bytF_B) fun y hy => ?_) fun y hy => ?_) bytF_B
  · obtain ⟨c, hc, hy⟩ := List.mem_flatMap.1 hy
    exact (isB.append bytF_B bytF_B) y hy
  · rw [List.eq_of_mem_replicate hy]; omega
theorem spec_UnpackPage (H : HH) {r q} {data : List Int} (hb : data.length ≤ 1048576) (hB : isB data) (ha : arrAt H r q = some (1, data.map encU8)) :
    PFun Try.prog 183 [.c (.sl r q 1 0 data.length)] H (.a (unpackF data).enc) := by
  refine PFun.of [0, 2, 3, 4, 7, 14, 34, 65] Try.func183 rfl (by simp [Try.f183]) ?_
  intro d hd0 hfr hcl hout
  have hcd : ∀ n q, CleanH (hit [((d, n), q)]) H := fun n q => hcl.at
  have ha_n : ∀ n, ¬ (d, n) = r := fun n => nm_ne (ne_of_arr hfr ha)
  have ha_d : ¬ r.1 = d := ne_of_arr hfr ha
  have ha_m : ∀ n, ¬ r = (d, n) := fun n => nm_ne' (ne_of_arr hfr ha)
  simp (maxSteps := 4000000) [hd0, hfr, hout, hcl, hcd, delA_none, ha, ha_n, ha_d, ha_m, Try.f183]
  by_cases h48 : data.length = 48
  case neg => simp (maxSteps := 4000000) [hd0, hfr, hout, hcl, hcd, delA_none, ha, ha_n, ha_d, ha_m, show ¬ (data.length : Int) = 48 by omega, unpackF, h48, DPageResult.enc]
  have hT : ∀ H' (j n : Nat), arrAt H' r q = some (1, data.map encU8) → j + n ≤ 48 → n ≤ 4 → PFun Try.prog 186 [.c (.sl r q 1 0 48), I j, I n] H' (I (takeF ((data.drop j).take n))) := fun H' j n h h1 h2 => by rw [← h48]; exact spec_l1Take H' hb hB (by omega) h2 rfl h
  simp (maxSteps := 4000000) [hd0, hfr, hout, hcl, hcd, delA_none, ha, ha_n, ha_d, ha_m, h48]
  refine DrawK.intro 6 [0, 2, 14] rfl (by kernel_rfl) (by decide) ?_
  simp (maxSteps := 4000000) [hd0, hfr, hout, hcl, hcd, delA_none, ha, ha_n, ha_d, ha_m]
  refine ⟨_, hT _ 46 2 (by simp (maxSteps := 4000000) [hd0, hfr, hout, hcl, hcd, delA_none, ha, ha_n, ha_d, ha_m]) (by omega) (by omega), ?_⟩
  simp (maxSteps := 4000000) [hd0, hfr, hout, hcl, hcd, delA_none, ha, ha_n, ha_d, ha_m]
  refine ⟨_, spec_SumBytes _ (l := data) (by omega) (by omega) (by simp (maxSteps := 4000000) [hd0, hfr, hout, hcl, hcd, delA_none, ha, ha_n, ha_d, ha_m]), ?_⟩
  have hd2 : List.take 2 (data.drop 46) = data.drop 46 := List.take_of_length_le (by simp; omega)
  by_cases h2 : takeF (data.drop 46) = sumF (data.take 46)
  case neg => simp (maxSteps := 4000000) [hd0, hfr, hout, hcl, hcd, delA_none, ha, ha_n, ha_d, ha_m, hd2, h2, unpackF, h48, DPageResult.enc]
  simp (maxSteps := 4000000) [hd0, hfr, hout, hcl, hcd, delA_none, ha, ha_n, ha_d, ha_m, hd2, h2]
  refine DrawK.introA (zl := [.v (.int .i64 0), .v (.int .i64 0), .own 2 []]) 7 [0, 2, 22] rfl rfl (by kernel_rfl) (by decide) (by decide) (by simp) (by simp) (by decide) (by simp (maxSteps := 4000000) [hd0, hfr, hout, hcl, hcd, delA_none, ha, ha_n, ha_d, ha_m]) ?_
  have h0 : 0 < data.length := by omega
  have h5 : 5 < data.length := by omega
  obtain ⟨g1, g2⟩ := hB data[5] (List.getElem_mem h5)
  obtain ⟨f1, f2⟩ := hB data[0] (List.getElem_mem h0)
  have w0 : IntKind.i64.wrap data[0] = takeF (data.take 1) := by
    rw [w64 (by omega) (by omega)]
    cases data with
    | nil => simp at h0
    | cons a l => simp [takeF, takeS]
  have w1 : IntKind.i64.wrap data[5] = data[5] := w64 (by omega) (by omega)
  have hc13 : cntF data ≤ 13 := by simp only [cntF]; omega
  have hcd5 : (cntF data : Int) = min data[5] 13 := by
    simp only [cntF, List.getD_eq_getElem?_getD, List.getElem?_eq_getElem h5, Option.getD_some]; omega
  simp (maxSteps := 4000000) [hd0, hfr, hout, hcl, hcd, delA_none, ha, ha_n, ha_d, ha_m, h0, encU8, w0]
  refine ⟨_, hT _ 1 4 (by simp (maxSteps := 4000000) [hd0, hfr, hout, hcl, hcd, delA_none, ha, ha_n, ha_d, ha_m]) (by omega) (by omega), ?_⟩
  simp (maxSteps := 4000000) [hd0, hfr, hout, hcl, hcd, delA_none, ha, ha_n, ha_d, ha_m]
  repeat (first | (refine And.intro (by kernel_rfl) ?_) | (refine And.intro (by omega) ?_))
  refine LoopK.intro (fun m s => ∃ i : Nat, i + m = cntF data ∧ s = ⟨[(0, .c (.sl r q 1 0 48)), (2, .c (.pt (d, 2) [] 4 0 0)), (3, .c (.pt (d, 3) [] 3 0 0)), (4, I i)],
      ((d, 3), .own 3 [[.v (.int .i64 (takeF (data.take 1))), .v (.int .i64 (takeF (data.tail.take 4))), .own 2 ((cellsR data i).map DCell.enc)]]) :: ((d, 2), .own 4 [[.v (.int .i64 0), .v (.int .i64 0), .v (.int .i64 0), .own 2 []]]) :: H, []⟩) (cntF data + 1)
    (LK.intro (cntF data) [0, 2, 3, 4] [] (by omega) (by decide) (by simp (maxSteps := 4000000) [hd0, hfr, hout, hcl, hcd, delA_none, ha, ha_n, ha_d, ha_m]) ⟨0, by simp [cellsR]⟩) ?_
  rintro m s ⟨i, him, rfl⟩
  have hlen := cellsR_len (data := data) (i := i)
  have w3 : IntKind.i64.wrap (3 * (i : Int)) = 3 * i := w64 (by omega) (by omega)
  have w9 : IntKind.i64.wrap (9 + 3 * (i : Int)) = 9 + 3 * i := w64 (by omega) (by omega)
  by_cases hi : i < cntF data
  · have w2 : IntKind.i64.wrap ((i : Int) + 1) = i + 1 := w64 (by omega) (by omega)
    obtain ⟨at_, hat⟩ : ∃ at_ : Nat, at_ = 6 + 3 * i := ⟨_, rfl⟩
    have w4 : IntKind.i64.wrap (6 + 3 * (i : Int)) = at_ := by rw [w64 (by omega) (by omega)]; omega
    have w5 : IntKind.i64.wrap (7 + 3 * (i : Int)) = (at_ + 1 : Nat) := by rw [w64 (by omega) (by omega)]; omega
    have hnx := cellsR_succ (data := data) (i := i)
    have ha6 : at_ < data.length := by omega
    obtain ⟨e1, e2⟩ := hB data[at_] (List.getElem_mem ha6)
    have w6 : IntKind.i64.wrap data[at_] = takeF ((data.drop at_).take 1) := by
      rw [w64 (by omega) (by omega)]
      have hdr := List.drop_eq_getElem_cons ha6
      rw [hdr]
      simp only [List.take_succ_cons, List.take_zero, takeF, takeS, List.foldl_cons, List.foldl_nil]
      omega
    simp (maxSteps := 4000000) [hd0, hfr, hout, hcl, hcd, delA_none, ha, ha_n, ha_d, ha_m, h5, encU8, w1, w3, w9, show (i : Int) < data[5] by omega, show 9 + 3 * (i : Int) < 46 by omega]
    refine DrawK.intro 16 [0, 2, 3, 4, 38, 52] rfl (by kernel_rfl) (by decide) ?_
    simp (maxSteps := 4000000) [hd0, hfr, hout, hcl, hcd, delA_none, ha, ha_n, ha_d, ha_m, w3, w4, w5, w6, ha6, hlen, encU8, show (at_ : Int) < 48 by omega]
    repeat (first | (refine And.intro (by kernel_rfl) ?_) | (refine And.intro (by omega) ?_))
    refine ⟨_, hT _ (at_ + 1) 2 (by simp (maxSteps := 4000000) [hd0, hfr, hout, hcl, hcd, delA_none, ha, ha_n, ha_d, ha_m]) (by omega) (by omega), ?_⟩
    simp (maxSteps := 4000000) [hd0, hfr, hout, hcl, hcd, delA_none, ha, ha_n, ha_d, ha_m, w2, hlen]
    repeat (first | (refine And.intro (by kernel_rfl) ?_) | (refine And.intro (by omega) ?_))
    refine LK.intro (m - 1) [0, 2, 3, 4] [] (by omega) (by decide) (by simp (maxSteps := 4000000) [hd0, hfr, hout, hcl, hcd, delA_none, ha, ha_n, ha_d, ha_m]) ⟨i + 1, by omega, by simp [hnx, cellR, DCell.enc, hat, show 6 + 3 * i + 1 = 7 + 3 * i by omega]⟩
  · have : i = cntF data := by omega
    subst this
    have hor : ¬ (cntF data : Int) < data[5] ∨ ¬ (9 + 3 * (cntF data : Int) < 46) := by omega
    have hp13 : (rawF data).cells.length ≤ 13 := by simp only [rawF, hlen]; omega
    have hpl := packF_len hp13
    have htk : List.take 48 (data.map encU8) = data.map encU8 := List.take_of_length_le (by simp; omega)
    by_cases hlt : (cntF data : Int) < data[5]
    case' pos => simp (maxSteps := 4000000) [hd0, hfr, hout, hcl, hcd, delA_none, ha, ha_n, ha_d, ha_m, h5, encU8, w1, w3, w9, hlt, show ¬ 9 + 3 * (cntF data : Int) < 46 by omega]
    case' neg => simp (maxSteps := 4000000) [hd0, hfr, hout, hcl, hcd, delA_none, ha, ha_n, ha_d, ha_m, h5, encU8, w1, hlt]
    all_goals
      refine DrawK.intro 11 [2, 3, 65] rfl (by kernel_rfl) (by decide) ?_
      simp (maxSteps := 4000000) [hd0, hfr, hout, hcl, hcd, delA_none, ha, ha_n, ha_d, ha_m]
      refine ⟨_, spec_PageFault _ (x := rawF data) (by omega) (by simp (maxSteps := 4000000) [hd0, hfr, hout, hcl, hcd, delA_none, ha, ha_n, ha_d, ha_m, rawF]), ?_⟩
      by_cases hp : pageF (rawF data) = 0
      case neg => simp (maxSteps := 4000000) [hd0, hfr, hout, hcl, hcd, delA_none, ha, ha_n, ha_d, ha_m, hp, unpackF, h48, h2, DPageResult.enc]
      simp (maxSteps := 4000000) [hd0, hfr, hout, hcl, hcd, delA_none, ha, ha_n, ha_d, ha_m, hp]
      refine ⟨_, spec_l1Pack _ (x := rawF data) (by omega) (by simp (maxSteps := 4000000) [hd0, hfr, hout, hcl, hcd, delA_none, ha, ha_n, ha_d, ha_m, rawF]), ?_⟩
      by_cases hq : packF (rawF data) = data
      · have hU : unpackF data = ⟨0, rawF data⟩ := by simp [unpackF, h48, h2, hp, hq]
        rw [hU]
        simp (maxSteps := 4000000) [hd0, hfr, hout, hcl, hcd, delA_none, ha, ha_n, ha_d, ha_m, hp, hq, DPageResult.enc, htk]
        refine ⟨fun a _ c hc => ?_, ?_⟩
        · simp [encU8] at hc
          subst hc; rfl
        · simp [rawF]
      · have hU : unpackF data = ⟨5, ⟨0, 0, []⟩⟩ := by simp [unpackF, h48, h2, hq]
        rw [hU]
        have hne : ¬ (baOf (packF (rawF data))).toList = (baOf data).toList := fun e => hq (baOf_inj packF_B hB e)
        simp (maxSteps := 4000000) [hd0, hfr, hout, hcl, hcd, delA_none, ha, ha_n, ha_d, ha_m, hp, hq, DPageResult.enc, htk, hne]
        intro a _ c hc
        simp [encU8] at hc
        subst hc; rfl
end Go.Proofs.Ythejobdlfomcjaa

namespace Go.Proofs.Ythejobdlfomcjaa
open Go Go.Px Go.RowKit Go.Proofs
set_option linter.unnecessarySimpa false
set_option linter.unusedVariables false
set_option linter.unusedSimpArgs false
set_option maxRecDepth 100000
attribute [-simp] Int.not_le Int.not_lt
theorem pageF_le {p : DPage} (h : pageF p = 0) : p.cells.length ≤ 12 := by
  unfold pageF at h
  split at h
  · omega
  · split at h
    · omega
    · omega
def writeF (x : DDisk) (p : DPage) : DDiskResult := if diskF x ≠ 0 then ⟨diskF x, ⟨[], []⟩⟩ else if pageF p ≠ 0 then ⟨pageF p, ⟨[], []⟩⟩ else placeF x p.id_ (packF p)
theorem impl_PlaceDisk_own (H : HH) {r1 q1 r2 q2} {x : DDisk} {id : Int} {data : List Int} (hl : x.le 1048576) (hdl : data.length ≤ 1048576) (a1 : arrAt H r1 q1 = some (1, x.pages.map (encS 1 encU8))) (a2 : arrAt H r2 q2 = some (3, x.loose.map DLoose.enc)) :
    PFun Try.prog 47 [.a [.sl r1 q1 1 0 x.pages.length, .sl r2 q2 3 0 x.loose.length], I id, .c (.own 1 (data.map encU8))] H (.a (placeF x id data).enc) := by
  refine PFun.root rfl (fun d => (placeF x id data).pure _) (fun d hd hf => ?_)
  have n1 : ∀ n, ¬ (d, n) = r1 := fun n => nm_ne (ne_of_arr hf a1)
  have n2 : ∀ n, ¬ (d, n) = r2 := fun n => nm_ne (ne_of_arr hf a2)
  have := impl_PlaceDisk (((d, 3), .own 1 (data.map encU8)) :: H) (r1 := r1) (q1 := q1) (r2 := r2) (q2 := q2) (r3 := (d, 3)) (q3 := []) (x := x) (id := id) (data := data) hl hdl (by simp [n1, a1]) (by simp [n2, a2]) (by simp)
  simpa using this
theorem spec_PlaceDisk_own (H : HH) {r1 q1 r2 q2} {x : DDisk} {id : Int} {data : List Int} (hl : x.le 1048576) (hdl : data.length ≤ 1048576) (a1 : arrAt H r1 q1 = some (1, x.pages.map (encS 1 encU8))) (a2 : arrAt H r2 q2 = some (3, x.loose.map DLoose.enc)) :
    PFun Try.prog 45 [.a [.sl r1 q1 1 0 x.pages.length, .sl r2 q2 3 0 x.loose.length], I id, .c (.own 1 (data.map encU8))] H (.a (placeF x id data).enc) := by
  refine PFun.root rfl (fun d => (placeF x id data).pure _) (fun d hd hf => ?_)
  have n1 : ∀ n, ¬ (d, n) = r1 := fun n => nm_ne (ne_of_arr hf a1)
  have n2 : ∀ n, ¬ (d, n) = r2 := fun n => nm_ne (ne_of_arr hf a2)
  have := spec_PlaceDisk (((d, 3), .own 1 (data.map encU8)) :: H) (r1 := r1) (q1 := q1) (r2 := r2) (q2 := q2) (r3 := (d, 3)) (q3 := []) (x := x) (id := id) (data := data) hl hdl (by simp [n1, a1]) (by simp [n2, a2]) (by simp)
  simpa using this
theorem impl_WriteDisk (H : HH) {r1 q1 r2 q2 r3 q3} {x : DDisk} {p : DPage} (hl : x.le 1048576) (hpl : p.le 1048576) (a1 : arrAt H r1 q1 = some (1, x.pages.map (encS 1 encU8))) (a2 : arrAt H r2 q2 = some (3, x.loose.map DLoose.enc)) (a3 : arrAt H r3 q3 = some (2, p.cells.map DCell.enc)) :
    PFun Try.prog 56 [.a [.sl r1 q1 1 0 x.pages.length, .sl r2 q2 3 0 x.loose.length], .a [.v (.int .i64 p.id_), .v (.int .i64 p.lsn), .sl r3 q3 2 0 p.cells.length]] H (.a (writeF x p).enc) := by
  refine PFun.of [2, 3, 4, 5, 9, 13] Try.func56 rfl (by simp [Try.f56]) ?_
  intro d hd0 hfr hcl hout
  have hcd : ∀ n q, CleanH (hit [((d, n), q)]) H := fun n q => hcl.at
  have a1_n : ∀ n, ¬ (d, n) = r1 := fun n => nm_ne (ne_of_arr hfr a1)
  have a1_d : ¬ r1.1 = d := ne_of_arr hfr a1
  have a1_m : ∀ n, ¬ r1 = (d, n) := fun n => nm_ne' (ne_of_arr hfr a1)
  have a2_n : ∀ n, ¬ (d, n) = r2 := fun n => nm_ne (ne_of_arr hfr a2)
  have a2_d : ¬ r2.1 = d := ne_of_arr hfr a2
  have a2_m : ∀ n, ¬ r2 = (d, n) := fun n => nm_ne' (ne_of_arr hfr a2)
  have a3_n : ∀ n, ¬ (d, n) = r3 := fun n => nm_ne (ne_of_arr hfr a3)
  have a3_d : ¬ r3.1 = d := ne_of_arr hfr a3
  have a3_m : ∀ n, ¬ r3 = (d, n) := fun n => nm_ne' (ne_of_arr hfr a3)
  simp (maxSteps := 4000000) [hd0, hfr, hout, hcl, hcd, delA_none, a1, a1_n, a1_d, a1_m, a2, a2_n, a2_d, a2_m, a3, a3_n, a3_d, a3_m, Try.f56]
  refine (impl_DiskFault _ hl (by simp (maxSteps := 4000000) [hd0, hfr, hout, hcl, hcd, delA_none, a1, a1_n, a1_d, a1_m, a2, a2_n, a2_d, a2_m, a3, a3_n, a3_d, a3_m]) (by simp (maxSteps := 4000000) [hd0, hfr, hout, hcl, hcd, delA_none, a1, a1_n, a1_d, a1_m, a2, a2_n, a2_d, a2_m, a3, a3_n, a3_d, a3_m])).useCK ?_
  simp (maxSteps := 4000000) [hd0, hfr, hout, hcl, hcd, delA_none, a1, a1_n, a1_d, a1_m, a2, a2_n, a2_d, a2_m, a3, a3_n, a3_d, a3_m]
  by_cases h0 : diskF x = 0
  case neg => simp (maxSteps := 4000000) [hd0, hfr, hout, hcl, hcd, delA_none, a1, a1_n, a1_d, a1_m, a2, a2_n, a2_d, a2_m, a3, a3_n, a3_d, a3_m, h0, writeF, DDiskResult.enc]
  simp (maxSteps := 4000000) [hd0, hfr, hout, hcl, hcd, delA_none, a1, a1_n, a1_d, a1_m, a2, a2_n, a2_d, a2_m, a3, a3_n, a3_d, a3_m, h0]
  refine (impl_PageFault _ hpl (by simp (maxSteps := 4000000) [hd0, hfr, hout, hcl, hcd, delA_none, a1, a1_n, a1_d, a1_m, a2, a2_n, a2_d, a2_m, a3, a3_n, a3_d, a3_m])).useCK ?_
  simp (maxSteps := 4000000) [hd0, hfr, hout, hcl, hcd, delA_none, a1, a1_n, a1_d, a1_m, a2, a2_n, a2_d, a2_m, a3, a3_n, a3_d, a3_m]
  by_cases h1 : pageF p = 0
  case neg => simp (maxSteps := 4000000) [hd0, hfr, hout, hcl, hcd, delA_none, a1, a1_n, a1_d, a1_m, a2, a2_n, a2_d, a2_m, a3, a3_n, a3_d, a3_m, h0, h1, writeF, DDiskResult.enc]
  have hW : writeF x p = placeF x p.id_ (packF p) := by simp [writeF, h0, h1]
  have h12 := pageF_le h1
  have h48 := packF_len (x := p) (by omega)
  rw [hW]
  simp (maxSteps := 4000000) [hd0, hfr, hout, hcl, hcd, delA_none, a1, a1_n, a1_d, a1_m, a2, a2_n, a2_d, a2_m, a3, a3_n, a3_d, a3_m, h1]
  refine DrawK.intro 6 [4, 21] rfl (by kernel_rfl) (by decide) ?_
  simp (maxSteps := 4000000) [hd0, hfr, hout, hcl, hcd, delA_none, a1, a1_n, a1_d, a1_m, a2, a2_n, a2_d, a2_m, a3, a3_n, a3_d, a3_m]
  refine ⟨_, impl_Page_pack _ (x := p) (by omega) (by simp (maxSteps := 4000000) [hd0, hfr, hout, hcl, hcd, delA_none, a1, a1_n, a1_d, a1_m, a2, a2_n, a2_d, a2_m, a3, a3_n, a3_d, a3_m]), ?_⟩
  simp (maxSteps := 4000000) [hd0, hfr, hout, hcl, hcd, delA_none, a1, a1_n, a1_d, a1_m, a2, a2_n, a2_d, a2_m, a3, a3_n, a3_d, a3_m]
  repeat (first | (refine And.intro (by kernel_rfl) ?_) | (refine And.intro (by omega) ?_))
  refine ⟨_, impl_PlaceDisk_own _ (x := x) (data := packF p) hl (by omega) (by simp (maxSteps := 4000000) [hd0, hfr, hout, hcl, hcd, delA_none, a1, a1_n, a1_d, a1_m, a2, a2_n, a2_d, a2_m, a3, a3_n, a3_d, a3_m]) (by simp (maxSteps := 4000000) [hd0, hfr, hout, hcl, hcd, delA_none, a1, a1_n, a1_d, a1_m, a2, a2_n, a2_d, a2_m, a3, a3_n, a3_d, a3_m]), ?_⟩
  simp (maxSteps := 4000000) [hd0, hfr, hout, hcl, hcd, delA_none, a1, a1_n, a1_d, a1_m, a2, a2_n, a2_d, a2_m, a3, a3_n, a3_d, a3_m, DDiskResult.enc]
theorem spec_WriteDisk (H : HH) {r1 q1 r2 q2 r3 q3} {x : DDisk} {p : DPage} (hl : x.le 1048576) (hpl : p.le 1048576) (a1 : arrAt H r1 q1 = some (1, x.pages.map (encS 1 encU8))) (a2 : arrAt H r2 q2 = some (3, x.loose.map DLoose.enc)) (a3 : arrAt H r3 q3 = some (2, p.cells.map DCell.enc)) :
    PFun Try.prog 57 [.a [.sl r1 q1 1 0 x.pages.length, .sl r2 q2 3 0 x.loose.length], .a [.v (.int .i64 p.id_), .v (.int .i64 p.lsn), .sl r3 q3 2 0 p.cells.length]] H (.a (writeF x p).enc) := by
  refine PFun.of [2, 3, 4, 5, 6, 10, 16] Try.func57 rfl (by simp [Try.f57]) ?_
  intro d hd0 hfr hcl hout
  have hcd : ∀ n q, CleanH (hit [((d, n), q)]) H := fun n q => hcl.at
  have a1_n : ∀ n, ¬ (d, n) = r1 := fun n => nm_ne (ne_of_arr hfr a1)
  have a1_d : ¬ r1.1 = d := ne_of_arr hfr a1
  have a1_m : ∀ n, ¬ r1 = (d, n) := fun n => nm_ne' (ne_of_arr hfr a1)
  have a2_n : ∀ n, ¬ (d, n) = r2 := fun n => nm_ne (ne_of_arr hfr a2)
  have a2_d : ¬ r2.1 = d := ne_of_arr hfr a2
  have a2_m : ∀ n, ¬ r2 = (d, n) := fun n => nm_ne' (ne_of_arr hfr a2)
  have a3_n : ∀ n, ¬ (d, n) = r3 := fun n => nm_ne (ne_of_arr hfr a3)
  have a3_d : ¬ r3.1 = d := ne_of_arr hfr a3
  have a3_m : ∀ n, ¬ r3 = (d, n) := fun n => nm_ne' (ne_of_arr hfr a3)
  simp (maxSteps := 4000000) [hd0, hfr, hout, hcl, hcd, delA_none, a1, a1_n, a1_d, a1_m, a2, a2_n, a2_d, a2_m, a3, a3_n, a3_d, a3_m, Try.f57]
  refine (spec_DiskFault _ hl (by simp (maxSteps := 4000000) [hd0, hfr, hout, hcl, hcd, delA_none, a1, a1_n, a1_d, a1_m, a2, a2_n, a2_d, a2_m, a3, a3_n, a3_d, a3_m]) (by simp (maxSteps := 4000000) [hd0, hfr, hout, hcl, hcd, delA_none, a1, a1_n, a1_d, a1_m, a2, a2_n, a2_d, a2_m, a3, a3_n, a3_d, a3_m])).useCK ?_
  simp (maxSteps := 4000000) [hd0, hfr, hout, hcl, hcd, delA_none, a1, a1_n, a1_d, a1_m, a2, a2_n, a2_d, a2_m, a3, a3_n, a3_d, a3_m]
  by_cases h0 : diskF x = 0
  case neg => simp (maxSteps := 4000000) [hd0, hfr, hout, hcl, hcd, delA_none, a1, a1_n, a1_d, a1_m, a2, a2_n, a2_d, a2_m, a3, a3_n, a3_d, a3_m, h0, writeF, DDiskResult.enc]
  simp (maxSteps := 4000000) [hd0, hfr, hout, hcl, hcd, delA_none, a1, a1_n, a1_d, a1_m, a2, a2_n, a2_d, a2_m, a3, a3_n, a3_d, a3_m, h0]
  refine (spec_PageFault _ hpl (by simp (maxSteps := 4000000) [hd0, hfr, hout, hcl, hcd, delA_none, a1, a1_n, a1_d, a1_m, a2, a2_n, a2_d, a2_m, a3, a3_n, a3_d, a3_m])).useCK ?_
  simp (maxSteps := 4000000) [hd0, hfr, hout, hcl, hcd, delA_none, a1, a1_n, a1_d, a1_m, a2, a2_n, a2_d, a2_m, a3, a3_n, a3_d, a3_m]
  by_cases h1 : pageF p = 0
  case neg => simp (maxSteps := 4000000) [hd0, hfr, hout, hcl, hcd, delA_none, a1, a1_n, a1_d, a1_m, a2, a2_n, a2_d, a2_m, a3, a3_n, a3_d, a3_m, h0, h1, writeF, DDiskResult.enc]
  have hW : writeF x p = placeF x p.id_ (packF p) := by simp [writeF, h0, h1]
  have h12 := pageF_le h1
  have h48 := packF_len (x := p) (by omega)
  rw [hW]
  simp (maxSteps := 4000000) [hd0, hfr, hout, hcl, hcd, delA_none, a1, a1_n, a1_d, a1_m, a2, a2_n, a2_d, a2_m, a3, a3_n, a3_d, a3_m, h1]
  refine DrawK.intro 6 [4, 24] rfl (by kernel_rfl) (by decide) ?_
  simp (maxSteps := 4000000) [hd0, hfr, hout, hcl, hcd, delA_none, a1, a1_n, a1_d, a1_m, a2, a2_n, a2_d, a2_m, a3, a3_n, a3_d, a3_m]
  refine ⟨_, spec_l1Pack _ (x := p) (by omega) (by simp (maxSteps := 4000000) [hd0, hfr, hout, hcl, hcd, delA_none, a1, a1_n, a1_d, a1_m, a2, a2_n, a2_d, a2_m, a3, a3_n, a3_d, a3_m]), ?_⟩
  simp (maxSteps := 4000000) [hd0, hfr, hout, hcl, hcd, delA_none, a1, a1_n, a1_d, a1_m, a2, a2_n, a2_d, a2_m, a3, a3_n, a3_d, a3_m]
  repeat (first | (refine And.intro (by kernel_rfl) ?_) | (refine And.intro (by omega) ?_))
  refine ⟨_, spec_PlaceDisk_own _ (x := x) (data := packF p) hl (by omega) (by simp (maxSteps := 4000000) [hd0, hfr, hout, hcl, hcd, delA_none, a1, a1_n, a1_d, a1_m, a2, a2_n, a2_d, a2_m, a3, a3_n, a3_d, a3_m]) (by simp (maxSteps := 4000000) [hd0, hfr, hout, hcl, hcd, delA_none, a1, a1_n, a1_d, a1_m, a2, a2_n, a2_d, a2_m, a3, a3_n, a3_d, a3_m]), ?_⟩
  simp (maxSteps := 4000000) [hd0, hfr, hout, hcl, hcd, delA_none, a1, a1_n, a1_d, a1_m, a2, a2_n, a2_d, a2_m, a3, a3_n, a3_d, a3_m, DDiskResult.enc]
def readF (x : DDisk) (id : Nat) : DPageResult :=
  let u := unpackF (x.pages.getD id [])
  if u.code = 0 ∧ u.page.id_ ≠ id then ⟨1, ⟨0, 0, []⟩⟩ else u
theorem impl_Disk_read (H : HH) {r1 q1 r2 q2 rows n2} {pages : List (List Int)} {id : Nat} (hid : id < pages.length) (hb : ∀ p ∈ pages, p.length = 48 ∧ isB p) (hl : pages.length ≤ 1048576) (a1 : arrAt H r1 q1 = some (1, pages.map (encS 1 encU8))) (a2 : arrAt H r2 q2 = some (3, rows)) :
    PFun Try.prog 137 [.a [.sl r1 q1 1 0 pages.length, .sl r2 q2 3 0 n2], I id] H (.a (readF ⟨pages, []⟩ id).enc) := by
  obtain ⟨h48, hB⟩ := hb pages[id] (List.getElem_mem hid)
  have hsub := arrAt_sub a1 (i := id) (f := 0) (row := encS 1 encU8 pages[id]) (by simp [hid]) rfl
  have hg : pages.getD id [] = pages[id] := by simp [List.getD_eq_getElem?_getD, hid]
  refine PFun.of [1, 2, 4, 5, 21] Try.func137 rfl (by simp [Try.f137]) ?_
  intro d hd0 hfr hcl hout
  have hcd : ∀ n q, CleanH (hit [((d, n), q)]) H := fun n q => hcl.at
  have a1_n : ∀ n, ¬ (d, n) = r1 := fun n => nm_ne (ne_of_arr hfr a1)
  have a1_d : ¬ r1.1 = d := ne_of_arr hfr a1
  have a1_m : ∀ n, ¬ r1 = (d, n) := fun n => nm_ne' (ne_of_arr hfr a1)
  have a2_n : ∀ n, ¬ (d, n) = r2 := fun n => nm_ne (ne_of_arr hfr a2)
  have a2_d : ¬ r2.1 = d := ne_of_arr hfr a2
  have a2_m : ∀ n, ¬ r2 = (d, n) := fun n => nm_ne' (ne_of_arr hfr a2)
  simp (maxSteps := 4000000) [hd0, hfr, hout, hcl, hcd, delA_none, a1, a1_n, a1_d, a1_m, a2, a2_n, a2_d, a2_m, Try.f137]
  simp (maxSteps := 4000000) [hd0, hfr, hout, hcl, hcd, delA_none, a1, a1_n, a1_d, a1_m, a2, a2_n, a2_d, a2_m, hid, encS]
  refine (impl_UnpackPage _ (data := pages[id]) (by omega) hB (by simp (maxSteps := 4000000) [hd0, hfr, hout, hcl, hcd, delA_none, a1, a1_n, a1_d, a1_m, a2, a2_n, a2_d, a2_m, hsub])).useCK ?_
  generalize hu : unpackF pages[id] = u
  have hR : readF ⟨pages, []⟩ id = if u.code = 0 ∧ u.page.id_ ≠ id then ⟨1, ⟨0, 0, []⟩⟩ else u := by simp only [readF, hg, hu]
  rw [hR]
  by_cases h0 : u.code = 0
  case neg => simp (maxSteps := 4000000) [hd0, hfr, hout, hcl, hcd, delA_none, a1, a1_n, a1_d, a1_m, a2, a2_n, a2_d, a2_m, h0, DPageResult.enc]
  by_cases h1 : u.page.id_ = id
  · simp (maxSteps := 4000000) [hd0, hfr, hout, hcl, hcd, delA_none, a1, a1_n, a1_d, a1_m, a2, a2_n, a2_d, a2_m, h0, h1, DPageResult.enc]
  · simp (maxSteps := 4000000) [hd0, hfr, hout, hcl, hcd, delA_none, a1, a1_n, a1_d, a1_m, a2, a2_n, a2_d, a2_m, h0, h1, DPageResult.enc]
theorem ov_B {p d : List Int} {a k : Nat} (hp : isB p) (hd : isB d) : isB (ov p a k d) := by
  unfold ov; exact (hp.take.append hd.take).append hp.drop
theorem getD_B {ps : List (List Int)} {i : Nat} (h : ∀ p ∈ ps, isB p) : isB (ps.getD i []) := by
  rw [List.getD_eq_getElem?_getD]
  by_cases hi : i < ps.length
  · rw [List.getElem?_eq_getElem hi]; exact h _ (List.getElem_mem hi)
  · rw [List.getElem?_eq_none (by omega)]; intro y hy; simp at hy
theorem doW_B {ps : List (List Int)} {pg pt data} (h : ∀ p ∈ ps, isB p) (hd : isB data) : ∀ p ∈ doW ps pg pt data, isB p := by
  intro p hp
  unfold doW at hp
  rcases List.mem_or_eq_of_mem_set hp with h' | rfl
  · exact h p h'
  · exact ov_B (getD_B h) hd
theorem doF_B : ∀ {l : List DLoose} {ps : List (List Int)}, (∀ p ∈ ps, isB p) → (∀ w ∈ l, isB w.data) → ∀ p ∈ doF ps l, isB p
  | [], ps, h, _ => h
  | w :: l, ps, h, hw => by
    have : doF ps (w :: l) = doF (doW ps w.page.toNat w.part.toNat w.data) l := rfl
    rw [this]
    exact doF_B (doW_B h (hw w (by simp))) (fun v hv => hw v (by simp [hv]))
def DDisk.isB (x : DDisk) : Prop := (∀ p ∈ x.pages, Go.Proofs.Ythejobdlfomcjaa.isB p) ∧ ∀ w ∈ x.loose, Go.Proofs.Ythejobdlfomcjaa.isB w.data
theorem isB_wf {l : List Int} (h : ∀ y ∈ l, (Lit.int .u8 y).wf = true) : isB l := by
  intro y hy
  have := h y hy
  simp [Lit.wf, IntKind.min, IntKind.max, IntKind.signed, IntKind.bits] at this
  omega
theorem DDisk.isB_wf {x : DDisk} (h : x.wf) : x.isB := ⟨fun p hp => Go.Proofs.Ythejobdlfomcjaa.isB_wf (h.1.2 p hp).2, fun w hw => Go.Proofs.Ythejobdlfomcjaa.isB_wf (h.2.2 w hw).2.2.2⟩
theorem spec_l2Read (H : HH) {r1 q1 r2 q2} {x : DDisk} {id : Nat} (hl : x.le 1048576) (hid : id < x.pages.length) (h48 : ∀ p ∈ x.pages, p.length = 48) (hw : ∀ w ∈ x.loose, Wok x.pages.length w) (hB : x.isB)
    (a1 : arrAt H r1 q1 = some (1, x.pages.map (encS 1 encU8))) (a2 : arrAt H r2 q2 = some (3, x.loose.map DLoose.enc)) :
    PFun Try.prog 141 [.a [.sl r1 q1 1 0 x.pages.length, .sl r2 q2 3 0 x.loose.length], I id] H (.a (readF ⟨doF x.pages x.loose, []⟩ id).enc) := by
  have hdl : (doF x.pages x.loose).length = x.pages.length := doF_len
  have hid2 : id < (doF x.pages x.loose).length := by omega
  have hp48 : (doF x.pages x.loose)[id].length = 48 := doF_48 h48 hw _ (List.getElem_mem hid2)
  have hpB := doF_B hB.1 hB.2 _ (List.getElem_mem hid2)
  have hg : (doF x.pages x.loose).getD id [] = (doF x.pages x.loose)[id] := by simp [List.getD_eq_getElem?_getD, hid2]
  refine PFun.of [1, 2, 4, 5, 22] Try.func141 rfl (by simp [Try.f141]) ?_
  intro d hd0 hfr hcl hout
  have hcd : ∀ n q, CleanH (hit [((d, n), q)]) H := fun n q => hcl.at
  have a1_n : ∀ n, ¬ (d, n) = r1 := fun n => nm_ne (ne_of_arr hfr a1)
  have a1_d : ¬ r1.1 = d := ne_of_arr hfr a1
  have a1_m : ∀ n, ¬ r1 = (d, n) := fun n => nm_ne' (ne_of_arr hfr a1)
  have a2_n : ∀ n, ¬ (d, n) = r2 := fun n => nm_ne (ne_of_arr hfr a2)
  have a2_d : ¬ r2.1 = d := ne_of_arr hfr a2
  have a2_m : ∀ n, ¬ r2 = (d, n) := fun n => nm_ne' (ne_of_arr hfr a2)
  simp (maxSteps := 4000000) [hd0, hfr, hout, hcl, hcd, delA_none, a1, a1_n, a1_d, a1_m, a2, a2_n, a2_d, a2_m, Try.f141]
  refine (spec_l2Sync _ hl h48 hw (by simp (maxSteps := 4000000) [hd0, hfr, hout, hcl, hcd, delA_none, a1, a1_n, a1_d, a1_m, a2, a2_n, a2_d, a2_m]) (by simp (maxSteps := 4000000) [hd0, hfr, hout, hcl, hcd, delA_none, a1, a1_n, a1_d, a1_m, a2, a2_n, a2_d, a2_m])).useCK ?_
  simp (maxSteps := 4000000) [hd0, hfr, hout, hcl, hcd, delA_none, a1, a1_n, a1_d, a1_m, a2, a2_n, a2_d, a2_m, DDisk.enc, hid2, encS]
  refine (spec_UnpackPage _ (data := (doF x.pages x.loose)[id]) (by omega) hpB (by simp (maxSteps := 4000000) [hd0, hfr, hout, hcl, hcd, delA_none, a1, a1_n, a1_d, a1_m, a2, a2_n, a2_d, a2_m, hid2, encS])).useCK ?_
  generalize hu : unpackF (doF x.pages x.loose)[id] = u
  have hR : readF ⟨doF x.pages x.loose, []⟩ id = if u.code = 0 ∧ u.page.id_ ≠ id then ⟨1, ⟨0, 0, []⟩⟩ else u := by simp only [readF, hg, hu]
  rw [hR]
  by_cases h0 : u.code = 0
  case neg => simp (maxSteps := 4000000) [hd0, hfr, hout, hcl, hcd, delA_none, a1, a1_n, a1_d, a1_m, a2, a2_n, a2_d, a2_m, h0, DPageResult.enc]
  by_cases h1 : u.page.id_ = id
  · simp (maxSteps := 4000000) [hd0, hfr, hout, hcl, hcd, delA_none, a1, a1_n, a1_d, a1_m, a2, a2_n, a2_d, a2_m, h0, h1, DPageResult.enc]
  · simp (maxSteps := 4000000) [hd0, hfr, hout, hcl, hcd, delA_none, a1, a1_n, a1_d, a1_m, a2, a2_n, a2_d, a2_m, h0, h1, DPageResult.enc]
def readDF (x : DDisk) (id : Int) : DPageResult := if diskF x ≠ 0 then ⟨diskF x, ⟨0, 0, []⟩⟩ else if inR id 0 (x.pages.length - 1) = false then ⟨3, ⟨0, 0, []⟩⟩ else readF ⟨doF x.pages x.loose, []⟩ id.toNat
theorem impl_Disk_read_own (H : HH) {pages : List (List Int)} {id : Nat} (hid : id < pages.length) (hb : ∀ p ∈ pages, p.length = 48 ∧ isB p) (hl : pages.length ≤ 1048576) :
    PFun Try.prog 137 [.a [.own 1 (pages.map (encS 1 encU8)), .own 3 []], I id] H (.a (readF ⟨pages, []⟩ id).enc) := by
  refine PFun.root rfl (fun d => DPageResult.pure _ _) (fun d hd hf => ?_)
  have := impl_Disk_read (((d, 0), .own 1 (pages.map (encS 1 encU8))) :: ((d, 1), .own 3 []) :: H) (r1 := (d, 0)) (q1 := []) (r2 := (d, 1)) (q2 := []) (rows := []) (n2 := 0) (pages := pages) (id := id) hid hb hl (by simp) (by simp)
  simpa using this
theorem doF_ok {x : DDisk} (h0 : diskF x = 0) (hB : x.isB) : ∀ p ∈ doF x.pages x.loose, p.length = 48 ∧ isB p := by
  obtain ⟨h48, hw, -⟩ := diskF_ok h0
  exact fun p hp => ⟨doF_48 h48 hw p hp, doF_B hB.1 hB.2 p hp⟩
theorem impl_ReadDisk (H : HH) {r1 q1 r2 q2} {x : DDisk} {id : Int} (hl : x.le 1048576) (hB : x.isB) (a1 : arrAt H r1 q1 = some (1, x.pages.map (encS 1 encU8))) (a2 : arrAt H r2 q2 = some (3, x.loose.map DLoose.enc)) :
    PFun Try.prog 58 [.a [.sl r1 q1 1 0 x.pages.length, .sl r2 q2 3 0 x.loose.length], I id] H (.a (readDF x id).enc) := by
  have hl' := hl
  obtain ⟨⟨b1, b1p⟩, b2, b2p⟩ := hl'
  refine PFun.of [1, 2, 4, 5, 15, 17] Try.func58 rfl (by simp [Try.f58]) ?_
  intro d hd0 hfr hcl hout
  have hcd : ∀ n q, CleanH (hit [((d, n), q)]) H := fun n q => hcl.at
  have a1_n : ∀ n, ¬ (d, n) = r1 := fun n => nm_ne (ne_of_arr hfr a1)
  have a1_d : ¬ r1.1 = d := ne_of_arr hfr a1
  have a1_m : ∀ n, ¬ r1 = (d, n) := fun n => nm_ne' (ne_of_arr hfr a1)
  have a2_n : ∀ n, ¬ (d, n) = r2 := fun n => nm_ne (ne_of_arr hfr a2)
  have a2_d : ¬ r2.1 = d := ne_of_arr hfr a2
  have a2_m : ∀ n, ¬ r2 = (d, n) := fun n => nm_ne' (ne_of_arr hfr a2)
  simp (maxSteps := 4000000) [hd0, hfr, hout, hcl, hcd, delA_none, a1, a1_n, a1_d, a1_m, a2, a2_n, a2_d, a2_m, Try.f58]
  refine (impl_DiskFault _ hl (by simp (maxSteps := 4000000) [hd0, hfr, hout, hcl, hcd, delA_none, a1, a1_n, a1_d, a1_m, a2, a2_n, a2_d, a2_m]) (by simp (maxSteps := 4000000) [hd0, hfr, hout, hcl, hcd, delA_none, a1, a1_n, a1_d, a1_m, a2, a2_n, a2_d, a2_m])).useCK ?_
  simp (maxSteps := 4000000) [hd0, hfr, hout, hcl, hcd, delA_none, a1, a1_n, a1_d, a1_m, a2, a2_n, a2_d, a2_m]
  by_cases h0 : diskF x = 0
  case neg => simp (maxSteps := 4000000) [hd0, hfr, hout, hcl, hcd, delA_none, a1, a1_n, a1_d, a1_m, a2, a2_n, a2_d, a2_m, h0, readDF, DPageResult.enc]
  simp (maxSteps := 4000000) [hd0, hfr, hout, hcl, hcd, delA_none, a1, a1_n, a1_d, a1_m, a2, a2_n, a2_d, a2_m, h0]
  refine (impl_Disk_hasPage _ b1).useCK ?_
  simp (maxSteps := 4000000) [hd0, hfr, hout, hcl, hcd, delA_none, a1, a1_n, a1_d, a1_m, a2, a2_n, a2_d, a2_m]
  by_cases h1 : inR id 0 (x.pages.length - 1) = true
  case neg =>
    simp only [Bool.not_eq_true] at h1
    simp (maxSteps := 4000000) [hd0, hfr, hout, hcl, hcd, delA_none, a1, a1_n, a1_d, a1_m, a2, a2_n, a2_d, a2_m, h0, h1, readDF, DPageResult.enc]
  have hR : readDF x id = readF ⟨doF x.pages x.loose, []⟩ id.toNat := by simp [readDF, h0, h1]
  obtain ⟨k, rfl⟩ : ∃ k : Nat, id = k := ⟨id.toNat, by simp [inR] at h1; omega⟩
  have hk : k < x.pages.length := by simp [inR] at h1; omega
  obtain ⟨h48, hw, -⟩ := diskF_ok h0
  rw [hR, h1]
  simp (maxSteps := 4000000) [hd0, hfr, hout, hcl, hcd, delA_none, a1, a1_n, a1_d, a1_m, a2, a2_n, a2_d, a2_m, h0]
  refine (impl_Disk_done _ (l := x.loose) hl b2 h48 hw (by simp (maxSteps := 4000000) [hd0, hfr, hout, hcl, hcd, delA_none, a1, a1_n, a1_d, a1_m, a2, a2_n, a2_d, a2_m]) (by simp (maxSteps := 4000000) [hd0, hfr, hout, hcl, hcd, delA_none, a1, a1_n, a1_d, a1_m, a2, a2_n, a2_d, a2_m]) (by simp (maxSteps := 4000000) [hd0, hfr, hout, hcl, hcd, delA_none, a1, a1_n, a1_d, a1_m, a2, a2_n, a2_d, a2_m])).useCK ?_
  simp (maxSteps := 4000000) [hd0, hfr, hout, hcl, hcd, delA_none, a1, a1_n, a1_d, a1_m, a2, a2_n, a2_d, a2_m, DDisk.enc]
  refine (impl_Disk_read_own _ (by rw [doF_len]; exact hk) (doF_ok h0 hB) (by rw [doF_len]; exact b1)).useCK ?_
  simp (maxSteps := 4000000) [hd0, hfr, hout, hcl, hcd, delA_none, a1, a1_n, a1_d, a1_m, a2, a2_n, a2_d, a2_m, DPageResult.enc]
theorem spec_ReadDisk (H : HH) {r1 q1 r2 q2} {x : DDisk} {id : Int} (hl : x.le 1048576) (hB : x.isB) (a1 : arrAt H r1 q1 = some (1, x.pages.map (encS 1 encU8))) (a2 : arrAt H r2 q2 = some (3, x.loose.map DLoose.enc)) :
    PFun Try.prog 67 [.a [.sl r1 q1 1 0 x.pages.length, .sl r2 q2 3 0 x.loose.length], I id] H (.a (readDF x id).enc) := by
  have hl' := hl
  obtain ⟨⟨b1, b1p⟩, b2, b2p⟩ := hl'
  refine PFun.of [1, 2, 4, 5, 9, 14] Try.func67 rfl (by simp [Try.f67]) ?_
  intro d hd0 hfr hcl hout
  have hcd : ∀ n q, CleanH (hit [((d, n), q)]) H := fun n q => hcl.at
  have a1_n : ∀ n, ¬ (d, n) = r1 := fun n => nm_ne (ne_of_arr hfr a1)
  have a1_d : ¬ r1.1 = d := ne_of_arr hfr a1
  have a1_m : ∀ n, ¬ r1 = (d, n) := fun n => nm_ne' (ne_of_arr hfr a1)
  have a2_n : ∀ n, ¬ (d, n) = r2 := fun n => nm_ne (ne_of_arr hfr a2)
  have a2_d : ¬ r2.1 = d := ne_of_arr hfr a2
  have a2_m : ∀ n, ¬ r2 = (d, n) := fun n => nm_ne' (ne_of_arr hfr a2)
  simp (maxSteps := 4000000) [hd0, hfr, hout, hcl, hcd, delA_none, a1, a1_n, a1_d, a1_m, a2, a2_n, a2_d, a2_m, Try.f67]
  refine (spec_DiskFault _ hl (by simp (maxSteps := 4000000) [hd0, hfr, hout, hcl, hcd, delA_none, a1, a1_n, a1_d, a1_m, a2, a2_n, a2_d, a2_m]) (by simp (maxSteps := 4000000) [hd0, hfr, hout, hcl, hcd, delA_none, a1, a1_n, a1_d, a1_m, a2, a2_n, a2_d, a2_m])).useCK ?_
  simp (maxSteps := 4000000) [hd0, hfr, hout, hcl, hcd, delA_none, a1, a1_n, a1_d, a1_m, a2, a2_n, a2_d, a2_m]
  by_cases h0 : diskF x = 0
  case neg => simp (maxSteps := 4000000) [hd0, hfr, hout, hcl, hcd, delA_none, a1, a1_n, a1_d, a1_m, a2, a2_n, a2_d, a2_m, h0, readDF, DPageResult.enc]
  simp (maxSteps := 4000000) [hd0, hfr, hout, hcl, hcd, delA_none, a1, a1_n, a1_d, a1_m, a2, a2_n, a2_d, a2_m, h0]
  refine (spec_l2Page2 _ (r1 := r1) (q1 := q1) (c1 := .sl r2 q2 3 0 x.loose.length) b1 (by simp (maxSteps := 4000000) [hd0, hfr, hout, hcl, hcd, delA_none, a1, a1_n, a1_d, a1_m, a2, a2_n, a2_d, a2_m])).useCK ?_
  simp (maxSteps := 4000000) [hd0, hfr, hout, hcl, hcd, delA_none, a1, a1_n, a1_d, a1_m, a2, a2_n, a2_d, a2_m]
  by_cases h1 : inR id 0 (x.pages.length - 1) = true
  case neg =>
    simp only [Bool.not_eq_true] at h1
    simp (maxSteps := 4000000) [hd0, hfr, hout, hcl, hcd, delA_none, a1, a1_n, a1_d, a1_m, a2, a2_n, a2_d, a2_m, h0, h1, readDF, DPageResult.enc]
  have hR : readDF x id = readF ⟨doF x.pages x.loose, []⟩ id.toNat := by simp [readDF, h0, h1]
  obtain ⟨k, rfl⟩ : ∃ k : Nat, id = k := ⟨id.toNat, by simp [inR] at h1; omega⟩
  have hk : k < x.pages.length := by simp [inR] at h1; omega
  obtain ⟨h48, hw, -⟩ := diskF_ok h0
  rw [hR, h1]
  simp (maxSteps := 4000000) [hd0, hfr, hout, hcl, hcd, delA_none, a1, a1_n, a1_d, a1_m, a2, a2_n, a2_d, a2_m]
  refine (spec_l2Read _ hl hk h48 hw hB (by simp (maxSteps := 4000000) [hd0, hfr, hout, hcl, hcd, delA_none, a1, a1_n, a1_d, a1_m, a2, a2_n, a2_d, a2_m]) (by simp (maxSteps := 4000000) [hd0, hfr, hout, hcl, hcd, delA_none, a1, a1_n, a1_d, a1_m, a2, a2_n, a2_d, a2_m])).useCK ?_
  simp (maxSteps := 4000000) [hd0, hfr, hout, hcl, hcd, delA_none, a1, a1_n, a1_d, a1_m, a2, a2_n, a2_d, a2_m, DPageResult.enc]
theorem readF_le {x : DDisk} {id : Nat} : (readF x id).le 1048576 := by
  have hu : ∀ d, (unpackF d).le 1048576 := by
    intro d
    unfold unpackF
    repeat' split
    all_goals simp only [DPageResult.le, DPage.le, List.length_nil, Nat.zero_le]
    simp only [rawF, cellsR_len, cntF]; omega
  unfold readF
  simp only
  split
  · simp [DPageResult.le, DPage.le]
  · exact hu _
theorem readDF_le {x : DDisk} {id : Int} : (readDF x id).le 1048576 := by
  unfold readDF
  repeat' split
  · simp [DPageResult.le, DPage.le]
  · simp [DPageResult.le, DPage.le]
  · exact readF_le
theorem writeF_le {x : DDisk} {p : DPage} (hl : x.le 1048576) (hp : p.le 1048576) : (writeF x p).le 1048576 := by
  unfold writeF
  repeat' split
  · simp [DDiskResult.le, DDisk.le]
  · simp [DDiskResult.le, DDisk.le]
  · rename_i h
    have h12 := pageF_le (p := p) (by simpa using h)
    exact placeF_le hl (by rw [packF_len (by omega)]; omega)
def tornL (pages : List (List Int)) (n : Nat) : List Int := ((List.range n).filter fun k => decide ((readF ⟨pages, []⟩ k).code ≠ 0)).map fun k : Nat => (k : Int)
theorem tornL_succ {pages n} : tornL pages (n + 1) = tornL pages n ++ if (readF ⟨pages, []⟩ n).code = 0 then [] else [(n : Int)] := by
  simp only [tornL, List.range_succ, List.filter_append, List.map_append]
  by_cases h : (readF ⟨pages, []⟩ n).code = 0 <;> simp [h]
theorem tornL_len {pages n} : (tornL pages n).length ≤ n := by
  simp only [tornL, List.length_map]
  have := List.length_filter_le (fun k => decide ((readF ⟨pages, []⟩ k).code ≠ 0)) (List.range n)
  simpa using this
def tornF (x : DDisk) : DIntsResult := if diskF x ≠ 0 then ⟨diskF x, []⟩ else ⟨0, tornL (doF x.pages x.loose) x.pages.length⟩
theorem tornF_le {x : DDisk} (hl : x.le 1048576) : (tornF x).le 1048576 := by
  unfold tornF
  split
  · simp [DIntsResult.le]
  · simp only [DIntsResult.le]
    have := tornL_len (pages := doF x.pages x.loose) (n := x.pages.length)
    have := hl.1.1
    omega
theorem impl_TornOf (H : HH) {r1 q1 r2 q2} {x : DDisk} (hl : x.le 1048576) (hB : x.isB) (a1 : arrAt H r1 q1 = some (1, x.pages.map (encS 1 encU8))) (a2 : arrAt H r2 q2 = some (3, x.loose.map DLoose.enc)) :
    PFun Try.prog 62 [.a [.sl r1 q1 1 0 x.pages.length, .sl r2 q2 3 0 x.loose.length]] H (.a (tornF x).enc) := by
  have hl' := hl
  obtain ⟨⟨b1, b1p⟩, b2, b2p⟩ := hl'
  refine PFun.of [1, 2, 3, 4, 5, 6, 10, 20, 21, 22, 28] Try.func62 rfl (by simp [Try.f62]) ?_
  intro d hd0 hfr hcl hout
  have hcd : ∀ n q, CleanH (hit [((d, n), q)]) H := fun n q => hcl.at
  have a1_n : ∀ n, ¬ (d, n) = r1 := fun n => nm_ne (ne_of_arr hfr a1)
  have a1_d : ¬ r1.1 = d := ne_of_arr hfr a1
  have a1_m : ∀ n, ¬ r1 = (d, n) := fun n => nm_ne' (ne_of_arr hfr a1)
  have a2_n : ∀ n, ¬ (d, n) = r2 := fun n => nm_ne (ne_of_arr hfr a2)
  have a2_d : ¬ r2.1 = d := ne_of_arr hfr a2
  have a2_m : ∀ n, ¬ r2 = (d, n) := fun n => nm_ne' (ne_of_arr hfr a2)
  simp (maxSteps := 4000000) [hd0, hfr, hout, hcl, hcd, delA_none, a1, a1_n, a1_d, a1_m, a2, a2_n, a2_d, a2_m, Try.f62]
  refine (impl_DiskFault _ hl (by simp (maxSteps := 4000000) [hd0, hfr, hout, hcl, hcd, delA_none, a1, a1_n, a1_d, a1_m, a2, a2_n, a2_d, a2_m]) (by simp (maxSteps := 4000000) [hd0, hfr, hout, hcl, hcd, delA_none, a1, a1_n, a1_d, a1_m, a2, a2_n, a2_d, a2_m])).useCK ?_
  simp (maxSteps := 4000000) [hd0, hfr, hout, hcl, hcd, delA_none, a1, a1_n, a1_d, a1_m, a2, a2_n, a2_d, a2_m]
  by_cases h0 : diskF x = 0
  case neg => simp (maxSteps := 4000000) [hd0, hfr, hout, hcl, hcd, delA_none, a1, a1_n, a1_d, a1_m, a2, a2_n, a2_d, a2_m, h0, tornF, DIntsResult.enc]
  simp (maxSteps := 4000000) [hd0, hfr, hout, hcl, hcd, delA_none, a1, a1_n, a1_d, a1_m, a2, a2_n, a2_d, a2_m, h0]
  obtain ⟨h48, hw, -⟩ := diskF_ok h0
  have hT : tornF x = ⟨0, tornL (doF x.pages x.loose) x.pages.length⟩ := by simp [tornF, h0]
  rw [hT]
  refine (impl_Disk_done _ (l := x.loose) hl b2 h48 hw (by simp (maxSteps := 4000000) [hd0, hfr, hout, hcl, hcd, delA_none, a1, a1_n, a1_d, a1_m, a2, a2_n, a2_d, a2_m]) (by simp (maxSteps := 4000000) [hd0, hfr, hout, hcl, hcd, delA_none, a1, a1_n, a1_d, a1_m, a2, a2_n, a2_d, a2_m]) (by simp (maxSteps := 4000000) [hd0, hfr, hout, hcl, hcd, delA_none, a1, a1_n, a1_d, a1_m, a2, a2_n, a2_d, a2_m])).useCK ?_
  simp (maxSteps := 4000000) [hd0, hfr, hout, hcl, hcd, delA_none, a1, a1_n, a1_d, a1_m, a2, a2_n, a2_d, a2_m, DDisk.enc]
  refine LoopK.intro (fun m s => ∃ k : Nat, k + m = x.pages.length ∧ s = ⟨[(2, .c (.pt (d, 2) [] 2 0 0)), (4, .c (.sl (d, 4) [] 1 0 (tornL (doF x.pages x.loose) k).length)), (5, .c (.pt (d, 5) [] 2 0 0)), (20, I x.pages.length), (21, I k)],
      ((d, 4), .own 1 ((tornL (doF x.pages x.loose) k).map encI)) :: ((d, 5), .own 2 [[.own 1 ((doF x.pages x.loose).map (encS 1 encU8)), .own 3 []]]) :: ((d, 2), .own 2 [[.v (.int .i64 0), .own 1 []]]) :: H, []⟩) (x.pages.length + 1)
    (LK.intro x.pages.length [2, 4, 5, 20, 21] [1] (by omega) (by decide) (by simp (maxSteps := 4000000) [hd0, hfr, hout, hcl, hcd, delA_none, a1, a1_n, a1_d, a1_m, a2, a2_n, a2_d, a2_m]) ⟨0, by simp [tornL]⟩) ?_
  rintro m s ⟨k, hkm, rfl⟩
  have hlen := tornL_len (pages := doF x.pages x.loose) (n := k)
  by_cases hk : k < x.pages.length
  · have w1 : IntKind.i64.wrap ((k : Int) + 1) = k + 1 := w64 (by omega) (by omega)
    simp (maxSteps := 4000000) [hd0, hfr, hout, hcl, hcd, delA_none, a1, a1_n, a1_d, a1_m, a2, a2_n, a2_d, a2_m, show (k : Int) < x.pages.length by omega]
    refine (impl_Disk_read _ (r1 := (d, 5)) (q1 := [(0, 0)]) (r2 := (d, 5)) (q2 := [(0, 1)]) (rows := []) (pages := doF x.pages x.loose) (by rw [doF_len]; exact hk) (doF_ok h0 hB) (by rw [doF_len]; exact b1) (by simp (maxSteps := 4000000) [hd0, hfr, hout, hcl, hcd, delA_none, a1, a1_n, a1_d, a1_m, a2, a2_n, a2_d, a2_m]) (by simp (maxSteps := 4000000) [hd0, hfr, hout, hcl, hcd, delA_none, a1, a1_n, a1_d, a1_m, a2, a2_n, a2_d, a2_m])).useCK ?_
    by_cases c : (readF ⟨doF x.pages x.loose, []⟩ k).code = 0
    · simp (maxSteps := 4000000) [hd0, hfr, hout, hcl, hcd, delA_none, a1, a1_n, a1_d, a1_m, a2, a2_n, a2_d, a2_m, c, DPageResult.enc, w1]
      refine LK.intro (m - 1) [2, 4, 5, 20, 21] [] (by omega) (by decide) (by simp (maxSteps := 4000000) [hd0, hfr, hout, hcl, hcd, delA_none, a1, a1_n, a1_d, a1_m, a2, a2_n, a2_d, a2_m]) ⟨k + 1, by omega, by simp [tornL_succ, c]⟩
    · simp (maxSteps := 4000000) [hd0, hfr, hout, hcl, hcd, delA_none, a1, a1_n, a1_d, a1_m, a2, a2_n, a2_d, a2_m, c, DPageResult.enc, w1]
      refine ⟨by omega, ?_⟩
      refine LK.intro (m - 1) [2, 4, 5, 20, 21] [] (by omega) (by decide) (by simp (maxSteps := 4000000) [hd0, hfr, hout, hcl, hcd, delA_none, a1, a1_n, a1_d, a1_m, a2, a2_n, a2_d, a2_m]) ⟨k + 1, by omega, by simp [tornL_succ, c, encI]⟩
  · have : k = x.pages.length := by omega
    subst this
    simp (maxSteps := 4000000) [hd0, hfr, hout, hcl, hcd, delA_none, a1, a1_n, a1_d, a1_m, a2, a2_n, a2_d, a2_m, show ¬ (x.pages.length : Int) < x.pages.length by omega, DIntsResult.enc]
theorem spec_TornOf (H : HH) {r1 q1 r2 q2} {x : DDisk} (hl : x.le 1048576) (hB : x.isB) (a1 : arrAt H r1 q1 = some (1, x.pages.map (encS 1 encU8))) (a2 : arrAt H r2 q2 = some (3, x.loose.map DLoose.enc)) :
    PFun Try.prog 63 [.a [.sl r1 q1 1 0 x.pages.length, .sl r2 q2 3 0 x.loose.length]] H (.a (tornF x).enc) := by
  have hl' := hl
  obtain ⟨⟨b1, b1p⟩, b2, b2p⟩ := hl'
  refine PFun.of [1, 2, 3, 4, 5, 9, 17, 24] Try.func63 rfl (by simp [Try.f63]) ?_
  intro d hd0 hfr hcl hout
  have hcd : ∀ n q, CleanH (hit [((d, n), q)]) H := fun n q => hcl.at
  have a1_n : ∀ n, ¬ (d, n) = r1 := fun n => nm_ne (ne_of_arr hfr a1)
  have a1_d : ¬ r1.1 = d := ne_of_arr hfr a1
  have a1_m : ∀ n, ¬ r1 = (d, n) := fun n => nm_ne' (ne_of_arr hfr a1)
  have a2_n : ∀ n, ¬ (d, n) = r2 := fun n => nm_ne (ne_of_arr hfr a2)
  have a2_d : ¬ r2.1 = d := ne_of_arr hfr a2
  have a2_m : ∀ n, ¬ r2 = (d, n) := fun n => nm_ne' (ne_of_arr hfr a2)
  simp (maxSteps := 4000000) [hd0, hfr, hout, hcl, hcd, delA_none, a1, a1_n, a1_d, a1_m, a2, a2_n, a2_d, a2_m, Try.f63]
  refine (spec_DiskFault _ hl (by simp (maxSteps := 4000000) [hd0, hfr, hout, hcl, hcd, delA_none, a1, a1_n, a1_d, a1_m, a2, a2_n, a2_d, a2_m]) (by simp (maxSteps := 4000000) [hd0, hfr, hout, hcl, hcd, delA_none, a1, a1_n, a1_d, a1_m, a2, a2_n, a2_d, a2_m])).useCK ?_
  simp (maxSteps := 4000000) [hd0, hfr, hout, hcl, hcd, delA_none, a1, a1_n, a1_d, a1_m, a2, a2_n, a2_d, a2_m]
  by_cases h0 : diskF x = 0
  case neg => simp (maxSteps := 4000000) [hd0, hfr, hout, hcl, hcd, delA_none, a1, a1_n, a1_d, a1_m, a2, a2_n, a2_d, a2_m, h0, tornF, DIntsResult.enc]
  simp (maxSteps := 4000000) [hd0, hfr, hout, hcl, hcd, delA_none, a1, a1_n, a1_d, a1_m, a2, a2_n, a2_d, a2_m, h0]
  obtain ⟨h48, hw, -⟩ := diskF_ok h0
  have hT : tornF x = ⟨0, tornL (doF x.pages x.loose) x.pages.length⟩ := by simp [tornF, h0]
  rw [hT]
  refine LoopK.intro (fun m s => ∃ k : Nat, k + m = x.pages.length ∧ s = ⟨[(1, .c (.pt (d, 1) [] 2 0 0)), (2, .c (.pt (d, 2) [] 2 0 0)), (4, .c (.pt (d, 4) [] 2 0 0)), (5, I k)],
      ((d, 4), .own 2 [[.v (.int .i64 0), .own 1 ((tornL (doF x.pages x.loose) k).map encI)]]) :: ((d, 2), .own 2 [[.v (.int .i64 0), .own 1 []]]) :: ((d, 1), .own 2 [[.sl r1 q1 1 0 x.pages.length, .sl r2 q2 3 0 x.loose.length]]) :: H, []⟩) (x.pages.length + 1)
    (LK.intro x.pages.length [1, 2, 4, 5] [] (by omega) (by decide) (by simp (maxSteps := 4000000) [hd0, hfr, hout, hcl, hcd, delA_none, a1, a1_n, a1_d, a1_m, a2, a2_n, a2_d, a2_m]) ⟨0, by simp [tornL]⟩) ?_
  rintro m s ⟨k, hkm, rfl⟩
  have hlen := tornL_len (pages := doF x.pages x.loose) (n := k)
  by_cases hk : k < x.pages.length
  · have w1 : IntKind.i64.wrap ((k : Int) + 1) = k + 1 := w64 (by omega) (by omega)
    simp (maxSteps := 4000000) [hd0, hfr, hout, hcl, hcd, delA_none, a1, a1_n, a1_d, a1_m, a2, a2_n, a2_d, a2_m, show (k : Int) < x.pages.length by omega]
    refine (spec_l2Read _ hl hk h48 hw hB (by simp (maxSteps := 4000000) [hd0, hfr, hout, hcl, hcd, delA_none, a1, a1_n, a1_d, a1_m, a2, a2_n, a2_d, a2_m]) (by simp (maxSteps := 4000000) [hd0, hfr, hout, hcl, hcd, delA_none, a1, a1_n, a1_d, a1_m, a2, a2_n, a2_d, a2_m])).useCK ?_
    by_cases c : (readF ⟨doF x.pages x.loose, []⟩ k).code = 0
    · simp (maxSteps := 4000000) [hd0, hfr, hout, hcl, hcd, delA_none, a1, a1_n, a1_d, a1_m, a2, a2_n, a2_d, a2_m, c, DPageResult.enc, w1]
      refine LK.intro (m - 1) [1, 2, 4, 5] [] (by omega) (by decide) (by simp (maxSteps := 4000000) [hd0, hfr, hout, hcl, hcd, delA_none, a1, a1_n, a1_d, a1_m, a2, a2_n, a2_d, a2_m]) ⟨k + 1, by omega, by simp [tornL_succ, c]⟩
    · simp (maxSteps := 4000000) [hd0, hfr, hout, hcl, hcd, delA_none, a1, a1_n, a1_d, a1_m, a2, a2_n, a2_d, a2_m, c, DPageResult.enc, w1]
      refine ⟨by omega, ?_⟩
      refine LK.intro (m - 1) [1, 2, 4, 5] [] (by omega) (by decide) (by simp (maxSteps := 4000000) [hd0, hfr, hout, hcl, hcd, delA_none, a1, a1_n, a1_d, a1_m, a2, a2_n, a2_d, a2_m]) ⟨k + 1, by omega, by simp [tornL_succ, c, encI]⟩
  · have : k = x.pages.length := by omega
    subst this
    simp (maxSteps := 4000000) [hd0, hfr, hout, hcl, hcd, delA_none, a1, a1_n, a1_d, a1_m, a2, a2_n, a2_d, a2_m, show ¬ (x.pages.length : Int) < x.pages.length by omega, DIntsResult.enc]
end Go.Proofs.Ythejobdlfomcjaa

namespace Go.Proofs.Ythejobdlfomcjaa
open Go Go.Px Go.RowKit Go.Proofs
set_option linter.unnecessarySimpa false
set_option linter.unusedVariables false
set_option linter.unusedSimpArgs false
set_option maxRecDepth 100000
attribute [-simp] Int.not_le Int.not_lt
theorem laws_FnExactTornOf (H : HH) {r0_0 q0_0} {r0_1 q0_1} {x0 : DDisk} (w0 : x0.wf) (hm0 : x0.le 9223372036854775807)
    (a0_0 : arrAt H r0_0 q0_0 = some (1, x0.pages.map (encS 1 encU8))) (a0_1 : arrAt H r0_1 q0_1 = some (3, x0.loose.map DLoose.enc)) :
    PFun Try.prog 11 [.a [.sl r0_0 q0_0 1 0 x0.pages.length, .sl r0_1 q0_1 3 0 x0.loose.length]] H (B true) := by
  refine PFun.of [1, 2, 3, 4, 5, 6, 7, 8, 9, 10, 15, 26, 31, 42, 50, 53, 60, 65, 68] Try.func11 rfl (by simp [Try.f11]) ?_
  intro d hd0 hfr hcl hout
  have hcd : ∀ n q, CleanH (hit [((d, n), q)]) H := fun n q => hcl.at
  have a0_0_n : ∀ n, ¬ (d, n) = r0_0 := fun n => nm_ne (ne_of_arr hfr a0_0)
  have a0_0_d : ¬ r0_0.1 = d := ne_of_arr hfr a0_0
  have a0_0_m : ∀ n, ¬ r0_0 = (d, n) := fun n => nm_ne' (ne_of_arr hfr a0_0)
  have a0_1_n : ∀ n, ¬ (d, n) = r0_1 := fun n => nm_ne (ne_of_arr hfr a0_1)
  have a0_1_d : ¬ r0_1.1 = d := ne_of_arr hfr a0_1
  have a0_1_m : ∀ n, ¬ r0_1 = (d, n) := fun n => nm_ne' (ne_of_arr hfr a0_1)
  simp (maxSteps := 4000000) [hd0, hfr, hout, hcl, hcd, delA_none, a0_0, a0_0_n, a0_0_d, a0_0_m, a0_1, a0_1_n, a0_1_d, a0_1_m, Try.f11]
  have hok0 := DDisk.ok.2 hm0
  refine (laws_szDisk _ (row := x0.enc) hok0 (by simp only [DDisk.enc, Refs_v, Refs_own, Refs_nil, List.length_map]; exact ⟨_, _, _, rfl, by simp (maxSteps := 4000000) [hd0, hfr, hout, hcl, hcd, delA_none, a0_0, a0_0_n, a0_0_d, a0_0_m, a0_1, a0_1_n, a0_1_d, a0_1_m], ⟨_, _, _, rfl, by simp (maxSteps := 4000000) [hd0, hfr, hout, hcl, hcd, delA_none, a0_0, a0_0_n, a0_0_d, a0_0_m, a0_1, a0_1_n, a0_1_d, a0_1_m], rfl⟩⟩) (by omega) (by omega)).useCK ?_
  by_cases s0 : (cntR x0.enc : Int) ≤ 1048576
  case neg => rw [szV_neg s0]; simp (maxSteps := 4000000) [hd0, hfr, hout, hcl, hcd, delA_none, a0_0, a0_0_n, a0_0_d, a0_0_m, a0_1, a0_1_n, a0_1_d, a0_1_m]
  rw [szV_pos s0]
  obtain ⟨L1, hL1⟩ : ∃ L : Int, L = 1048576 - (cntR x0.enc : Int) := ⟨_, rfl⟩
  rw [← hL1]
  simp (maxSteps := 4000000) [hd0, hfr, hout, hcl, hcd, delA_none, a0_0, a0_0_n, a0_0_d, a0_0_m, a0_1, a0_1_n, a0_1_d, a0_1_m, show ¬ (L1 < 0) by omega]
  have hok02 : okDisk 1048576 x0.enc := okDisk_le hok0 (by omega)
  have hl0 : x0.le 1048576 := DDisk.ok.1 hok02
  have hT0 : ∀ H {r0_0 q0_0} {r0_1 q0_1}, arrAt H r0_0 q0_0 = some (1, x0.pages.map (encS 1 encU8)) → arrAt H r0_1 q0_1 = some (3, x0.loose.map DLoose.enc) → PFun Try.prog 21 [.a [.sl r0_0 q0_0 1 0 x0.pages.length, .sl r0_1 q0_1 3 0 x0.loose.length]] H (.a [.own 1 (x0.pages.map (encS 1 encU8)), .own 3 (x0.loose.map DLoose.enc)]) := fun H r0_0 q0_0 r0_1 q0_1 h0 h1 =>
    laws_toDisk H (row := x0.enc) hok02 (by simp only [DDisk.enc, Refs_v, Refs_own, Refs_nil, List.length_map]; exact ⟨_, _, _, rfl, h0, ⟨_, _, _, rfl, h1, rfl⟩⟩)
  obtain ⟨y, hy⟩ : ∃ y, y = tornF x0 := ⟨_, rfl⟩
  have hyl : y.le 1048576 := by rw [hy]; exact tornF_le hl0
  have hSr : ∀ H {r0_0 q0_0} {r0_1 q0_1}, arrAt H r0_0 q0_0 = some (1, x0.pages.map (encS 1 encU8)) → arrAt H r0_1 q0_1 = some (3, x0.loose.map DLoose.enc) → PFun Try.prog 63 [.a [.sl r0_0 q0_0 1 0 x0.pages.length, .sl r0_1 q0_1 3 0 x0.loose.length]] H (.a y.enc) := fun H r0_0 q0_0 r0_1 q0_1 h0 h1 => by rw [hy]; exact spec_TornOf _ hl0 (DDisk.isB_wf w0) h0 h1
  have hIr : ∀ H {r0_0 q0_0} {r0_1 q0_1}, arrAt H r0_0 q0_0 = some (1, x0.pages.map (encS 1 encU8)) → arrAt H r0_1 q0_1 = some (3, x0.loose.map DLoose.enc) → PFun Try.prog 62 [.a [.sl r0_0 q0_0 1 0 x0.pages.length, .sl r0_1 q0_1 3 0 x0.loose.length]] H (.a y.enc) := fun H r0_0 q0_0 r0_1 q0_1 h0 h1 => by rw [hy]; exact impl_TornOf _ hl0 (DDisk.isB_wf w0) h0 h1
  have hS : ∀ H, PFun Try.prog 63 [.a [.own 1 (x0.pages.map (encS 1 encU8)), .own 3 (x0.loose.map DLoose.enc)]] H (.a y.enc) := fun H => PFun.root rfl (fun d => y.pure _) (fun d hd hf => by simpa using hSr _ (r0_0 := (d, 0)) (q0_0 := []) (r0_1 := (d, 1)) (q0_1 := []) (by simp) (by simp))
  have hI : ∀ H, PFun Try.prog 62 [.a [.own 1 (x0.pages.map (encS 1 encU8)), .own 3 (x0.loose.map DLoose.enc)]] H (.a y.enc) := fun H => PFun.root rfl (fun d => y.pure _) (fun d hd hf => by simpa using hIr _ (r0_0 := (d, 0)) (q0_0 := []) (r0_1 := (d, 1)) (q0_1 := []) (by simp) (by simp))
  clear hy
  have hyok : okIntsResult 1048576 y.enc := DIntsResult.ok.2 hyl
  have hylv := okIntsResult_lvsb hyok
  have hE : ∀ H {n m : Nat}, arrAt H (d, n) [] = some (2, [y.enc]) → arrAt H (d, m) [] = some (2, [y.enc]) → PFun Try.prog 64 [.a [.v (.int .i64 y.code), .sl (d, n) [(0, 1)] 1 0 y.list.length], .a [.v (.int .i64 y.code), .sl (d, m) [(0, 1)] 1 0 y.list.length]] H (B true) := fun H n m h1 h2 =>
    laws_eqIntsResult H (row := y.enc) hyok (by simp only [DIntsResult.enc, Refs_v, Refs_own, Refs_nil, List.length_map]; exact ⟨_, rfl, ⟨_, _, _, rfl, arrAt_sub h1 (i := 0) (f := 1) rfl rfl, rfl⟩⟩) (by simp only [DIntsResult.enc, Refs_v, Refs_own, Refs_nil, List.length_map]; exact ⟨_, rfl, ⟨_, _, _, rfl, arrAt_sub h2 (i := 0) (f := 1) rfl rfl, rfl⟩⟩)
  refine (hT0 _ (by simp (maxSteps := 4000000) [hd0, hfr, hout, hcl, hcd, delA_none, a0_0, a0_0_n, a0_0_d, a0_0_m, a0_1, a0_1_n, a0_1_d, a0_1_m]) (by simp (maxSteps := 4000000) [hd0, hfr, hout, hcl, hcd, delA_none, a0_0, a0_0_n, a0_0_d, a0_0_m, a0_1, a0_1_n, a0_1_d, a0_1_m])).useCK ?_
  simp (maxSteps := 4000000) [hd0, hfr, hout, hcl, hcd, delA_none, a0_0, a0_0_n, a0_0_d, a0_0_m, a0_1, a0_1_n, a0_1_d, a0_1_m]
  refine (hS _).useCK ?_
  simp (maxSteps := 4000000) [hd0, hfr, hout, hcl, hcd, delA_none, a0_0, a0_0_n, a0_0_d, a0_0_m, a0_1, a0_1_n, a0_1_d, a0_1_m, DIntsResult.enc]
  refine (hT0 _ (by simp (maxSteps := 4000000) [hd0, hfr, hout, hcl, hcd, delA_none, a0_0, a0_0_n, a0_0_d, a0_0_m, a0_1, a0_1_n, a0_1_d, a0_1_m]) (by simp (maxSteps := 4000000) [hd0, hfr, hout, hcl, hcd, delA_none, a0_0, a0_0_n, a0_0_d, a0_0_m, a0_1, a0_1_n, a0_1_d, a0_1_m])).useCK ?_
  simp (maxSteps := 4000000) [hd0, hfr, hout, hcl, hcd, delA_none, a0_0, a0_0_n, a0_0_d, a0_0_m, a0_1, a0_1_n, a0_1_d, a0_1_m]
  refine (hIr _ (by simp (maxSteps := 4000000) [hd0, hfr, hout, hcl, hcd, delA_none, a0_0, a0_0_n, a0_0_d, a0_0_m, a0_1, a0_1_n, a0_1_d, a0_1_m]) (by simp (maxSteps := 4000000) [hd0, hfr, hout, hcl, hcd, delA_none, a0_0, a0_0_n, a0_0_d, a0_0_m, a0_1, a0_1_n, a0_1_d, a0_1_m])).useCK ?_
  simp (maxSteps := 4000000) [hd0, hfr, hout, hcl, hcd, delA_none, a0_0, a0_0_n, a0_0_d, a0_0_m, a0_1, a0_1_n, a0_1_d, a0_1_m, DIntsResult.enc]
  refine (hE _ (by simp (maxSteps := 4000000) [hd0, hfr, hout, hcl, hcd, delA_none, a0_0, a0_0_n, a0_0_d, a0_0_m, a0_1, a0_1_n, a0_1_d, a0_1_m, DIntsResult.enc]) (by simp (maxSteps := 4000000) [hd0, hfr, hout, hcl, hcd, delA_none, a0_0, a0_0_n, a0_0_d, a0_0_m, a0_1, a0_1_n, a0_1_d, a0_1_m, DIntsResult.enc])).useCK ?_
  simp (maxSteps := 4000000) [hd0, hfr, hout, hcl, hcd, delA_none, a0_0, a0_0_n, a0_0_d, a0_0_m, a0_1, a0_1_n, a0_1_d, a0_1_m]
  refine DrawK.intro 5 [1, 4, 5, 6, 31] rfl (by kernel_rfl) (by decide) ?_
  simp (maxSteps := 4000000) [hd0, hfr, hout, hcl, hcd, delA_none, a0_0, a0_0_n, a0_0_d, a0_0_m, a0_1, a0_1_n, a0_1_d, a0_1_m]
  refine ⟨_, hT0 _ (by simp (maxSteps := 4000000) [hd0, hfr, hout, hcl, hcd, delA_none, a0_0, a0_0_n, a0_0_d, a0_0_m, a0_1, a0_1_n, a0_1_d, a0_1_m]) (by simp (maxSteps := 4000000) [hd0, hfr, hout, hcl, hcd, delA_none, a0_0, a0_0_n, a0_0_d, a0_0_m, a0_1, a0_1_n, a0_1_d, a0_1_m]), ?_⟩
  simp (maxSteps := 4000000) [hd0, hfr, hout, hcl, hcd, delA_none, a0_0, a0_0_n, a0_0_d, a0_0_m, a0_1, a0_1_n, a0_1_d, a0_1_m]
  repeat (first | (refine And.intro (by kernel_rfl) ?_) | (refine And.intro (by omega) ?_))
  have hEx0 : ∀ H, arrAt H (d, 5) [] = some (2, [x0.enc]) → PFun Try.prog 24 [.a [.sl (d, 5) [(0, 0)] 1 0 x0.pages.length, .sl (d, 5) [(0, 1)] 3 0 x0.loose.length], .a [.own 1 (x0.pages.map (encS 1 encU8)), .own 3 (x0.loose.map DLoose.enc)]] H (B true) := fun H h => by
    refine PFun.root rfl (fun d => by simp) (fun d2 hd hf => ?_)
    have n1 : ∀ n, ¬ (d2, n) = (d, 5) := fun n => nm_ne (ne_of_arr hf h)
    have := laws_eqDisk (((d2, 2), .own 1 (x0.pages.map (encS 1 encU8))) :: ((d2, 3), .own 3 (x0.loose.map DLoose.enc)) :: H) (row := x0.enc) (cs := [.sl (d, 5) [(0, 0)] 1 0 x0.pages.length, .sl (d, 5) [(0, 1)] 3 0 x0.loose.length]) (cs' := [.sl (d2, 2) [] 1 0 x0.pages.length, .sl (d2, 3) [] 3 0 x0.loose.length]) hok02 (by simp only [DDisk.enc, Refs_v, Refs_own, Refs_nil, List.length_map]; exact ⟨_, _, _, rfl, (by simp only [arrAt_cons, n1, if_false]; exact arrAt_sub h (i := 0) (f := 0) rfl rfl), ⟨_, _, _, rfl, (by simp only [arrAt_cons, n1, if_false]; exact arrAt_sub h (i := 0) (f := 1) rfl rfl), rfl⟩⟩) (by simp only [DDisk.enc, Refs_v, Refs_own, Refs_nil, List.length_map]; exact ⟨_, _, _, rfl, by simp, ⟨_, _, _, rfl, by simp, rfl⟩⟩)
    simpa using this
  refine ⟨_, hEx0 _ (by simp (maxSteps := 4000000) [hd0, hfr, hout, hcl, hcd, delA_none, a0_0, a0_0_n, a0_0_d, a0_0_m, a0_1, a0_1_n, a0_1_d, a0_1_m, DDisk.enc]), ?_⟩
  simp (maxSteps := 4000000) [hd0, hfr, hout, hcl, hcd, delA_none, a0_0, a0_0_n, a0_0_d, a0_0_m, a0_1, a0_1_n, a0_1_d, a0_1_m]
  have hlv0 := okDisk_lvsb hok02
  have hM0 : ∀ H, arrAt H (d, 5) [] = some (2, [x0.enc]) → PUpd Try.prog 25 [.a [.sl (d, 5) [(0, 0)] 1 0 x0.pages.length, .sl (d, 5) [(0, 1)] 3 0 x0.loose.length], I (1)] H (I (1 + lvS x0.enc)) (setA H (d, 5) [] (.own 2 [mkS (1) x0.enc])) := fun H h => by
    have := laws_markDisk H (r := (d, 5)) (q := []) (z := 2) (i := 0) (f := 0) (rows := [x0.enc]) (pre := []) (seg := x0.enc) (post := []) (k := 1) hok02 (by omega) (by omega) h hd0 (by simp) rfl
    simpa [ldcs, ldc, DDisk.enc] using this
  have hmx0 : mkS (1) x0.enc = [.own 1 (mkRs (1) (x0.pages.map (encS 1 encU8))), .own 3 (mkRs (1 + lvRs (x0.pages.map (encS 1 encU8))) (x0.loose.map DLoose.enc))] := by simp [DDisk.enc, mkS]
  refine (hM0 _ (by simp (maxSteps := 4000000) [hd0, hfr, hout, hcl, hcd, delA_none, a0_0, a0_0_n, a0_0_d, a0_0_m, a0_1, a0_1_n, a0_1_d, a0_1_m, DDisk.enc])).useCK ?_
  simp (maxSteps := 4000000) [hd0, hfr, hout, hcl, hcd, delA_none, a0_0, a0_0_n, a0_0_d, a0_0_m, a0_1, a0_1_n, a0_1_d, a0_1_m, hmx0, show ¬ (1 + (lvS x0.enc : Int) < 0) by omega]
  refine (hE _ (by simp (maxSteps := 4000000) [hd0, hfr, hout, hcl, hcd, delA_none, a0_0, a0_0_n, a0_0_d, a0_0_m, a0_1, a0_1_n, a0_1_d, a0_1_m, DIntsResult.enc]) (by simp (maxSteps := 4000000) [hd0, hfr, hout, hcl, hcd, delA_none, a0_0, a0_0_n, a0_0_d, a0_0_m, a0_1, a0_1_n, a0_1_d, a0_1_m, DIntsResult.enc])).useCK ?_
  simp (maxSteps := 4000000) [hd0, hfr, hout, hcl, hcd, delA_none, a0_0, a0_0_n, a0_0_d, a0_0_m, a0_1, a0_1_n, a0_1_d, a0_1_m]
  have hMR : ∀ H, arrAt H (d, 6) [] = some (2, [y.enc]) → PUpd Try.prog 65 [.a [.v (.int .i64 y.code), .sl (d, 6) [(0, 1)] 1 0 y.list.length], I 1] H (I (1 + lvS y.enc)) (setA H (d, 6) [] (.own 2 [mkS 1 y.enc])) := fun H h => by
    have := laws_markIntsResult H (r := (d, 6)) (q := []) (z := 2) (i := 0) (f := 0) (rows := [y.enc]) (pre := []) (seg := y.enc) (post := []) (k := 1) hyok (by omega) (by omega) h hd0 (by simp) rfl
    simpa [ldcs, ldc, DIntsResult.enc] using this
  have hmy : mkS 1 y.enc = [.v (.int .i64 y.code), .own 1 (mkRs (1) (y.list.map encI))] := by simp [DIntsResult.enc, mkS]
  refine (hMR _ (by simp (maxSteps := 4000000) [hd0, hfr, hout, hcl, hcd, delA_none, a0_0, a0_0_n, a0_0_d, a0_0_m, a0_1, a0_1_n, a0_1_d, a0_1_m, DIntsResult.enc])).useCK ?_
  simp (maxSteps := 4000000) [hd0, hfr, hout, hcl, hcd, delA_none, a0_0, a0_0_n, a0_0_d, a0_0_m, a0_1, a0_1_n, a0_1_d, a0_1_m, hmy, mkRs_length]
  have hH : ∀ H, arrAt H (d, 6) [] = some (2, [mkS 1 y.enc]) → PFun Try.prog 66 [.a [.v (.int .i64 y.code), .sl (d, 6) [(0, 1)] 1 0 y.list.length], I 1] H (I (1 + lvS y.enc)) := fun H h =>
    laws_heldIntsResult H (row := y.enc) hyok (by omega) (by omega) (by rw [hmy] at h ⊢; simp only [Refs_v, Refs_own, Refs_nil, List.length_map, mkRs_length]; exact ⟨_, rfl, ⟨_, _, _, rfl, arrAt_sub h (i := 0) (f := 1) rfl rfl, rfl⟩⟩)
  refine (hH _ (by simp (maxSteps := 4000000) [hd0, hfr, hout, hcl, hcd, delA_none, a0_0, a0_0_n, a0_0_d, a0_0_m, a0_1, a0_1_n, a0_1_d, a0_1_m, hmy])).useCK ?_
  simp (maxSteps := 4000000) [hd0, hfr, hout, hcl, hcd, delA_none, a0_0, a0_0_n, a0_0_d, a0_0_m, a0_1, a0_1_n, a0_1_d, a0_1_m, hmy, mkRs_length, show ¬ (1 + (lvS y.enc : Int) < 0) by omega]
  refine (hT0 _ (by simp (maxSteps := 4000000) [hd0, hfr, hout, hcl, hcd, delA_none, a0_0, a0_0_n, a0_0_d, a0_0_m, a0_1, a0_1_n, a0_1_d, a0_1_m]) (by simp (maxSteps := 4000000) [hd0, hfr, hout, hcl, hcd, delA_none, a0_0, a0_0_n, a0_0_d, a0_0_m, a0_1, a0_1_n, a0_1_d, a0_1_m])).useCK ?_
  simp (maxSteps := 4000000) [hd0, hfr, hout, hcl, hcd, delA_none, a0_0, a0_0_n, a0_0_d, a0_0_m, a0_1, a0_1_n, a0_1_d, a0_1_m, hmy, mkRs_length]
  refine (hI _).useCK ?_
  simp (maxSteps := 4000000) [hd0, hfr, hout, hcl, hcd, delA_none, a0_0, a0_0_n, a0_0_d, a0_0_m, a0_1, a0_1_n, a0_1_d, a0_1_m, hmy, mkRs_length, DIntsResult.enc]
  refine (hE _ (by simp (maxSteps := 4000000) [hd0, hfr, hout, hcl, hcd, delA_none, a0_0, a0_0_n, a0_0_d, a0_0_m, a0_1, a0_1_n, a0_1_d, a0_1_m, DIntsResult.enc]) (by simp (maxSteps := 4000000) [hd0, hfr, hout, hcl, hcd, delA_none, a0_0, a0_0_n, a0_0_d, a0_0_m, a0_1, a0_1_n, a0_1_d, a0_1_m, DIntsResult.enc])).useCK ?_
  simp (maxSteps := 4000000) [hd0, hfr, hout, hcl, hcd, delA_none, a0_0, a0_0_n, a0_0_d, a0_0_m, a0_1, a0_1_n, a0_1_d, a0_1_m, hmy, mkRs_length, mkRs_length]
  refine (hH _ (by simp (maxSteps := 4000000) [hd0, hfr, hout, hcl, hcd, delA_none, a0_0, a0_0_n, a0_0_d, a0_0_m, a0_1, a0_1_n, a0_1_d, a0_1_m, hmy])).useCK ?_
  simp (maxSteps := 4000000) [hd0, hfr, hout, hcl, hcd, delA_none, a0_0, a0_0_n, a0_0_d, a0_0_m, a0_1, a0_1_n, a0_1_d, a0_1_m, hmy, mkRs_length, show ¬ (1 + (lvS y.enc : Int) < 0) by omega]
  try simp [DIntsResult.enc]
end Go.Proofs.Ythejobdlfomcjaa

namespace Go.Px
set_option linter.unusedSimpArgs false
open Go.RowKit Go.Deep
set_option linter.unusedVariables false
/-- Values that are read as cells, whatever references mean. -/
def In (w : World) (L : List Cell) (V : List Value) : Prop := ∃ F, (∀ R, VRep R w L V F) ∧ ∀ b ∈ F, b < w.heap.size
theorem In.nil {w} : In w [] [] := ⟨[], fun _ => .nil, by simp⟩
theorem In.append {w L V L' V'} (h : In w L V) (h' : In w L' V') : In w (L ++ L') (V ++ V') := by
  obtain ⟨F, h1, h2⟩ := h
  obtain ⟨F', h3, h4⟩ := h'
  exact ⟨F ++ F', fun R => (h1 R).append (h3 R), fun b hb => (List.mem_append.1 hb).elim (h2 b) (h4 b)⟩
theorem In.length {w L V} (h : In w L V) : V.length = L.length := by
  obtain ⟨F, h1, _⟩ := h
  exact (h1 fun _ _ => True).length
theorem look_roots {l : List Cell} : ∀ {k j : Nat} {z els}, l[j]? = some (.own z els) → look (roots k l) (0, k + j) = some (.own z els) := by
  induction l with
  | nil => intro k j z els h; simp at h
  | cons c t ih =>
    intro k j z els h
    cases j with
    | zero => simp at h; subst h; simp [roots, look]
    | succ j =>
      have := ih (k := k + 1) (j := j) (by simpa using h)
      rw [show k + 1 + j = k + (j + 1) by omega] at this
      cases c with
      | own z' els' =>
        simp only [roots, look]
        rw [if_neg (fun e => by have := congrArg Prod.snd e; simp at this)]
        exact this
      | _ => simpa [roots] using this
/-- What came in, as named objects; and the references of each argument. -/
theorem In.open {w : World} {L : List Cell} {V : List Value} (h : In w L V) : ∃ β : Nm → Value, Holds w.heap.size (VP w β (roots 0 L)) w β (roots 0 L) [] ∧
    ∀ L0 L1 L2 V0 V1 V2, L = L0 ++ L1 ++ L2 → V = V0 ++ V1 ++ V2 → In w L0 V0 → In w L1 V1 → noRef L1 = true → VRep (VP w β (roots 0 L)) w (refs L0.length L1) V1 [] := by
  have hlen := h.length
  obtain ⟨F, h1, h2⟩ := h
  refine ⟨fun r => V.getD r.2 undef, roots_holds (h1 _) h2 (fun j v hj => ?_), fun L0 L1 L2 V0 V1 V2 hL hV i0 i1 hn => ?_⟩
  · show V.getD (0 + j) undef = v
    rw [Nat.zero_add, List.getD_eq_getElem?_getD, hj]; rfl
  · have l0 := i0.length
    have l1 := i1.length
    obtain ⟨F1, k1, k2⟩ := i1
    refine refs_rep (R := fun _ _ => True) (R' := fun _ _ => True) hn (k1 _) (fun j v hj => ?_) (fun j z els hj => ?_)
    · show V.getD (L0.length + j) undef = v
      have hlt := (List.getElem?_eq_some_iff.1 hj).1
      rw [List.getD_eq_getElem?_getD, hV, List.append_assoc, List.getElem?_append_right (by omega), List.getElem?_append_left (by omega), ← l0, Nat.add_sub_cancel_left, hj]; rfl
    · have hlt := (List.getElem?_eq_some_iff.1 hj).1
      have : L[L0.length + j]? = some (.own z els) := by
        rw [hL, List.append_assoc, List.getElem?_append_right (by omega), List.getElem?_append_left (by omega), Nat.add_sub_cancel_left, hj]
      have := look_roots (k := 0) this
      rwa [Nat.zero_add] at this
theorem Px.Op.in_ {α : Type} {P : Program} {t : TypeId} {n : Nat} {enc : α → List Cell} {q : α → Prop} (h : Px.Op P t n enc q) {H : Type} {e : TypeId × Value → H} {w : World} {base : Nat} {held : Bool} {fuel : Nat} {cs : List Value} {x : DataW H × List MemPlace}
    (hx : DataW.trod e P w base (fun _ => true) held fuel t cs = some x) (hz : w.noneFrozen x.2) : ∃ v : α, In w (enc v) cs ∧ q v := by
  obtain ⟨v, F, h1, h2, h3, h4⟩ := h H e w base held fuel cs x hx hz
  exact ⟨v, ⟨F, h1, h3⟩, h4⟩
theorem VRep.single {R w c v F} (h : VRep R w [c] [v] F) : Rep R w c v F := by
  cases h with | cons a b => cases b; simpa using a
end Go.Px
