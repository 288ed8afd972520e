/- Part 5 of the proof that the law FnExactPurgeEngine answers true at every input: memory as trees, the program walked over them, and what it computes; no condition. -/
import Derived.Test.YtnlbjfdmjlnlgaaGreatU4
namespace Go.Proofs.YtnlbjfdmjlnlgaaGreat
open Go Go.Px Go.RowKit Go.Proofs
set_option linter.unnecessarySimpa false
set_option linter.unusedVariables false
set_option linter.unusedSimpArgs false
set_option maxRecDepth 100000
set_option maxHeartbeats 1000000
attribute [-simp] Int.not_le Int.not_lt
@[simp] theorem cutD_take {α : Type} {i : Nat} {l : List α} : cutD 0 i (List.take i l) = List.take i l := by simp [cutD, List.take_take]
theorem cutD_le {α : Type} {i j : Nat} {l : List α} (h : i ≤ j) : cutD 0 i (List.take j l) = List.take i l := by simp [cutD, List.take_take, Nat.min_eq_left h]
def oldV (f : Int) (v : DVersion) : Bool := decide (0 < v.at_) && decide (v.at_ ≤ f)
def cutV (f : Int) : List DVersion → List DVersion
  | [] => []
  | v :: l => if oldV f v = true then [v] else v :: cutV f l
def purV (f : Int) (l : List DVersion) : List DVersion := match (cutV f l).getLast? with
  | none => []
  | some v => if (v.gone && oldV f v) = true then (cutV f l).dropLast else cutV f l
theorem cutV_at {f : Int} : ∀ {l : List DVersion} {i}, (∀ v ∈ l.take i, oldV f v = false) → ∀ hi : i < l.length, oldV f l[i] = true → cutV f l = l.take (i + 1)
  | [], i, _, hi, _ => by simp at hi
  | v :: l, 0, _, hi, h => by simp only [List.getElem_cons_zero] at h; simp [cutV, h]
  | v :: l, i + 1, ha, hi, h => by
    have h0 := ha v (by simp)
    have := cutV_at (f := f) (l := l) (i := i) (fun x hx => ha x (by simp [hx])) (by simpa using hi) (by simpa using h)
    simp [cutV, h0, this]
theorem cutV_all {f : Int} : ∀ {l : List DVersion}, (∀ v ∈ l, oldV f v = false) → cutV f l = l
  | [], _ => rfl
  | v :: l, ha => by
    have h0 := ha v (by simp)
    rw [cutV, if_neg (by simp [h0]), cutV_all (fun x hx => ha x (List.mem_cons_of_mem _ hx))]
theorem purV_take {f : Int} {l : List DVersion} {k : Nat} (h : cutV f l = l.take (k + 1)) (hk : k < l.length) : purV f l = if (l[k].gone && oldV f l[k]) = true then l.take k else l.take (k + 1) := by
  unfold purV
  have h1 : (l.take (k + 1)).getLast? = some l[k] := by rw [List.take_succ_eq_append_getElem hk, List.getLast?_concat]
  have h2 : (l.take (k + 1)).dropLast = l.take k := by rw [List.take_succ_eq_append_getElem hk, List.dropLast_concat]
  rw [h, h1, h2]
theorem purV_nil {f : Int} : purV f [] = [] := rfl
set_option maxHeartbeats 4000000 in
theorem impl_purged (H : HH) {r q f} {l : List DVersion} (hb : l.length ≤ 1048576) (ha : arrAt H r q = some (4, l.map DVersion.enc)) : PFun Tryz.prog 142 [.c (.sl r q 4 0 l.length), I f] H (.c (.own 4 ((purV f l).map DVersion.enc))) := by
  refine PFun.of [0, 1, 4, 5, 7, 8, 10, 11, 12, 13, 28, 60] Tryz.func142 rfl (by simp [Tryz.f142]) ?_
  intro d hd0 hfr hcl hout
  have hcd : ∀ n q, CleanH (hit [((d, n), q)]) H := fun n q => hcl.at
  have ha_n : ∀ n, ¬ (d, n) = r := fun n => nm_ne (ne_of_arr hfr ha)
  have ha_d : ¬ r.1 = d := ne_of_arr hfr ha
  have ha_m : ∀ n, ¬ r = (d, n) := fun n => nm_ne' (ne_of_arr hfr ha)
  simp (maxSteps := 4000000) [hd0, hfr, hout, hcl, hcd, delA_none, ha, ha_n, ha_d, ha_m, Tryz.f142]
  refine LoopK.intro (fun m s => ∃ i : Nat, i + m = l.length ∧ (∀ v ∈ l.take i, oldV f v = false) ∧ s = ⟨[(1, I f), (5, .c (.sl (d, 5) [] 4 0 i)), (10, .c (.sl r q 4 0 l.length)), (11, I l.length), (12, I i)], ((d, 5), .own 4 ((l.take i).map DVersion.enc)) :: H, []⟩) (l.length + 1)
    (LK.intro l.length [1, 5, 10, 11, 12] [4] (by omega) (by decide) (by simp (maxSteps := 4000000) [hd0, hfr, hout, hcl, hcd, delA_none, ha, ha_n, ha_d, ha_m, hit, hit1]) ⟨0, by simp⟩) ?_
  rintro m s ⟨i, him, hP, rfl⟩
  by_cases hi' : i < l.length
  · have w1 : IntKind.i64.wrap ((i : Int) + 1) = i + 1 := w64 (by omega) (by omega)
    have w3 : IntKind.i64.wrap (i : Int) = i := w64 (by omega) (by omega)
    have hR : List.take i (List.map DVersion.enc l) ++ [[.v (.int .i64 l[i].txn), .v (.int .i64 l[i].at_), .v (.bool l[i].gone), .v (.int .i64 l[i].value)]] = List.take (i + 1) (List.map DVersion.enc l) := by
      rw [take_next hi']; rfl
    have hmin : min (i + 1) l.length = i + 1 := by omega
    have hmin0 : min i l.length = i := by omega
    by_cases ho : oldV f l[i] = true
    · have hc := purV_take (cutV_at hP hi' ho) hi'
      rw [ho, Bool.and_true] at hc
      have ho' := ho
      unfold oldV at ho'
      obtain ⟨o1, o2⟩ := Bool.and_eq_true_iff.1 ho'
      simp only [decide_eq_true_eq] at o1 o2
      cases hg : l[i].gone
      · rw [hg, if_neg (by simp)] at hc
        rw [hg] at hR
        simp (maxSteps := 4000000) [hd0, hfr, hout, hcl, hcd, delA_none, ha, ha_n, ha_d, ha_m, eq_true (show (i : Int) < l.length by omega), hi', DVersion.enc, hR, hmin, hmin0, eq_true o1, eq_true o2, w1, w3, hg]
        exact ⟨by omega, by omega, by rw [hc, List.map_take]⟩
      · rw [hg, if_pos rfl] at hc
        rw [hg] at hR
        simp (maxSteps := 4000000) [hd0, hfr, hout, hcl, hcd, delA_none, ha, ha_n, ha_d, ha_m, eq_true (show (i : Int) < l.length by omega), hi', DVersion.enc, hR, hmin, hmin0, eq_true o1, eq_true o2, w1, w3, hg, cutD_le (show i ≤ i + 1 by omega)]
        exact ⟨by omega, by omega, by omega, by rw [hc, List.map_take]⟩
    · simp only [Bool.not_eq_true] at ho
      have hP' : ∀ v ∈ l.take (i + 1), oldV f v = false := fun v hv => by
        rw [List.take_succ_eq_append_getElem hi'] at hv
        rcases List.mem_append.1 hv with hv | hv
        · exact hP v hv
        · rw [List.mem_singleton.1 hv]; exact ho
      have ho' := ho
      unfold oldV at ho'
      by_cases o1 : 0 < l[i].at_
      · have o2 : ¬ l[i].at_ ≤ f := by simpa [o1] using ho'
        simp (maxSteps := 4000000) [hd0, hfr, hout, hcl, hcd, delA_none, ha, ha_n, ha_d, ha_m, eq_true (show (i : Int) < l.length by omega), hi', DVersion.enc, hR, hmin, hmin0, eq_true o1, eq_false o2, w1]
        refine ⟨by omega, ?_⟩
        refine LK.intro (m - 1) [1, 5, 10, 11, 12] [7] (by omega) (by decide) (by simp (maxSteps := 4000000) [hd0, hfr, hout, hcl, hcd, delA_none, ha, ha_n, ha_d, ha_m, hit, hit1]) ⟨i + 1, by omega, hP', by simp⟩
      · simp (maxSteps := 4000000) [hd0, hfr, hout, hcl, hcd, delA_none, ha, ha_n, ha_d, ha_m, eq_true (show (i : Int) < l.length by omega), hi', DVersion.enc, hR, hmin, hmin0, eq_false o1, w1]
        refine ⟨by omega, ?_⟩
        refine LK.intro (m - 1) [1, 5, 10, 11, 12] [7] (by omega) (by decide) (by simp (maxSteps := 4000000) [hd0, hfr, hout, hcl, hcd, delA_none, ha, ha_n, ha_d, ha_m, hit, hit1]) ⟨i + 1, by omega, hP', by simp⟩
  · have hil : i = l.length := by omega
    subst hil
    rw [List.take_length] at hP ⊢
    by_cases h0 : l.length = 0
    · have : l = [] := List.eq_nil_of_length_eq_zero h0
      subst this
      simp (maxSteps := 4000000) [hd0, hfr, hout, hcl, hcd, delA_none, ha, ha_n, ha_d, ha_m, purV, cutV]
    obtain ⟨k, hk⟩ : ∃ k, l.length = k + 1 := ⟨l.length - 1, by omega⟩
    have hkl : k < l.length := by omega
    have w3 : IntKind.i64.wrap (k : Int) = k := w64 (by omega) (by omega)
    have ho := hP _ (List.getElem_mem hkl)
    have hc := purV_take (f := f) (k := k) (by rw [cutV_all hP, ← hk, List.take_length]) hkl
    rw [ho, Bool.and_false, if_neg (by simp), ← hk, List.take_length] at hc
    rw [hc]
    have ho' := ho
    unfold oldV at ho'
    clear hP
    cases hg : l[k].gone
    · simp (maxSteps := 4000000) [hd0, hfr, hout, hcl, hcd, delA_none, ha, ha_n, ha_d, ha_m, hk, hkl, w3, hg, DVersion.enc]
      omega
    by_cases o1 : 0 < l[k].at_
    · have o2 : ¬ l[k].at_ ≤ f := by simpa [o1] using ho'
      simp (maxSteps := 4000000) [hd0, hfr, hout, hcl, hcd, delA_none, ha, ha_n, ha_d, ha_m, hk, hkl, w3, hg, eq_true o1, eq_false o2, DVersion.enc]
      omega
    · simp (maxSteps := 4000000) [hd0, hfr, hout, hcl, hcd, delA_none, ha, ha_n, ha_d, ha_m, hk, hkl, w3, hg, eq_false o1, DVersion.enc]
      omega
set_option maxHeartbeats 4000000 in
theorem spec_l5Purge (H : HH) {r q f} {l : List DVersion} (hb : l.length ≤ 1048576) (hat : ∀ v ∈ l, 0 ≤ v.at_) (ha : arrAt H r q = some (4, l.map DVersion.enc)) : PFun Tryz.prog 140 [.c (.sl r q 4 0 l.length), I f] H (.c (.own 4 ((purV f l).map DVersion.enc))) := by
  refine PFun.of [0, 1, 4, 5, 6, 7, 12, 36, 67] Tryz.func140 rfl (by simp [Tryz.f140]) ?_
  intro d hd0 hfr hcl hout
  have hcd : ∀ n q, CleanH (hit [((d, n), q)]) H := fun n q => hcl.at
  have ha_n : ∀ n, ¬ (d, n) = r := fun n => nm_ne (ne_of_arr hfr ha)
  have ha_d : ¬ r.1 = d := ne_of_arr hfr ha
  have ha_m : ∀ n, ¬ r = (d, n) := fun n => nm_ne' (ne_of_arr hfr ha)
  simp (maxSteps := 4000000) [hd0, hfr, hout, hcl, hcd, delA_none, ha, ha_n, ha_d, ha_m, Tryz.f140]
  refine LoopK.intro (fun m s => ∃ i : Nat, i + m = l.length ∧ (∀ v ∈ l.take i, oldV f v = false) ∧ s = ⟨[(0, .c (.sl r q 4 0 l.length)), (1, I f), (5, .c (.sl (d, 5) [] 4 0 i)), (6, I i)], ((d, 5), .own 4 ((l.take i).map DVersion.enc)) :: H, []⟩) (l.length + 1)
    (LK.intro l.length [0, 1, 5, 6] [4] (by omega) (by decide) (by simp (maxSteps := 4000000) [hd0, hfr, hout, hcl, hcd, delA_none, ha, ha_n, ha_d, ha_m, hit, hit1]) ⟨0, by simp⟩) ?_
  rintro m s ⟨i, him, hP, rfl⟩
  by_cases hi' : i < l.length
  · have w1 : IntKind.i64.wrap ((i : Int) + 1) = i + 1 := w64 (by omega) (by omega)
    have w3 : IntKind.i64.wrap (i : Int) = i := w64 (by omega) (by omega)
    have h0 := hat _ (List.getElem_mem hi')
    have hR : List.take i (List.map DVersion.enc l) ++ [[.v (.int .i64 l[i].txn), .v (.int .i64 l[i].at_), .v (.bool l[i].gone), .v (.int .i64 l[i].value)]] = List.take (i + 1) (List.map DVersion.enc l) := by
      rw [take_next hi']; rfl
    have hmin : min (i + 1) l.length = i + 1 := by omega
    have hmin0 : min i l.length = i := by omega
    by_cases ho : oldV f l[i] = true
    · have hc := purV_take (cutV_at hP hi' ho) hi'
      rw [ho, Bool.and_true] at hc
      have ho' := ho
      unfold oldV at ho'
      obtain ⟨o1, o2⟩ := Bool.and_eq_true_iff.1 ho'
      simp only [decide_eq_true_eq] at o1 o2
      have o3 : ¬ l[i].at_ = 0 := by omega
      cases hg : l[i].gone
      · rw [hg, if_neg (by simp)] at hc
        rw [hg] at hR
        simp (maxSteps := 4000000) [hd0, hfr, hout, hcl, hcd, delA_none, ha, ha_n, ha_d, ha_m, eq_true (show (i : Int) < l.length by omega), hi', DVersion.enc, hR, hmin, hmin0, eq_false o3, eq_true o2, w1, w3, hg]
        exact ⟨by omega, by omega, by rw [hc, List.map_take]⟩
      · rw [hg, if_pos rfl] at hc
        rw [hg] at hR
        simp (maxSteps := 4000000) [hd0, hfr, hout, hcl, hcd, delA_none, ha, ha_n, ha_d, ha_m, eq_true (show (i : Int) < l.length by omega), hi', DVersion.enc, hR, hmin, hmin0, eq_false o3, eq_true o2, w1, w3, hg, cutD_le (show i ≤ i + 1 by omega)]
        exact ⟨by omega, by omega, by omega, by rw [hc, List.map_take]⟩
    · simp only [Bool.not_eq_true] at ho
      have hP' : ∀ v ∈ l.take (i + 1), oldV f v = false := fun v hv => by
        rw [List.take_succ_eq_append_getElem hi'] at hv
        rcases List.mem_append.1 hv with hv | hv
        · exact hP v hv
        · rw [List.mem_singleton.1 hv]; exact ho
      have ho' := ho
      unfold oldV at ho'
      by_cases o1 : l[i].at_ = 0
      · simp (maxSteps := 4000000) [hd0, hfr, hout, hcl, hcd, delA_none, ha, ha_n, ha_d, ha_m, eq_true (show (i : Int) < l.length by omega), hi', DVersion.enc, hmin, hmin0, eq_true o1, w1]
        refine ⟨by omega, ?_⟩
        refine LK.intro (m - 1) [0, 1, 5, 6] [] (by omega) (by decide) (by simp (maxSteps := 4000000) [hd0, hfr, hout, hcl, hcd, delA_none, ha, ha_n, ha_d, ha_m, hit, hit1]) ⟨i + 1, by omega, hP', by simp [hR]⟩
      · have o2 : ¬ l[i].at_ ≤ f := by simpa [show 0 < l[i].at_ by omega] using ho'
        simp (maxSteps := 4000000) [hd0, hfr, hout, hcl, hcd, delA_none, ha, ha_n, ha_d, ha_m, eq_true (show (i : Int) < l.length by omega), hi', DVersion.enc, hR, hmin, hmin0, eq_false o1, eq_false o2, w1]
        refine ⟨by omega, ?_⟩
        refine LK.intro (m - 1) [0, 1, 5, 6] [] (by omega) (by decide) (by simp (maxSteps := 4000000) [hd0, hfr, hout, hcl, hcd, delA_none, ha, ha_n, ha_d, ha_m, hit, hit1]) ⟨i + 1, by omega, hP', by simp⟩
  · have hil : i = l.length := by omega
    subst hil
    rw [List.take_length] at hP ⊢
    by_cases h0 : l.length = 0
    · have : l = [] := List.eq_nil_of_length_eq_zero h0
      subst this
      simp (maxSteps := 4000000) [hd0, hfr, hout, hcl, hcd, delA_none, ha, ha_n, ha_d, ha_m, purV, cutV]
    obtain ⟨k, hk⟩ : ∃ k, l.length = k + 1 := ⟨l.length - 1, by omega⟩
    have hkl : k < l.length := by omega
    have w3 : IntKind.i64.wrap (k : Int) = k := w64 (by omega) (by omega)
    have ho := hP _ (List.getElem_mem hkl)
    have hc := purV_take (f := f) (k := k) (by rw [cutV_all hP, ← hk, List.take_length]) hkl
    rw [ho, Bool.and_false, if_neg (by simp), ← hk, List.take_length] at hc
    rw [hc]
    have ho' := ho
    unfold oldV at ho'
    have hz := hat _ (List.getElem_mem hkl)
    clear hP
    cases hg : l[k].gone
    · simp (maxSteps := 4000000) [hd0, hfr, hout, hcl, hcd, delA_none, ha, ha_n, ha_d, ha_m, hk, hkl, w3, hg, DVersion.enc]
      omega
    by_cases o1 : l[k].at_ = 0
    · simp (maxSteps := 4000000) [hd0, hfr, hout, hcl, hcd, delA_none, ha, ha_n, ha_d, ha_m, hk, hkl, w3, hg, eq_true o1, DVersion.enc]
      omega
    · have o2 : ¬ l[k].at_ ≤ f := by simpa [show 0 < l[k].at_ by omega] using ho'
      simp (maxSteps := 4000000) [hd0, hfr, hout, hcl, hcd, delA_none, ha, ha_n, ha_d, ha_m, hk, hkl, w3, hg, eq_false o1, eq_false o2, DVersion.enc]
      omega
def floorL (l : List DTxn) (c : Int) : Int := l.foldl (fun a t => if t.state = 1 then min a t.at_ else a) c
theorem floorL_next {l : List DTxn} {c : Int} {i : Nat} (hi : i < l.length) : floorL (l.take (i + 1)) c = if l[i].state = 1 then min (floorL (l.take i) c) l[i].at_ else floorL (l.take i) c := by
  unfold floorL
  rw [List.take_succ_eq_append_getElem hi, List.foldl_append]
  rfl
theorem minE (a b : Int) : (if b < a then b else a) = min a b := by
  by_cases h : b < a
  · rw [if_pos h]; omega
  · rw [if_neg h]; omega
theorem impl_Engine_floor (H : HH) {r1 q1 r2 q2 rows2 c0 n2} {l : List DTxn} {c : Int} (hb : l.length ≤ 1048576) (ha : arrAt H r1 q1 = some (5, l.map DTxn.enc)) (hb2 : arrAt H r2 q2 = some (2, rows2)) :
    PFun Tryz.prog 141 [.a [.v (.int .i64 c0), .v (.int .i64 c), .sl r1 q1 5 0 l.length, .sl r2 q2 2 0 n2]] H (I (floorL l c)) := by
  refine PFun.of [1, 2, 3, 5, 9, 10, 11, 12, 17] Tryz.func141 rfl (by simp [Tryz.f141]) ?_
  intro d hd0 hfr hcl hout
  have hcd : ∀ n q, CleanH (hit [((d, n), q)]) H := fun n q => hcl.at
  have ha_n : ∀ n, ¬ (d, n) = r1 := fun n => nm_ne (ne_of_arr hfr ha)
  have ha_d : ¬ r1.1 = d := ne_of_arr hfr ha
  have ha_m : ∀ n, ¬ r1 = (d, n) := fun n => nm_ne' (ne_of_arr hfr ha)
  have hb2_n : ∀ n, ¬ (d, n) = r2 := fun n => nm_ne (ne_of_arr hfr hb2)
  have hb2_d : ¬ r2.1 = d := ne_of_arr hfr hb2
  have hb2_m : ∀ n, ¬ r2 = (d, n) := fun n => nm_ne' (ne_of_arr hfr hb2)
  simp (maxSteps := 4000000) [hd0, hfr, hout, hcl, hcd, delA_none, ha, ha_n, ha_d, ha_m, hb2, hb2_n, hb2_d, hb2_m, Tryz.f141]
  refine LoopK.intro (fun m s => ∃ i : Nat, i + m = l.length ∧ s = ⟨[(3, I (floorL (l.take i) c)), (9, .c (.sl r1 q1 5 0 l.length)), (10, I l.length), (11, I i)], H, []⟩) (l.length + 1)
    (LK.intro l.length [3, 9, 10, 11] [1] (by omega) (by decide) (by simp (maxSteps := 4000000) [hd0, hfr, hout, hcl, hcd, delA_none, ha, ha_n, ha_d, ha_m, hb2, hb2_n, hb2_d, hb2_m, hit, hit1]) ⟨0, by simp [floorL]⟩) ?_
  rintro m s ⟨i, him, rfl⟩
  by_cases hi' : i < l.length
  · have w1 : IntKind.i64.wrap ((i : Int) + 1) = i + 1 := w64 (by omega) (by omega)
    have hn := floorL_next (c := c) hi'
    generalize floorL (l.take i) c = F at *
    by_cases hs : l[i].state = 1
    · rw [if_pos hs] at hn
      simp (maxSteps := 4000000) [hd0, hfr, hout, hcl, hcd, delA_none, ha, ha_n, ha_d, ha_m, hb2, hb2_n, hb2_d, hb2_m, eq_true (show (i : Int) < l.length by omega), hi', DTxn.enc, w1, hs, minE]
      refine LK.intro (m - 1) [3, 9, 10, 11] [5] (by omega) (by decide) (by simp (maxSteps := 4000000) [hd0, hfr, hout, hcl, hcd, delA_none, ha, ha_n, ha_d, ha_m, hb2, hb2_n, hb2_d, hb2_m, hit, hit1, DUndo.enc]) ⟨i + 1, by omega, by simp [hn]⟩
    · rw [if_neg hs] at hn
      simp (maxSteps := 4000000) [hd0, hfr, hout, hcl, hcd, delA_none, ha, ha_n, ha_d, ha_m, hb2, hb2_n, hb2_d, hb2_m, eq_true (show (i : Int) < l.length by omega), hi', DTxn.enc, w1, hs]
      refine LK.intro (m - 1) [3, 9, 10, 11] [5] (by omega) (by decide) (by simp (maxSteps := 4000000) [hd0, hfr, hout, hcl, hcd, delA_none, ha, ha_n, ha_d, ha_m, hb2, hb2_n, hb2_d, hb2_m, hit, hit1, DUndo.enc]) ⟨i + 1, by omega, by simp [hn]⟩
  · have : i = l.length := by omega
    subst this
    simp (maxSteps := 4000000) [hd0, hfr, hout, hcl, hcd, delA_none, ha, ha_n, ha_d, ha_m, hb2, hb2_n, hb2_d, hb2_m, List.take_length]
def versL (l : List DRow) : Int := (l.map fun r => (r.chain.length : Int)).sum
theorem versL_next {l : List DRow} {i : Nat} (hi : i < l.length) : versL (l.take (i + 1)) = versL (l.take i) + l[i].chain.length := by
  unfold versL
  rw [List.take_succ_eq_append_getElem hi, List.map_append, List.sum_append]
  simp
theorem versL_le {B : Nat} : ∀ {l : List DRow}, (∀ r ∈ l, r.chain.length ≤ B) → 0 ≤ versL l ∧ versL l ≤ l.length * B
  | [], _ => by simp [versL]
  | r :: l, h => by
    have h1 := versL_le (l := l) (fun x hx => h x (List.mem_cons_of_mem _ hx))
    have h2 := h r (List.mem_cons_self)
    have e : versL (r :: l) = r.chain.length + versL l := by simp [versL]
    have e2 : ((r :: l).length : Int) * B = l.length * B + B := by simp [Int.add_mul]
    rw [e, e2]
    omega
theorem versL_ok {l : List DRow} (hb : l.length ≤ 1048576) (hc : ∀ r ∈ l, r.chain.length ≤ 1048576) (i : Nat) : 0 ≤ versL (l.take i) ∧ versL (l.take i) ≤ 1099511627776 := by
  have h := versL_le (B := 1048576) (l := l.take i) (fun r hr => hc r (List.mem_of_mem_take hr))
  have h2 : (l.take i).length ≤ 1048576 := by rw [List.length_take]; omega
  omega
theorem impl_Engine_versions (H : HH) {r1 q1 r2 q2 rows2 c0 c1 n2} {l : List DRow} (hb : l.length ≤ 1048576) (hc : ∀ r ∈ l, r.chain.length ≤ 1048576) (ha : arrAt H r1 q1 = some (2, l.map DRow.enc)) (hb2 : arrAt H r2 q2 = some (5, rows2)) :
    PFun Tryz.prog 74 [.a [.v (.int .i64 c0), .v (.int .i64 c1), .sl r2 q2 5 0 n2, .sl r1 q1 2 0 l.length]] H (I (versL l)) := by
  have hv := versL_ok hb hc
  refine PFun.of [1, 2, 3, 5, 7, 8, 9, 10] Tryz.func74 rfl (by simp [Tryz.f74]) ?_
  intro d hd0 hfr hcl hout
  have hcd : ∀ n q, CleanH (hit [((d, n), q)]) H := fun n q => hcl.at
  have ha_n : ∀ n, ¬ (d, n) = r1 := fun n => nm_ne (ne_of_arr hfr ha)
  have ha_d : ¬ r1.1 = d := ne_of_arr hfr ha
  have ha_m : ∀ n, ¬ r1 = (d, n) := fun n => nm_ne' (ne_of_arr hfr ha)
  have hb2_n : ∀ n, ¬ (d, n) = r2 := fun n => nm_ne (ne_of_arr hfr hb2)
  have hb2_d : ¬ r2.1 = d := ne_of_arr hfr hb2
  have hb2_m : ∀ n, ¬ r2 = (d, n) := fun n => nm_ne' (ne_of_arr hfr hb2)
  simp (maxSteps := 4000000) [hd0, hfr, hout, hcl, hcd, delA_none, ha, ha_n, ha_d, ha_m, hb2, hb2_n, hb2_d, hb2_m, Tryz.f74]
  refine LoopK.intro (fun m s => ∃ i : Nat, i + m = l.length ∧ s = ⟨[(3, I (versL (l.take i))), (7, .c (.sl r1 q1 2 0 l.length)), (8, I l.length), (9, I i)], H, []⟩) (l.length + 1)
    (LK.intro l.length [3, 7, 8, 9] [1] (by omega) (by decide) (by simp (maxSteps := 4000000) [hd0, hfr, hout, hcl, hcd, delA_none, ha, ha_n, ha_d, ha_m, hb2, hb2_n, hb2_d, hb2_m, hit, hit1]) ⟨0, by simp [versL]⟩) ?_
  rintro m s ⟨i, him, rfl⟩
  by_cases hi' : i < l.length
  · have w1 : IntKind.i64.wrap ((i : Int) + 1) = i + 1 := w64 (by omega) (by omega)
    have hn := versL_next hi'
    have h1 := hv i
    have h2 := hv (i + 1)
    generalize versL (l.take i) = F at *
    have w2 : IntKind.i64.wrap (F + (l[i].chain.length : Int)) = F + l[i].chain.length := w64 (by omega) (by omega)
    simp (maxSteps := 4000000) [hd0, hfr, hout, hcl, hcd, delA_none, ha, ha_n, ha_d, ha_m, hb2, hb2_n, hb2_d, hb2_m, eq_true (show (i : Int) < l.length by omega), hi', DRow.enc, w1, w2]
    refine LK.intro (m - 1) [3, 7, 8, 9] [5] (by omega) (by decide) (by simp (maxSteps := 4000000) [hd0, hfr, hout, hcl, hcd, delA_none, ha, ha_n, ha_d, ha_m, hb2, hb2_n, hb2_d, hb2_m, hit, hit1, DVersion.enc]) ⟨i + 1, by omega, by simp [hn]⟩
  · have : i = l.length := by omega
    subst this
    simp (maxSteps := 4000000) [hd0, hfr, hout, hcl, hcd, delA_none, ha, ha_n, ha_d, ha_m, hb2, hb2_n, hb2_d, hb2_m, List.take_length]
theorem spec_l7Versions_e (H : HH) {r r2 q2 c0 c1 c2} {x : DEngine} (hl : x.le 1048576) (ha : arrAt H r [] = some (4, [[c0, c1, c2, .sl r2 q2 2 0 x.rows.length]])) (ha2 : arrAt H r2 q2 = some (2, x.rows.map DRow.enc)) :
    PFun Tryz.prog 72 [.c (.pt r [] 4 0 0)] H (I (versL x.rows)) := by
  obtain ⟨-, b2, b2p⟩ := hl
  have hv := versL_ok b2 b2p
  refine PFun.of [0, 2, 3, 4, 11] Tryz.func72 rfl (by simp [Tryz.f72]) ?_
  intro d hd0 hfr hcl hout
  have hcd : ∀ n q, CleanH (hit [((d, n), q)]) H := fun n q => hcl.at
  have ha_n : ∀ n, ¬ (d, n) = r := fun n => nm_ne (ne_of_arr hfr ha)
  have ha_d : ¬ r.1 = d := ne_of_arr hfr ha
  have ha_m : ∀ n, ¬ r = (d, n) := fun n => nm_ne' (ne_of_arr hfr ha)
  have ha2_n : ∀ n, ¬ (d, n) = r2 := fun n => nm_ne (ne_of_arr hfr ha2)
  have ha2_d : ¬ r2.1 = d := ne_of_arr hfr ha2
  have ha2_m : ∀ n, ¬ r2 = (d, n) := fun n => nm_ne' (ne_of_arr hfr ha2)
  simp (maxSteps := 4000000) [hd0, hfr, hout, hcl, hcd, delA_none, ha, ha_n, ha_d, ha_m, ha2, ha2_n, ha2_d, ha2_m, Tryz.f72]
  refine LoopK.intro (fun m s => ∃ i : Nat, i + m = x.rows.length ∧ s = ⟨[(0, .c (.pt r [] 4 0 0)), (3, I (versL (x.rows.take i))), (4, I i)], H, []⟩) (x.rows.length + 1)
    (LK.intro x.rows.length [0, 3, 4] [] (by omega) (by decide) (by simp (maxSteps := 4000000) [hd0, hfr, hout, hcl, hcd, delA_none, ha, ha_n, ha_d, ha_m, ha2, ha2_n, ha2_d, ha2_m, hit, hit1]) ⟨0, by simp [versL]⟩) ?_
  rintro m s ⟨i, him, rfl⟩
  by_cases hi' : i < x.rows.length
  · have w1 : IntKind.i64.wrap ((i : Int) + 1) = i + 1 := w64 (by omega) (by omega)
    have hn := versL_next hi'
    have h1 := hv i
    have h2 := hv (i + 1)
    generalize versL (x.rows.take i) = F at *
    have w2 : IntKind.i64.wrap (F + (x.rows[i].chain.length : Int)) = F + x.rows[i].chain.length := w64 (by omega) (by omega)
    simp (maxSteps := 4000000) [hd0, hfr, hout, hcl, hcd, delA_none, ha, ha_n, ha_d, ha_m, ha2, ha2_n, ha2_d, ha2_m, ha2, eq_true (show (i : Int) < x.rows.length by omega), hi', DRow.enc, w1, w2]
    refine LK.intro (m - 1) [0, 3, 4] [] (by omega) (by decide) (by simp (maxSteps := 4000000) [hd0, hfr, hout, hcl, hcd, delA_none, ha, ha_n, ha_d, ha_m, ha2, ha2_n, ha2_d, ha2_m, hit, hit1, DVersion.enc]) ⟨i + 1, by omega, by simp [hn]⟩
  · have : i = x.rows.length := by omega
    subst this
    simp (maxSteps := 4000000) [hd0, hfr, hout, hcl, hcd, delA_none, ha, ha_n, ha_d, ha_m, ha2, ha2_n, ha2_d, ha2_m, ha2, List.take_length]
theorem spec_l7Versions_o (H : HH) {r c0 c1 c2} {x : DEngine} (hl : x.le 1048576) (ha : arrAt H r [] = some (4, [[c0, c1, c2, .own 2 (x.rows.map DRow.enc)]])) :
    PFun Tryz.prog 72 [.c (.pt r [] 4 0 0)] H (I (versL x.rows)) := by
  obtain ⟨-, b2, b2p⟩ := hl
  have hv := versL_ok b2 b2p
  have hsub : arrAt H r [(0, 3)] = some (2, x.rows.map DRow.enc) := by simpa using arrAt_sub ha (i := 0) (f := 3) rfl rfl
  refine PFun.of [0, 2, 3, 4, 11] Tryz.func72 rfl (by simp [Tryz.f72]) ?_
  intro d hd0 hfr hcl hout
  have hcd : ∀ n q, CleanH (hit [((d, n), q)]) H := fun n q => hcl.at
  have ha_n : ∀ n, ¬ (d, n) = r := fun n => nm_ne (ne_of_arr hfr ha)
  have ha_d : ¬ r.1 = d := ne_of_arr hfr ha
  have ha_m : ∀ n, ¬ r = (d, n) := fun n => nm_ne' (ne_of_arr hfr ha)
  simp (maxSteps := 4000000) [hd0, hfr, hout, hcl, hcd, delA_none, ha, ha_n, ha_d, ha_m, Tryz.f72]
  refine LoopK.intro (fun m s => ∃ i : Nat, i + m = x.rows.length ∧ s = ⟨[(0, .c (.pt r [] 4 0 0)), (3, I (versL (x.rows.take i))), (4, I i)], H, []⟩) (x.rows.length + 1)
    (LK.intro x.rows.length [0, 3, 4] [] (by omega) (by decide) (by simp (maxSteps := 4000000) [hd0, hfr, hout, hcl, hcd, delA_none, ha, ha_n, ha_d, ha_m, hit, hit1]) ⟨0, by simp [versL]⟩) ?_
  rintro m s ⟨i, him, rfl⟩
  by_cases hi' : i < x.rows.length
  · have w1 : IntKind.i64.wrap ((i : Int) + 1) = i + 1 := w64 (by omega) (by omega)
    have hn := versL_next hi'
    have h1 := hv i
    have h2 := hv (i + 1)
    generalize versL (x.rows.take i) = F at *
    have w2 : IntKind.i64.wrap (F + (x.rows[i].chain.length : Int)) = F + x.rows[i].chain.length := w64 (by omega) (by omega)
    simp (maxSteps := 4000000) [hd0, hfr, hout, hcl, hcd, delA_none, ha, ha_n, ha_d, ha_m, hsub, eq_true (show (i : Int) < x.rows.length by omega), hi', DRow.enc, w1, w2]
    refine LK.intro (m - 1) [0, 3, 4] [] (by omega) (by decide) (by simp (maxSteps := 4000000) [hd0, hfr, hout, hcl, hcd, delA_none, ha, ha_n, ha_d, ha_m, hit, hit1, DVersion.enc]) ⟨i + 1, by omega, by simp [hn]⟩
  · have : i = x.rows.length := by omega
    subst this
    simp (maxSteps := 4000000) [hd0, hfr, hout, hcl, hcd, delA_none, ha, ha_n, ha_d, ha_m, hsub, List.take_length]
theorem spec_l1Min (H : HH) {a b : Int} : PFun Tryz.prog 183 [I a, I b] H (I (min a b)) := by
  refine PFun.of [0, 1, 4, 7] Tryz.func183 rfl (by simp [Tryz.f183]) ?_
  intro d hd0 hfr hcl hout
  have hcd : ∀ n q, CleanH (hit [((d, n), q)]) H := fun n q => hcl.at
  simp (maxSteps := 4000000) [hd0, hfr, hout, hcl, hcd, delA_none, Tryz.f183]
  exact ⟨fun h => by omega, fun h => by omega⟩
theorem spec_l7Floor (H : HH) {r r1 q1 c0 c3} {l : List DTxn} {c : Int} (hb : l.length ≤ 1048576) (ha : arrAt H r [] = some (4, [[c0, .v (.int .i64 c), .sl r1 q1 5 0 l.length, c3]])) (ha2 : arrAt H r1 q1 = some (5, l.map DTxn.enc)) :
    PFun Tryz.prog 139 [.c (.pt r [] 4 0 0)] H (I (floorL l c)) := by
  refine PFun.of [0, 2, 3, 4, 15, 26] Tryz.func139 rfl (by simp [Tryz.f139]) ?_
  intro d hd0 hfr hcl hout
  have hcd : ∀ n q, CleanH (hit [((d, n), q)]) H := fun n q => hcl.at
  have ha_n : ∀ n, ¬ (d, n) = r := fun n => nm_ne (ne_of_arr hfr ha)
  have ha_d : ¬ r.1 = d := ne_of_arr hfr ha
  have ha_m : ∀ n, ¬ r = (d, n) := fun n => nm_ne' (ne_of_arr hfr ha)
  have ha2_n : ∀ n, ¬ (d, n) = r1 := fun n => nm_ne (ne_of_arr hfr ha2)
  have ha2_d : ¬ r1.1 = d := ne_of_arr hfr ha2
  have ha2_m : ∀ n, ¬ r1 = (d, n) := fun n => nm_ne' (ne_of_arr hfr ha2)
  simp (maxSteps := 4000000) [hd0, hfr, hout, hcl, hcd, delA_none, ha, ha_n, ha_d, ha_m, ha2, ha2_n, ha2_d, ha2_m, Tryz.f139]
  refine LoopK.intro (fun m s => ∃ i : Nat, i + m = l.length ∧ s = ⟨[(0, .c (.pt r [] 4 0 0)), (3, I (floorL (l.take i) c)), (4, I i)], H, []⟩) (l.length + 1)
    (LK.intro l.length [0, 3, 4] [] (by omega) (by decide) (by simp (maxSteps := 4000000) [hd0, hfr, hout, hcl, hcd, delA_none, ha, ha_n, ha_d, ha_m, ha2, ha2_n, ha2_d, ha2_m, hit, hit1]) ⟨0, by simp [floorL]⟩) ?_
  rintro m s ⟨i, him, rfl⟩
  by_cases hi' : i < l.length
  · have w1 : IntKind.i64.wrap ((i : Int) + 1) = i + 1 := w64 (by omega) (by omega)
    have hn := floorL_next (c := c) hi'
    generalize floorL (l.take i) c = F at *
    by_cases hs : l[i].state = 1
    · rw [if_pos hs] at hn
      simp (maxSteps := 4000000) [hd0, hfr, hout, hcl, hcd, delA_none, ha, ha_n, ha_d, ha_m, ha2, ha2_n, ha2_d, ha2_m, eq_true (show (i : Int) < l.length by omega), hi', DTxn.enc, w1, hs]
      refine (spec_l1Min _).useCK ?_
      simp (maxSteps := 4000000) [hd0, hfr, hout, hcl, hcd, delA_none, ha, ha_n, ha_d, ha_m, ha2, ha2_n, ha2_d, ha2_m, w1]
      refine LK.intro (m - 1) [0, 3, 4] [] (by omega) (by decide) (by simp (maxSteps := 4000000) [hd0, hfr, hout, hcl, hcd, delA_none, ha, ha_n, ha_d, ha_m, ha2, ha2_n, ha2_d, ha2_m, hit, hit1, DUndo.enc]) ⟨i + 1, by omega, by simp [hn]⟩
    · rw [if_neg hs] at hn
      simp (maxSteps := 4000000) [hd0, hfr, hout, hcl, hcd, delA_none, ha, ha_n, ha_d, ha_m, ha2, ha2_n, ha2_d, ha2_m, eq_true (show (i : Int) < l.length by omega), hi', DTxn.enc, w1, hs]
      refine LK.intro (m - 1) [0, 3, 4] [] (by omega) (by decide) (by simp (maxSteps := 4000000) [hd0, hfr, hout, hcl, hcd, delA_none, ha, ha_n, ha_d, ha_m, ha2, ha2_n, ha2_d, ha2_m, hit, hit1, DUndo.enc]) ⟨i + 1, by omega, by simp [hn]⟩
  · have : i = l.length := by omega
    subst this
    simp (maxSteps := 4000000) [hd0, hfr, hout, hcl, hcd, delA_none, ha, ha_n, ha_d, ha_m, ha2, ha2_n, ha2_d, ha2_m, List.take_length]
end Go.Proofs.YtnlbjfdmjlnlgaaGreat

namespace Go.Px
open Go.RowKit
set_option linter.unnecessarySimpa false
set_option linter.unusedVariables false
set_option linter.unusedSimpArgs false
set_option linter.constructorNameAsVariable false
theorem VP1.ext {w β H1 H2} (h : ∀ n, look H1 n = look H2 n) : VP1 w β H1 = VP1 w β H2 := by
  funext c x
  cases c with
  | sl r q z i n => simp only [VP1, h r]
  | pt r q z i f => simp only [VP1, h r]
  | _ => rfl
theorem VP.ext {w β H1 H2} (h : ∀ n, look H1 n = look H2 n) : VP w β H1 = VP w β H2 := by
  funext c x
  have e := VP1.ext (w := w) (β := β) h
  cases c with
  | fn f cs => simp only [VP, e]
  | v y => rfl
  | sl r q z i n => exact congrFun (congrFun e (.sl r q z i n)) x
  | pt r q z i f => exact congrFun (congrFun e (.pt r q z i f)) x
  | own z els => rfl
  | x => rfl
theorem look_swap {a b : Nm × Cell} {H : HH} (hne : a.1 ≠ b.1) (n : Nm) : look (a :: b :: H) n = look (b :: a :: H) n := by
  obtain ⟨s, c⟩ := a
  obtain ⟨r, c'⟩ := b
  simp only [look]
  by_cases h1 : s = n
  · subst h1
    rw [if_pos rfl, if_neg (fun h => hne h.symm), if_pos rfl]
  · rw [if_neg h1, if_neg h1]
theorem Holds.swap {g R w β a b H F} (h : Holds g R w β (a :: b :: H) F) : ∃ F', F'.Perm F ∧ Holds g R w β (b :: a :: H) F' := by
  cases h with
  | sh h1 h2 h3 h4 =>
    cases h4 with
    | sh k1 k2 k3 k4 => exact ⟨_, .refl _, .sh k1 k2 k3 (.sh h1 h2 h3 k4)⟩
    | ow k1 k2 k3 => exact ⟨_, .refl _, .ow k1 k2 (.sh h1 h2 h3 k3)⟩
  | ow h1 h2 h3 =>
    cases h3 with
    | sh k1 k2 k3 k4 => exact ⟨_, .refl _, .sh k1 k2 k3 (.ow h1 h2 k4)⟩
    | ow k1 k2 k3 =>
      refine ⟨_, ?_, .ow k1 k2 (.ow h1 h2 k3)⟩
      rw [← List.append_assoc, ← List.append_assoc]
      exact List.Perm.append_right _ List.perm_append_comm
/-- the two foremost objects may change places -/
theorem PUpdR.swap {P f args r c c' s o H x} (hne : s ≠ r) (h : PUpdR P f args ((r, c) :: (s, o) :: H) x ((r, c') :: (s, o) :: H) r) : PUpdR P f args ((s, o) :: (r, c) :: H) x ((s, o) :: (r, c') :: H) r := by
  intro g w β F FA vs hg hh ha hn hlow
  have e1 := fun n => look_swap (a := (s, o)) (b := (r, c)) (H := H) hne n
  have e2 := fun n => look_swap (a := (r, c')) (b := (s, o)) (H := H) (fun e => hne e.symm) n
  rw [VP.ext e1] at hh ha
  obtain ⟨F', p1, h1⟩ := hh.swap
  refine (h g w β F' FA vs hg h1 ha ((List.Perm.append_right FA p1).nodup_iff.2 hn) (fun b hb => hlow b ((List.Perm.append_right FA p1).subset hb))).mono ?_
  rintro en w' ⟨y, T, H1, lg, F1, FT, rfl, ⟨rfl, rfl, hlg⟩, m1, m2, m3, m4, m5⟩
  rw [VP.ext e2] at m1 m2
  obtain ⟨F2, p2, h2⟩ := m1.swap
  have p3 := List.Perm.append_right FT p2
  refine ⟨y, T, _, lg, F2, FT, rfl, ⟨rfl, rfl, hlg⟩, h2, m2, p3.nodup_iff.2 m3, ⟨m4.os, m4.tape, m4.output, m4.size, fun b hb hm => m4.same b hb (fun h' => hm ((List.Perm.append_right FA p1).subset h')), fun b hb => (m4.new b (p3.subset hb)).imp (fun h' => (List.Perm.append_right FA p1).subset h') id⟩, fun y x hy hv => ?_⟩
  rw [VP1.ext e1] at hv
  have := m5 y x hy hv
  rw [VP1.ext e2] at this
  exact this
end Go.Px

namespace Go.Proofs.YtnlbjfdmjlnlgaaGreat
open Go Go.Px Go.RowKit Go.Proofs
set_option linter.unnecessarySimpa false
set_option linter.unusedVariables false
set_option linter.unusedSimpArgs false
set_option maxRecDepth 100000
set_option maxHeartbeats 1000000
attribute [-simp] Int.not_le Int.not_lt
theorem rowP_pos {l : List DRow} {k : Int} (hs : sortedR l) {p : Nat} (hp : p < l.length) (hk : l[p].key = k) : rowP l k = p := by
  obtain ⟨h1, h2, h3⟩ := rowP_spec (k := k) l
  rcases Nat.lt_trichotomy (rowP l k) p with h | h | h
  · have h4 := h3 (by omega)
    have := hs _ _ h hp
    omega
  · exact h
  · have := h2 p hp h
    omega
theorem foundR_at {l : List DRow} {k : Int} (hs : sortedR l) {p : Nat} (hp : p < l.length) (hk : l[p].key = k) : foundR l k = true := by
  unfold foundR
  rw [rowP_pos hs hp hk, List.getElem?_eq_getElem hp]
  simp [hk]
/-- the rows behind a chain that was set -/
def setC (rows : List DRow) (p : Nat) (c : List DVersion) : List DRow := if c.length = 0 then rows.eraseIdx p else match rows[p]? with | some r => rows.set p { r with chain := c } | none => rows
theorem eraseIdx_mapL {α β : Type} {f : α → β} : ∀ {l : List α} {p : Nat}, (l.map f).eraseIdx p = (l.eraseIdx p).map f
  | [], p => by simp
  | a :: l, 0 => by simp
  | a :: l, p + 1 => by simp [eraseIdx_mapL (l := l) (p := p)]
theorem cutD_app {α : Type} {E : List α} {z : List α} {n : Nat} (h : n = E.length) : cutD 0 n (E ++ z) = E := by subst h; simp [cutD]
set_option maxHeartbeats 4000000 in
theorem impl_Engine_setChain (H : HH) {r p y} {x : DEngine} {k : Int} {c : List DVersion} (hl : x.le 1048576) (hs : sortedR x.rows) (hk : kOk k) (hks : keysOk x.rows) (hp : p < x.rows.length) (hkey : x.rows[p].key = k) (hcb : c.length ≤ 1048576)
    (hy : y = { x with rows := setC x.rows p c }) (hr0 : r.1 ≠ 0) (hrc : ∀ q, CleanH (hit [(r, q)]) H) :
    PUpdR Tryz.prog 128 [.c (.pt r [] 4 0 0), I k, .c (.own 4 (c.map DVersion.enc))] ((r, .own 4 [x.enc]) :: H) (.t []) ((r, .own 4 [y.enc]) :: H) r := by
  obtain ⟨⟨b1, b1p⟩, b2, b2p⟩ := hl
  have hrow := fun H' r2 q2 rows2 c0 c1 n1 q => impl_Engine_row H' (r1 := r) (q1 := q) (r2 := r2) (q2 := q2) (rows2 := rows2) (c0 := c0) (c1 := c1) (n1 := n1) b2 hs hk hks
  rw [rowP_pos hs hp hkey, foundR_at hs hp hkey] at hrow
  have hdel := fun H' (h : CleanH (hit [(r, [(0, 3)])]) H') (ha : arrAt H' r [(0, 3)] = some (2, x.rows.map DRow.enc)) => slices_Delete_Row H' (i := p) (n := x.rows.length) hr0 (by simp) h (fun row hr => by obtain ⟨x, -, rfl⟩ := List.mem_map.1 hr; rfl) (by simp) hp b2 ha
  have w1 : IntKind.i64.wrap ((p : Int) + 1) = p + 1 := w64 (by omega) (by omega)
  refine PUpdB2.of [0, 1, 2, 6, 7, 16, 34, 44] Tryz.func128 rfl (by simp [Tryz.f128]) ?_
  intro d hd0 hfr0 hcl0 hout0
  have hrn : ∀ n, ¬ r = (d, n) := fun n h => by have := hfr0 n; rw [look_cons, if_pos h] at this; cases this
  have hrm : ∀ n, ¬ (d, n) = r := fun n h => hrn n h.symm
  have hrd : ¬ r.1 = d := fun h => hrn r.2 (by rw [← h])
  have hfr : ∀ n, Px.look H (d, n) = none := fun n => by have := hfr0 n; rwa [look_cons, if_neg (hrn n)] at this
  have hcl : CleanH (atD d) H := ((CleanH_cons _ _ _ _).1 hcl0).2
  have hout : outH d H = H := by have := hout0; rw [outH_cons, if_neg hrd] at this; exact (List.cons.inj this).2
  have hcd : ∀ n q, CleanH (hit [((d, n), q)]) H := fun n q => hcl.at
  clear hfr0 hcl0 hout0
  simp (maxSteps := 4000000) [hd0, hfr, hout, hcl, hcd, delA_none, hrn, hrm, hrd, hr0, hrc, Tryz.f128, DEngine.enc]
  refine (hrow _ r [(0, 2)] (x.txns.map DTxn.enc) _ _ _ _ (by simp (maxSteps := 4000000) [hd0, hfr, hout, hcl, hcd, delA_none, hrn, hrm, hrd, hr0, hrc]) (by simp (maxSteps := 4000000) [hd0, hfr, hout, hcl, hcd, delA_none, hrn, hrm, hrd, hr0, hrc])).useCK ?_
  by_cases hc : c.length = 0
  · have hc' : c = [] := List.eq_nil_of_length_eq_zero hc
    subst hc'
    simp (maxSteps := 4000000) [hd0, hfr, hout, hcl, hcd, delA_none, hrn, hrm, hrd, hr0, hrc, w1]
    refine (hdel _ (by simp (maxSteps := 4000000) [hd0, hfr, hout, hcl, hcd, delA_none, hrn, hrm, hrd, hr0, hrc]) (by simp (maxSteps := 4000000) [hd0, hfr, hout, hcl, hcd, delA_none, hrn, hrm, hrd, hr0, hrc])).useCK hrd (by simp (maxSteps := 4000000) [hd0, hfr, hout, hcl, hcd, delA_none, hrn, hrm, hrd, hr0, hrc]) ?_
    have he : ((x.rows.map DRow.enc).eraseIdx p).length = x.rows.length - 1 := by rw [List.length_eraseIdx_of_lt (by simpa using hp)]; simp
    have hE : (x.rows.map DRow.enc).eraseIdx p = (x.rows.eraseIdx p).map DRow.enc := eraseIdx_mapL
    have hS : setC x.rows p [] = x.rows.eraseIdx p := by simp [setC]
    rw [hS] at hy
    subst hy
    have hcut := cutD_app (z := [zRow]) he.symm
    rw [hE] at hcut ⊢
    simp only [zRow] at hcut
    rw [hE] at he
    simp only [List.length_map] at he
    simp (maxSteps := 4000000) [hd0, hfr, hout, hcl, hcd, delA_none, hrn, hrm, hrd, hr0, hrc, hcut, zRow]
    omega
  · obtain ⟨v, c', rfl⟩ : ∃ v c', c = v :: c' := by
      cases c with
      | nil => simp at hc
      | cons v c' => exact ⟨v, c', rfl⟩
    have hS : setC x.rows p (v :: c') = x.rows.set p { x.rows[p] with chain := v :: c' } := by simp [setC, List.getElem?_eq_getElem hp]
    rw [hS] at hy
    subst hy
    simp (maxSteps := 4000000) [hd0, hfr, hout, hcl, hcd, delA_none, hrn, hrm, hrd, hr0, hrc, hp, DRow.enc, eq_false (show ¬ (c'.length : Int) + 1 = 0 by omega)]
theorem purV_len {f : Int} {l : List DVersion} : (purV f l).length ≤ l.length := by
  have hc : ∀ l : List DVersion, (cutV f l).length ≤ l.length := by
    intro l
    induction l with
    | nil => simp [cutV]
    | cons v l ih => unfold cutV; split <;> simp; exact ih
  have h := hc l
  unfold purV
  split
  · simp
  · split
    · rw [List.length_dropLast]; omega
    · exact h
def purR (f : Int) (r : DRow) : List DRow := if (purV f r.chain).length = 0 then [] else [{ r with chain := purV f r.chain }]
def purL (f : Int) (l : List DRow) : List DRow := l.flatMap (purR f)
def midR (f : Int) (l : List DRow) (i : Nat) : List DRow := purL f (l.take i) ++ l.drop i
def purgeF (x : DEngine) : DEngine := { x with txns := x.txns.filter keepD, rows := purL (floorL x.txns x.clock) x.rows }
theorem purL_sub {f : Int} : ∀ {l : List DRow}, ((purL f l).map DRow.key).Sublist (l.map DRow.key)
  | [] => List.Sublist.refl _
  | r :: l => by
    have ih := purL_sub (f := f) (l := l)
    unfold purL at ih ⊢
    rw [List.flatMap_cons, List.map_append, List.map_cons]
    unfold purR
    split
    · exact ih.trans (List.sublist_cons_self _ _)
    · exact ih.cons_cons _
theorem midR_sub {f : Int} {l : List DRow} {i : Nat} : ((midR f l i).map DRow.key).Sublist (l.map DRow.key) := by
  unfold midR
  rw [List.map_append]
  have h : l.map DRow.key = (l.take i).map DRow.key ++ (l.drop i).map DRow.key := by rw [← List.map_append, List.take_append_drop]
  rw [h]
  exact List.Sublist.append purL_sub (List.Sublist.refl _)
theorem sortedR_iff {l : List DRow} : sortedR l ↔ (l.map DRow.key).Pairwise (· < ·) := by
  rw [List.pairwise_iff_getElem]
  unfold sortedR
  constructor
  · intro h i j hi hj hij
    simp only [List.getElem_map]
    exact h i j hij (by simpa using hj)
  · intro h i j hij hj
    have := h i j (by simp; omega) (by simpa using hj) hij
    simpa using this
theorem sortedR_sub {l l' : List DRow} (h : (l'.map DRow.key).Sublist (l.map DRow.key)) (hs : sortedR l) : sortedR l' := sortedR_iff.2 ((sortedR_iff.1 hs).sublist h)
theorem keysOk_sub {l l' : List DRow} (h : (l'.map DRow.key).Sublist (l.map DRow.key)) (hs : keysOk l) : keysOk l' := fun r hr => by
  have := h.subset (List.mem_map.2 ⟨r, hr, rfl⟩)
  obtain ⟨r', h1, h2⟩ := List.mem_map.1 this
  rw [← h2]; exact hs r' h1
theorem midR_get {f : Int} {l : List DRow} {i : Nat} (hi : i < l.length) : (midR f l i)[(purL f (l.take i)).length]? = some l[i] := by
  unfold midR
  rw [List.getElem?_append_right (Nat.le_refl _), Nat.sub_self, List.getElem?_drop, Nat.add_zero, List.getElem?_eq_getElem hi]
theorem midR_next {f : Int} {l : List DRow} {i : Nat} (hi : i < l.length) : midR f l (i + 1) = setC (midR f l i) (purL f (l.take i)).length (purV f l[i].chain) := by
  have h1 : purL f (l.take (i + 1)) = purL f (l.take i) ++ purR f l[i] := by
    unfold purL
    rw [List.take_succ_eq_append_getElem hi, List.flatMap_append]; simp
  have hd : l.drop i = l[i] :: l.drop (i + 1) := List.drop_eq_getElem_cons hi
  unfold setC
  rw [midR_get hi]
  unfold midR
  rw [h1, hd]
  unfold purR
  split
  · rw [List.append_nil, List.eraseIdx_append_of_length_le (Nat.le_refl _), Nat.sub_self]; simp
  · show _ = List.set _ _ _
    rw [List.set_append_right _ _ (Nat.le_refl _), Nat.sub_self, List.set_cons_zero, List.append_assoc]; rfl
theorem midR_le {f : Int} {l : List DRow} {B : Nat} (hb : l.length ≤ B) (hc : ∀ r ∈ l, DRow.le B r) (i : Nat) : (midR f l i).length ≤ B ∧ ∀ r ∈ midR f l i, DRow.le B r := by
  have h := (midR_sub (f := f) (l := l) (i := i)).length_le
  simp only [List.length_map] at h
  refine ⟨by omega, fun r hr => ?_⟩
  unfold midR at hr
  rcases List.mem_append.1 hr with hr | hr
  · unfold purL at hr
    obtain ⟨r', h1, h2⟩ := List.mem_flatMap.1 hr
    unfold purR at h2
    split at h2
    · simp at h2
    · have := List.mem_singleton.1 h2
      subst this
      have h3 := hc r' (List.mem_of_mem_take h1)
      have := purV_len (f := f) (l := r'.chain)
      have h4 : r'.chain.length ≤ B := h3
      show (purV f r'.chain).length ≤ B
      omega
  · exact hc r (List.mem_of_mem_drop hr)
set_option maxHeartbeats 4000000 in
theorem impl_Engine_purge (H : HH) {r1 q1 r2 q2} {x : DEngine} (hl : x.le 1048576) (hs : sortedR x.rows) (hks : keysOk x.rows) (a1 : arrAt H r1 q1 = some (5, x.txns.map DTxn.enc)) (a2 : arrAt H r2 q2 = some (2, x.rows.map DRow.enc)) :
    PFun Tryz.prog 73 [.a (eRow x r1 q1 r2 q2)] H (.a (purgeF x).enc) := by
  have hl0 := hl
  obtain ⟨⟨b1, b1p⟩, b2, b2p⟩ := hl
  have hcopy := fun H' h1 h2 => impl_Engine_copied H' (r1 := r1) (q1 := q1) (r2 := r2) (q2 := q2) hl0 h1 h2
  simp only [eRow] at hcopy
  obtain ⟨f, hf⟩ : ∃ f, f = floorL x.txns x.clock := ⟨_, rfl⟩
  have hF : purgeF x = { x with txns := x.txns.filter keepD, rows := purL f x.rows } := by rw [hf]; rfl
  have hfl := fun H' h1 h2 => impl_Engine_floor H' (r1 := r1) (q1 := q1) (r2 := r2) (q2 := q2) (rows2 := x.rows.map DRow.enc) (c0 := x.next) (c := x.clock) (n2 := x.rows.length) b1 h1 h2
  rw [← hf] at hfl
  rw [hF]
  clear hF hf
  refine PFun.of [1, 2, 3, 4, 6, 12, 13, 14, 15] Tryz.func73 rfl (by simp [Tryz.f73]) ?_
  intro d hd0 hfr hcl hout
  have hcd : ∀ n q, CleanH (hit [((d, n), q)]) H := fun n q => hcl.at
  have a1_n : ∀ n, ¬ (d, n) = r1 := fun n => nm_ne (ne_of_arr hfr a1)
  have a1_d : ¬ r1.1 = d := ne_of_arr hfr a1
  have a1_m : ∀ n, ¬ r1 = (d, n) := fun n => nm_ne' (ne_of_arr hfr a1)
  have a2_n : ∀ n, ¬ (d, n) = r2 := fun n => nm_ne (ne_of_arr hfr a2)
  have a2_d : ¬ r2.1 = d := ne_of_arr hfr a2
  have a2_m : ∀ n, ¬ r2 = (d, n) := fun n => nm_ne' (ne_of_arr hfr a2)
  simp (maxSteps := 4000000) [hd0, hfr, hout, hcl, hcd, delA_none, a1, a1_n, a1_d, a1_m, a2, a2_n, a2_d, a2_m, Tryz.f73, eRow]
  refine DrawK.introA (zl := [.v (.int .i64 0), .v (.int .i64 0), .own 5 [], .own 2 []]) 4 [1, 2, 8, 10] rfl rfl (by kernel_rfl) (by decide) (by decide) (by simp) (by simp) (by decide) (by simp (maxSteps := 4000000) [hd0, hfr, hout, hcl, hcd, delA_none, a1, a1_n, a1_d, a1_m, a2, a2_n, a2_d, a2_m]) ?_
  simp (maxSteps := 4000000) [hd0, hfr, hout, hcl, hcd, delA_none, a1, a1_n, a1_d, a1_m, a2, a2_n, a2_d, a2_m]
  refine ⟨_, hcopy _ (by simp (maxSteps := 4000000) [hd0, hfr, hout, hcl, hcd, delA_none, a1, a1_n, a1_d, a1_m, a2, a2_n, a2_d, a2_m]) (by simp (maxSteps := 4000000) [hd0, hfr, hout, hcl, hcd, delA_none, a1, a1_n, a1_d, a1_m, a2, a2_n, a2_d, a2_m]), ?_⟩
  simp (maxSteps := 4000000) [hd0, hfr, hout, hcl, hcd, delA_none, a1, a1_n, a1_d, a1_m, a2, a2_n, a2_d, a2_m]
  refine ⟨_, hfl _ (by simp (maxSteps := 4000000) [hd0, hfr, hout, hcl, hcd, delA_none, a1, a1_n, a1_d, a1_m, a2, a2_n, a2_d, a2_m]) (by simp (maxSteps := 4000000) [hd0, hfr, hout, hcl, hcd, delA_none, a1, a1_n, a1_d, a1_m, a2, a2_n, a2_d, a2_m]), ?_⟩
  simp (maxSteps := 4000000) [hd0, hfr, hout, hcl, hcd, delA_none, a1, a1_n, a1_d, a1_m, a2, a2_n, a2_d, a2_m, DEngine.enc]
  refine LoopK.intro (fun m s => ∃ i : Nat, i + m = x.rows.length ∧ s = ⟨[(2, .c (.pt (d, 2) [] 4 0 0)), (3, .c (.pt (d, 3) [] 4 0 0)), (4, I f), (12, .c (.sl r2 q2 2 0 x.rows.length)), (13, I x.rows.length), (14, I i)],
      ((d, 3), .own 4 [[.v (.int .i64 x.next), .v (.int .i64 x.clock), .own 5 (x.txns.map DTxn.enc), .own 2 ((midR f x.rows i).map DRow.enc)]]) :: ((d, 2), .own 4 [[.v (.int .i64 0), .v (.int .i64 0), .own 5 [], .own 2 []]]) :: H, []⟩) (x.rows.length + 1)
    (LK.intro x.rows.length [2, 3, 4, 12, 13, 14] [1] (by omega) (by decide) (by simp (maxSteps := 4000000) [hd0, hfr, hout, hcl, hcd, delA_none, a1, a1_n, a1_d, a1_m, a2, a2_n, a2_d, a2_m, hit, hit1, DUndo.enc, DTxn.enc, DRow.enc, DVersion.enc]) ⟨0, by simp [midR, purL]⟩) ?_
  rintro m s ⟨i, him, rfl⟩
  by_cases hi' : i < x.rows.length
  · have w1 : IntKind.i64.wrap ((i : Int) + 1) = i + 1 := w64 (by omega) (by omega)
    have hcl' : x.rows[i].chain.length ≤ 1048576 := b2p _ (List.getElem_mem hi')
    have hsub := arrAt_sub a2 (i := i) (f := 1) (row := x.rows[i].enc) (by simp [hi']) rfl
    have hp := midR_get (f := f) hi'
    have hn := midR_next (f := f) hi'
    obtain ⟨hle1, hle2⟩ := midR_le (f := f) b2 b2p i
    have hso := sortedR_sub (midR_sub (f := f) (i := i)) hs
    have hke := keysOk_sub (midR_sub (f := f) (i := i)) hks
    have hkk := hks _ (List.getElem_mem hi')
    generalize (purL f (x.rows.take i)).length = p at *
    generalize midR f x.rows i = M at *
    have hpM : p < M.length := (List.getElem?_eq_some_iff.1 hp).1
    have hMp : M[p].key = x.rows[i].key := by rw [List.getElem?_eq_getElem hpM] at hp; rw [Option.some.inj hp]
    have hset := fun H' h0 h1 => impl_Engine_setChain H' (r := (d, 3)) (p := p) (x := ⟨x.next, x.clock, x.txns, M⟩) (k := x.rows[i].key) (c := purV f x.rows[i].chain) ⟨⟨b1, b1p⟩, hle1, hle2⟩ hso hkk hke hpM hMp (Nat.le_trans purV_len hcl') rfl h0 h1
    simp (maxSteps := 4000000) [hd0, hfr, hout, hcl, hcd, delA_none, a1, a1_n, a1_d, a1_m, a2, a2_n, a2_d, a2_m, eq_true (show (i : Int) < x.rows.length by omega), hi', DRow.enc]
    refine DrawK.intro 6 [2, 3, 4, 12, 13, 14, 19, 23] rfl (by kernel_rfl) (by decide) ?_
    simp (maxSteps := 4000000) [hd0, hfr, hout, hcl, hcd, delA_none, a1, a1_n, a1_d, a1_m, a2, a2_n, a2_d, a2_m]
    refine ⟨_, impl_purged _ hcl' (by simp (maxSteps := 4000000) [hd0, hfr, hout, hcl, hcd, delA_none, a1, a1_n, a1_d, a1_m, a2, a2_n, a2_d, a2_m, hsub]), ?_⟩
    simp (maxSteps := 4000000) [hd0, hfr, hout, hcl, hcd, delA_none, a1, a1_n, a1_d, a1_m, a2, a2_n, a2_d, a2_m]
    simp only [DEngine.enc] at hset
    refine ((hset _ hd0 (fun q => by simp (maxSteps := 4000000) [hd0, hfr, hout, hcl, hcd, delA_none, a1, a1_n, a1_d, a1_m, a2, a2_n, a2_d, a2_m, hit, hit1])).swap (by simp)).useCK rfl (by intro a q; simp (maxSteps := 4000000) [hd0, hfr, hout, hcl, hcd, delA_none, a1, a1_n, a1_d, a1_m, a2, a2_n, a2_d, a2_m, hit, hit1]) (by intro a q; simp (maxSteps := 4000000) [hd0, hfr, hout, hcl, hcd, delA_none, a1, a1_n, a1_d, a1_m, a2, a2_n, a2_d, a2_m, T.keep, keepC2, keepC]) ?_
    simp (maxSteps := 4000000) [hd0, hfr, hout, hcl, hcd, delA_none, a1, a1_n, a1_d, a1_m, a2, a2_n, a2_d, a2_m, w1]
    refine LK.intro (m - 1) [2, 3, 4, 12, 13, 14] [6] (by omega) (by decide) (by simp (maxSteps := 4000000) [hd0, hfr, hout, hcl, hcd, delA_none, a1, a1_n, a1_d, a1_m, a2, a2_n, a2_d, a2_m, hit, hit1, DUndo.enc, DTxn.enc, DRow.enc, DVersion.enc]) ⟨i + 1, by omega, by simp [hn]⟩
  · have : i = x.rows.length := by omega
    subst this
    have hM : midR f x.rows x.rows.length = purL f x.rows := by simp [midR]
    rw [hM]
    have hcut := cutD_app (E := (x.txns.filter keepD).map DTxn.enc) (z := List.replicate (x.txns.length - (x.txns.filter keepD).length) zTxn) (n := (x.txns.filter keepD).length) (by simp)
    simp only [zTxn] at hcut
    simp (maxSteps := 4000000) [hd0, hfr, hout, hcl, hcd, delA_none, a1, a1_n, a1_d, a1_m, a2, a2_n, a2_d, a2_m]
    refine (slices_DeleteFunc_Txn _ hd0 (by simp) (by simp (maxSteps := 4000000) [hd0, hfr, hout, hcl, hcd, delA_none, a1, a1_n, a1_d, a1_m, a2, a2_n, a2_d, a2_m, hit, hit1, DUndo.enc, DTxn.enc, DRow.enc, DVersion.enc]) rfl b1 (by simp (maxSteps := 4000000) [hd0, hfr, hout, hcl, hcd, delA_none, a1, a1_n, a1_d, a1_m, a2, a2_n, a2_d, a2_m])).useCKl rfl (by simp (maxSteps := 4000000) [hd0, hfr, hout, hcl, hcd, delA_none, a1, a1_n, a1_d, a1_m, a2, a2_n, a2_d, a2_m]) ?_
    simp (maxSteps := 4000000) [hd0, hfr, hout, hcl, hcd, delA_none, a1, a1_n, a1_d, a1_m, a2, a2_n, a2_d, a2_m, zTxn, hcut]
    trace_state
end Go.Proofs.YtnlbjfdmjlnlgaaGreat

namespace Go.Px
open Go.RowKit
set_option linter.unnecessarySimpa false
set_option linter.unusedVariables false
set_option linter.unusedSimpArgs false
set_option linter.constructorNameAsVariable false
theorem look_delH {r r' : Nm} (hne : r' ≠ r) {H : HH} : look (delH H r) r' = look H r' := look_delH_ne hne
/-- A local array that a cell refers to goes whole into that cell. -/
theorem Rel.absorbRoot {e s a w r0 P C0 r z n els} (p : Nat × T → Bool) (h : Rel e s a w) (h0 : r0.1 ≠ 0) (hrd : r.1 = e.d) (hne : r0 ≠ r) (hP : P ≠ []) (hl0 : look s.H r0 = some C0) (hg0 : C0.get P = some (.sl r [] z 0 n)) (hl1 : look s.H r = some (.own z els)) (hn : n = els.length)
    (hcl : ∀ en ∈ putH s.H r0 (Cell.set .x P C0), Clean (hit [(r, [])]) en.2) (hp : ∀ en ∈ s.t, p en = true → en.2.clean (hit [(r, [])])) :
    Rel e { t := s.t.filter p, H := putH (delH (putH s.H r0 (Cell.set .x P C0)) r) r0 (Cell.set (.own z els) P (Cell.set .x P C0)), lg := s.lg } a w := by
  obtain ⟨hdf, β, F, G, h⟩ := h
  have h1 : r.1 ≠ 0 := by rw [hrd]; exact h.hd
  have hnF := (List.nodup_append.1 h.nd).1
  -- the reference is forgotten
  obtain ⟨a0, x0, F0, G0, m1, m2, m3, m4, m5, m6, m7, m8, m9⟩ := h.holds.write hnF (fun b hb => h.low b (by simp [hb])) h0 hl0 hP hg0
  have hst1 := m8 w .x (fun b _ => But.of_eq rfl) (fun _ _ => rfl)
  have hno1 := nohit_own (w := w) (β := β) hl0 hg0 rfl
  have hV1 : ∀ y x, VP1 w β s.H y x → VP1 w β (putH s.H r0 (Cell.set .x P C0)) y x := fun y x hv => hst1 y x (hno1 y x hv) hv
  obtain ⟨F1, p1, p2⟩ := m9 (fun _ => False) w .x x0 [] (fun b _ => But.of_eq rfl) (fun _ _ => rfl) m3 (fun en _ => clean_false en.2) (VP.of1 hV1) (.x x0 m6.flat)
  have hF0 : F0 = [] := m6.bare rfl
  subst hF0
  have hv0 : VP w β s.H (.sl r [] z 0 n) x0 := by
    cases m6 with
    | ref _ _ hv => exact hv
  have hv1 : VP1 w β (putH s.H r0 (Cell.set .x P C0)) (.sl r [] z 0 n) x0 := hV1 _ _ hv0
  generalize hH1 : putH s.H r0 (Cell.set .x P C0) = H1 at p2 hv1 hV1 hcl ⊢
  have hl1' : look H1 r = some (.own z els) := by rw [← hH1, look_putH_ne (Ne.symm hne)]; exact hl1
  have hl0' : look H1 r0 = some (Cell.set .x P C0) := by rw [← hH1]; exact look_putH_self hl0
  have hG0 : F1.Perm F := by simpa using p1.trans (by simpa using m7.symm)
  have hn1 : F1.Nodup := hG0.nodup_iff.2 hnF
  -- the array is taken out
  obtain ⟨Fr, G1, k1, k2, k3⟩ := p2.del h1 hl1'
  obtain ⟨c', els', hd, e1, e2, e3, e4, e5⟩ := hv1
  rw [hl1'] at e1; cases e1
  simp [Cell.get] at e2; subst e2
  simp [hdr] at e3; subst e3
  obtain ⟨F0', r1, r2⟩ := rep_drop k2 e5 (by omega)
  rw [List.drop_zero] at r1
  have hK2 : ∀ y x, isRef y = true → ¬ hit [(r, [])] y → VP w β H1 y x → VP w β (delH H1 r) y x := VP.map VP1.del
  have hcd : Clean (hit [(r, [])]) (.own z els) := hcl _ (look_mem hl1')
  have r3 := r1.mono hcd hK2 (fun _ _ => rfl)
  have q2 := k3.mono (fun _ _ => rfl) (fun en he => hcl en (mem_delH he)) hK2 (fun _ _ => rfl) (fun _ _ => rfl)
  generalize hH2 : delH H1 r = H2 at q2 hK2 r3 ⊢
  have hl0'' : look H2 r0 = some (Cell.set .x P C0) := by rw [← hH2, look_delH_ne hne]; exact hl0'
  have hgx : (Cell.set .x P C0).get P = some .x := get_set_self hg0
  have hn1' := k1.nodup_iff.1 hn1
  obtain ⟨hk7a, hk7b, hk7c⟩ := List.nodup_append.1 hn1'
  have hlow2 : ∀ b ∈ G1, e.g ≤ b := fun b hb => h.low b (by
    have : b ∈ F1 := k1.symm.subset (by simp [hb])
    simp [hG0.subset this])
  obtain ⟨a2, x2, F2', G2, l1, l2, l3, l4, l5, l6, l7, l8, l9⟩ := q2.write hk7b hlow2 h0 hl0'' hP hgx
  have hF2' : F2' = [] := l6.bare rfl
  subst hF2'
  have hadr : a2 = a0 := by
    rw [adr_set hg0, m1] at l1
    exact (Option.some.inj l1).symm
  subst hadr
  have hno3 := nohit_own (w := w) (β := β) hl0'' hgx rfl
  have hst3 := l8 w (.own z els) (fun b _ => But.of_eq rfl) (fun _ _ => rfl)
  have hV3 : ∀ y x, VP1 w β H2 y x → VP1 w β (putH H2 r0 (Cell.set (.own z els) P (Cell.set .x P C0))) y x := fun y x hv => hst3 y x (hno3 y x hv) hv
  have r4 := r3.mono (K := fun _ => False) (clean_false _) (VP.of1 hV3) (fun _ _ => rfl)
  obtain ⟨F3, s1, s2⟩ := l9 (fun _ => False) w (.own z els) x0 F0' (fun b _ => But.of_eq rfl) (fun _ _ => rfl) m3 (fun en _ => clean_false en.2) (VP.of1 hV3) r4
  have hK3 : ∀ y x, isRef y = true → ¬ hit [(r, [])] y → VP w β s.H y x → VP w β (putH H2 r0 (Cell.set (.own z els) P (Cell.set .x P C0))) y x := fun y x hr hk hv =>
    VP.of1 hV3 y x hr (fun h => h) (hK2 y x hr hk (VP.of1 hV1 y x hr (fun h => h) hv))
  obtain ⟨G', t1, t2⟩ := h.tmps.filter p
  have t3 := t1.mono (K := hit [(r, [])]) (R' := VP w β (putH H2 r0 (Cell.set (.own z els) P (Cell.set .x P C0)))) (w' := w) (a' := a.tmps) (fun en he => by
    have h1 := List.mem_filter.1 he
    exact hp en h1.1 h1.2) (fun _ _ => rfl) hK3 (fun _ _ => rfl)
  have hG2 : ∀ b ∈ G2, b ∈ G1 := fun b hb => l7.symm.subset (by simpa using hb)
  have hF3 : ∀ b ∈ F3, b ∈ F := fun b hb => by
    have hb := s1.subset hb
    refine hG0.subset (k1.symm.subset ?_)
    rcases List.mem_append.1 hb with hb | hb
    · exact List.mem_append.2 (.inl (r2.subset hb))
    · exact List.mem_append.2 (.inr (hG2 b hb))
  have hn3 : F3.Nodup := by
    refine s1.nodup_iff.2 (List.nodup_append.2 ⟨List.Nodup.sublist r2 hk7a, ?_, fun x hx y hy e => ?_⟩)
    · exact (by simpa using l7.nodup_iff.1 hk7b)
    · exact hk7c x (r2.subset hx) y (hG2 y hy) e
  have hsub : ∀ b ∈ F3 ++ G', b ∈ F ++ G := fun b hb => by
    rcases List.mem_append.1 hb with hb | hb
    · exact List.mem_append.2 (.inl (hF3 b hb))
    · exact List.mem_append.2 (.inr (t2.subset hb))
  refine ⟨hdf, β, F3, G', { holds := s2, tmps := t3, nd := ?_, low := fun b hb => h.low b (hsub b hb), ext := h.ext.sub hsub, gle := h.gle, out := h.out, fresh := h.fresh, stab := ?_, size := h.size, hd := h.hd }⟩
  · exact List.nodup_append.2 ⟨hn3, List.Nodup.sublist t2 (List.nodup_append.1 h.nd).2.1, fun x hx y hy e => (List.nodup_append.1 h.nd).2.2 x (hF3 x hx) y (t2.subset hy) e⟩
  · intro y x hy hvv
    have hy1 : ¬ hit1 [(r, [])] y := outer_nohit hvv h.fresh hrd
    have := VP1.del (r := r) y x hy1 (hV1 y x (h.stab y x hy hvv))
    rw [hH2] at this
    exact hV3 y x this
theorem LK.ghost {d I n s s'} (hg : Ghost d s s') (h : LK d I n s') : LK d I n s := by
  obtain ⟨m, s2, h1, h2, h3⟩ := h
  exact ⟨m, s2, h1, Ghost.trans hg h2, h3⟩
/-- the array that the cell P of the object r0 refers to goes into it -/
def absK (r0 : Nm) (P : Path) (r : Nm) (q : Path) (K : St → Prop) (s : St) : Prop :=
  match look s.H r0, look s.H r with
  | some C0, some C1 =>
    (match C0.get P, C1.get q with
    | some (.sl r' q' z i0 m), some (.own z' els) =>
      (r' = r ∧ q' = q ∧ z' = z ∧ i0 = 0 ∧ m = els.length) ∧ CleanH (hit [(r, q)]) (putH s.H r0 (Cell.set .x P C0)) ∧ OcleanT (hit [(r, q)]) s.t ∧
        K ⟨s.t.filter (fun en => en.2.keep r q), if q = [] then putH (delH (putH s.H r0 (Cell.set .x P C0)) r) r0 (Cell.set (.own z els) P (Cell.set .x P C0)) else putH (putH (putH s.H r0 (Cell.set .x P C0)) r (Cell.set .x q C1)) r0 (Cell.set (.own z els) P (Cell.set .x P C0)), s.lg⟩
    | _, _ => False)
  | _, _ => False
theorem absK_mk {r0 P r q K t H lg} : absK r0 P r q K ⟨t, H, lg⟩ = (match look H r0, look H r with
  | some C0, some C1 =>
    (match C0.get P, C1.get q with
    | some (.sl r' q' z i0 m), some (.own z' els) =>
      (r' = r ∧ q' = q ∧ z' = z ∧ i0 = 0 ∧ m = els.length) ∧ CleanH (hit [(r, q)]) (putH H r0 (Cell.set .x P C0)) ∧ OcleanT (hit [(r, q)]) t ∧
        K ⟨t.filter (fun en => en.2.keep r q), if q = [] then putH (delH (putH H r0 (Cell.set .x P C0)) r) r0 (Cell.set (.own z els) P (Cell.set .x P C0)) else putH (putH (putH H r0 (Cell.set .x P C0)) r (Cell.set .x q C1)) r0 (Cell.set (.own z els) P (Cell.set .x P C0)), lg⟩
    | _, _ => False)
  | _, _ => False) := rfl
attribute [simp] absK_mk
theorem LK.absorb {d I n t H lg} (r0 : Nm) (P : Path) (r : Nm) (q : Path) (hd : d ≠ 0) (h0 : r0.1 ≠ 0) (h1 : r.1 = d) (hne : ¬ r0 = r) (hP : P ≠ []) (h : absK r0 P r q (LK d I n) ⟨t, H, lg⟩) : LK d I n ⟨t, H, lg⟩ := by
  unfold absK at h
  split at h
  · rename_i C0 C1 hl0 hl1
    split at h
    · rename_i r' q' z i0 m z' els hg0 hg1
      obtain ⟨⟨rfl, rfl, rfl, rfl, hm⟩, hcl, hp, h⟩ := h
      refine LK.ghost (fun e a w he hr => ?_) h
      by_cases hq : q' = []
      · rw [if_pos hq]
        subst hq
        simp [Cell.get] at hg1
        subst hg1
        exact hr.absorbRoot (fun en => en.2.keep r' []) h0 (h1.trans he.symm) hne hP hl0 hg0 hl1 hm hcl (fun en he hk => keep_clean hk (hp en he))
      · rw [if_neg hq]
        have := hr.absorb (fun en => en.2.keep r' q') h0 (by rw [h1]; exact hd) hne hP hq hl0 hg0 hl1 hg1 hm hcl (fun en he hk => keep_clean hk (hp en he))
        simpa [noteH, h1, he] using this
    · exact h.elim
  · exact h.elim
end Go.Px

namespace Go.Proofs.YtnlbjfdmjlnlgaaGreat
open Go Go.Px Go.RowKit Go.Proofs
set_option linter.unnecessarySimpa false
set_option linter.unusedVariables false
set_option linter.unusedSimpArgs false
set_option maxRecDepth 100000
set_option maxHeartbeats 1000000
attribute [-simp] Int.not_le Int.not_lt
theorem engF_rows {x : DEngine} (h : engF x = 0) : rowsF x.clock x.txns none x.rows = 0 ∧ x.rows.length ≤ 32 := by
  unfold engF at h
  split at h
  · omega
  · split at h
    · omega
    · split at h
      · rename_i h1; exact absurd h h1
      · split at h
        · rename_i h1; exact absurd h h1
        · rename_i h0 _ h1
          exact ⟨by simpa using h1, by omega⟩
theorem rowsF_chain {clock : Int} {txns : List DTxn} : ∀ {l : List DRow} {p}, rowsF clock txns p l = 0 → ∀ r ∈ l, chainF r.chain = 0
  | [], _, _, r, hr => by simp at hr
  | r0 :: l, p, h, r, hr => by
    simp only [rowsF] at h
    split at h
    · omega
    · split at h
      · omega
      · split at h
        · rename_i h3; exact absurd h h3
        · rename_i h3
          split at h
          · omega
          · rcases List.mem_cons.1 hr with rfl | hr
            · simpa using h3
            · exact rowsF_chain h r hr
theorem chainF_at {l : List DVersion} (h : chainF l = 0) : ∀ v ∈ l, 0 ≤ v.at_ := fun v hv => by
  unfold chainF at h
  split at h
  · omega
  · have := chF_get h v hv
    unfold vRange inR at this
    simp at this
    omega
theorem purgeF_le {x : DEngine} {B : Nat} (hl : x.le B) : (purgeF x).le B := by
  obtain ⟨⟨b1, b1p⟩, b2, b2p⟩ := hl
  have h := midR_le (f := floorL x.txns x.clock) b2 b2p x.rows.length
  have e : midR (floorL x.txns x.clock) x.rows x.rows.length = purL (floorL x.txns x.clock) x.rows := by simp [midR]
  rw [e] at h
  refine ⟨⟨Nat.le_trans (List.length_filter_le _ _) b1, fun t ht => b1p t (List.mem_filter.1 ht).1⟩, h⟩
end Go.Proofs.YtnlbjfdmjlnlgaaGreat

namespace Go.Proofs.YtnlbjfdmjlnlgaaGreat
open Go Go.Px Go.RowKit Go.Proofs
set_option linter.unnecessarySimpa false
set_option linter.unusedVariables false
set_option linter.unusedSimpArgs false
set_option maxRecDepth 100000
set_option maxHeartbeats 1000000
attribute [-simp] Int.not_le Int.not_lt
def encX (t : DTxn) : List Cell := if keepD t = true then [.v (.int .i64 t.id_), .v (.int .i64 t.at_), .v (.int .i64 t.state), .v (.int .i64 t.done), .x] else t.enc
def stepX (l : List DTxn) (i : Nat) : List (List Cell) := (l.take i).map encX ++ (l.drop i).map DTxn.enc
theorem stepX_len {l : List DTxn} {i : Nat} : (stepX l i).length = l.length := by simp [stepX]; omega
theorem stepX_get {l : List DTxn} {i : Nat} (hi : i < l.length) : (stepX l i)[i]? = some l[i].enc := by
  unfold stepX
  rw [List.getElem?_append_right (by simp; omega)]
  simp [Nat.min_eq_left (Nat.le_of_lt hi), hi]
theorem stepX_next {l : List DTxn} {i : Nat} (hi : i < l.length) : stepX l (i + 1) = (stepX l i).set i (encX l[i]) := by
  unfold stepX
  rw [List.take_succ_eq_append_getElem hi, List.set_append_right _ _ (by simp; omega), List.drop_eq_getElem_cons hi]
  simp only [List.length_map, List.length_take, Nat.min_eq_left (Nat.le_of_lt hi), Nat.sub_self, List.map_append, List.map_cons, List.map_nil, List.set_cons_zero, List.append_assoc, List.cons_append, List.nil_append]
theorem stepX_no {l : List DTxn} {i : Nat} (hi : i < l.length) (h : keepD l[i] = false) : stepX l (i + 1) = stepX l i := by
  have h1 := stepX_next hi
  have h2 := stepX_get hi
  have : encX l[i] = l[i].enc := by unfold encX; rw [if_neg (by simp [h])]
  rw [h1, this]
  exact set_at h2
theorem stepX_clean {l : List DTxn} {i : Nat} {K : Cell → Prop} : CleanRows K (stepX l i) := by
  unfold stepX
  rw [CleanRows_append]
  refine ⟨?_, by simp⟩
  intro row hr
  obtain ⟨t, -, rfl⟩ := List.mem_map.1 hr
  unfold encX
  split
  · simp [Clean.v]
  · simp
set_option maxHeartbeats 4000000 in
theorem spec_l7Purge (H : HH) {r r1 q1 r2 q2} {x : DEngine} (hl : x.le 1048576) (hat : ∀ r ∈ x.rows, ∀ v ∈ r.chain, 0 ≤ v.at_) (ha : arrAt H r [] = some (4, [eRow x r1 q1 r2 q2])) (a1 : arrAt H r1 q1 = some (5, x.txns.map DTxn.enc)) (a2 : arrAt H r2 q2 = some (2, x.rows.map DRow.enc)) :
    PFun Tryz.prog 71 [.c (.pt r [] 4 0 0)] H (.a (purgeF x).enc) := by
  have hl0 := hl
  obtain ⟨⟨b1, b1p⟩, b2, b2p⟩ := hl
  have hcopy := fun H' h1 h2 => spec_l6Copy H' (r1 := r1) (q1 := q1) (r2 := r2) (q2 := q2) hl0 h1 h2
  simp only [eRow] at hcopy
  obtain ⟨f, hf⟩ : ∃ f, f = floorL x.txns x.clock := ⟨_, rfl⟩
  have hF : purgeF x = { x with txns := x.txns.filter keepD, rows := purL f x.rows } := by rw [hf]; rfl
  have hfl := fun H' h1 h2 => spec_l7Floor H' (r := r) (r1 := r1) (q1 := q1) (c0 := .v (.int .i64 x.next)) (c := x.clock) (c3 := .sl r2 q2 2 0 x.rows.length) b1 h1 h2
  rw [← hf] at hfl
  rw [hF]
  clear hF hf
  refine PFun.of [0, 2, 3, 4, 5, 6, 7, 8, 28, 37, 52, 65] Tryz.func71 rfl (by simp [Tryz.f71]) ?_
  intro d hd0 hfr hcl hout
  have hcd : ∀ n q, CleanH (hit [((d, n), q)]) H := fun n q => hcl.at
  have ha_n : ∀ n, ¬ (d, n) = r := fun n => nm_ne (ne_of_arr hfr ha)
  have ha_d : ¬ r.1 = d := ne_of_arr hfr ha
  have ha_m : ∀ n, ¬ r = (d, n) := fun n => nm_ne' (ne_of_arr hfr ha)
  have a1_n : ∀ n, ¬ (d, n) = r1 := fun n => nm_ne (ne_of_arr hfr a1)
  have a1_d : ¬ r1.1 = d := ne_of_arr hfr a1
  have a1_m : ∀ n, ¬ r1 = (d, n) := fun n => nm_ne' (ne_of_arr hfr a1)
  have a2_n : ∀ n, ¬ (d, n) = r2 := fun n => nm_ne (ne_of_arr hfr a2)
  have a2_d : ¬ r2.1 = d := ne_of_arr hfr a2
  have a2_m : ∀ n, ¬ r2 = (d, n) := fun n => nm_ne' (ne_of_arr hfr a2)
  simp (maxSteps := 4000000) [hd0, hfr, hout, hcl, hcd, delA_none, ha, ha_n, ha_d, ha_m, a1, a1_n, a1_d, a1_m, a2, a2_n, a2_d, a2_m, Tryz.f71, eRow]
  refine (hfl _ (by simp (maxSteps := 4000000) [hd0, hfr, hout, hcl, hcd, delA_none, ha, ha_n, ha_d, ha_m, a1, a1_n, a1_d, a1_m, a2, a2_n, a2_d, a2_m, eRow]) (by simp (maxSteps := 4000000) [hd0, hfr, hout, hcl, hcd, delA_none, ha, ha_n, ha_d, ha_m, a1, a1_n, a1_d, a1_m, a2, a2_n, a2_d, a2_m])).useCK ?_
  simp (maxSteps := 4000000) [hd0, hfr, hout, hcl, hcd, delA_none, ha, ha_n, ha_d, ha_m, a1, a1_n, a1_d, a1_m, a2, a2_n, a2_d, a2_m, eRow]
  refine DrawK.introA (zl := [.v (.int .i64 0), .v (.int .i64 0), .own 5 [], .own 2 []]) 9 [0, 2, 3, 19] rfl rfl (by kernel_rfl) (by decide) (by decide) (by simp) (by simp) (by decide) (by simp (maxSteps := 4000000) [hd0, hfr, hout, hcl, hcd, delA_none, ha, ha_n, ha_d, ha_m, a1, a1_n, a1_d, a1_m, a2, a2_n, a2_d, a2_m]) ?_
  simp (maxSteps := 4000000) [hd0, hfr, hout, hcl, hcd, delA_none, ha, ha_n, ha_d, ha_m, a1, a1_n, a1_d, a1_m, a2, a2_n, a2_d, a2_m, eRow]
  refine (hcopy _ (by simp (maxSteps := 4000000) [hd0, hfr, hout, hcl, hcd, delA_none, ha, ha_n, ha_d, ha_m, a1, a1_n, a1_d, a1_m, a2, a2_n, a2_d, a2_m]) (by simp (maxSteps := 4000000) [hd0, hfr, hout, hcl, hcd, delA_none, ha, ha_n, ha_d, ha_m, a1, a1_n, a1_d, a1_m, a2, a2_n, a2_d, a2_m])).useCK ?_
  simp (maxSteps := 4000000) [hd0, hfr, hout, hcl, hcd, delA_none, ha, ha_n, ha_d, ha_m, a1, a1_n, a1_d, a1_m, a2, a2_n, a2_d, a2_m, DEngine.enc]
  refine LoopK.intro (fun m s => ∃ i : Nat, i + m = x.txns.length ∧ s = ⟨[(2, .c (.pt (d, 2) [] 4 0 0)), (3, I f), (4, .c (.pt (d, 4) [] 4 0 0)), (5, .c (.pt (d, 5) [] 4 0 0)), (6, I i)],
      ((d, 5), .own 4 [[.v (.int .i64 x.next), .v (.int .i64 x.clock), .own 5 (stepX x.txns i), .own 2 (x.rows.map DRow.enc)]]) :: ((d, 4), .own 4 [[.v (.int .i64 x.next), .v (.int .i64 x.clock), .own 5 (((x.txns.take i).filter keepD).map DTxn.enc), .own 2 []]]) :: ((d, 2), .own 4 [[.v (.int .i64 0), .v (.int .i64 0), .own 5 [], .own 2 []]]) :: H, []⟩) (x.txns.length + 1)
    (LK.intro x.txns.length [2, 3, 4, 5, 6] [] (by omega) (by decide) (by simp (maxSteps := 4000000) [hd0, hfr, hout, hcl, hcd, delA_none, ha, ha_n, ha_d, ha_m, a1, a1_n, a1_d, a1_m, a2, a2_n, a2_d, a2_m]) ⟨0, by simp [stepX]⟩) ?_
  rintro m s ⟨i, him, rfl⟩
  have hLl := stepX_len (l := x.txns) (i := i)
  have hLc := fun K => stepX_clean (l := x.txns) (i := i) (K := K)
  by_cases hi' : i < x.txns.length
  · have w1 : IntKind.i64.wrap ((i : Int) + 1) = i + 1 := w64 (by omega) (by omega)
    have hLg := stepX_get hi'
    have hLn := stepX_next hi'
    have hLo := stepX_no hi'
    have hkl : ((x.txns.take i).filter keepD).length ≤ 1048576 := by
      have := List.length_filter_le keepD (x.txns.take i); rw [List.length_take] at this; omega
    have hK : (x.txns.take (i + 1)).filter keepD = (x.txns.take i).filter keepD ++ (if keepD x.txns[i] then [x.txns[i]] else []) := by
      rw [List.take_succ_eq_append_getElem hi', List.filter_append]
      cases h : keepD x.txns[i] <;> simp [h]
    generalize (x.txns.take i).filter keepD = K at *
    generalize stepX x.txns i = L at *
    have hiL : i < L.length := by omega
    have hLe : L[i] = x.txns[i].enc := by rw [List.getElem?_eq_getElem hiL] at hLg; exact Option.some.inj hLg
    by_cases hs : x.txns[i].state = 1
    · have hkd : keepD x.txns[i] = true := by simp [keepD, hs]
      rw [hkd] at hK
      simp (maxSteps := 4000000) [hd0, hfr, hout, hcl, hcd, delA_none, ha, ha_n, ha_d, ha_m, a1, a1_n, a1_d, a1_m, a2, a2_n, a2_d, a2_m, hLl, hLe, eq_true (show (i : Int) < x.txns.length by omega), hi', hiL, DTxn.enc, hs]
      refine DrawK.intro 8 [2, 3, 4, 5, 6, 39, 45] rfl (by kernel_rfl) (by decide) ?_
      simp (maxSteps := 4000000) [hd0, hfr, hout, hcl, hcd, delA_none, ha, ha_n, ha_d, ha_m, a1, a1_n, a1_d, a1_m, a2, a2_n, a2_d, a2_m, hLl, hLe, hi', hiL, DTxn.enc, hs, hLc, w1]
      refine ⟨by omega, ?_⟩
      have hX : encX x.txns[i] = [.v (.int .i64 x.txns[i].id_), .v (.int .i64 x.txns[i].at_), .v (.int .i64 1), .v (.int .i64 x.txns[i].done), .x] := by simp [encX, hkd, hs]
      refine LK.absorb (d, 4) [(0, 2), (K.length, 4)] (d, 5) [(0, 2), (i, 4)] hd0 hd0 rfl (by simp) (by simp) ?_
      simp (maxSteps := 4000000) [hd0, hfr, hout, hcl, hcd, delA_none, ha, ha_n, ha_d, ha_m, a1, a1_n, a1_d, a1_m, a2, a2_n, a2_d, a2_m, List.getElem?_append_right, List.set_append_right, hLe, hiL, DTxn.enc, hs, hLc, DUndo.enc, DRow.enc, DVersion.enc]
      have hE : (K ++ [x.txns[i]]).map DTxn.enc = K.map DTxn.enc ++ [[.v (.int .i64 x.txns[i].id_), .v (.int .i64 x.txns[i].at_), .v (.int .i64 1), .v (.int .i64 x.txns[i].done), .own 4 (x.txns[i].undos.map DUndo.enc)]] := by rw [List.map_append]; simp [DTxn.enc, hs]
      rw [hX] at hLn
      refine LK.intro (m - 1) [2, 3, 4, 5, 6] [] (by omega) (by decide) (by simp (maxSteps := 4000000) [hd0, hfr, hout, hcl, hcd, delA_none, ha, ha_n, ha_d, ha_m, a1, a1_n, a1_d, a1_m, a2, a2_n, a2_d, a2_m]) ⟨i + 1, by omega, by rw [hLn, hK, if_pos rfl, hE]; simp⟩
    · have hkd : keepD x.txns[i] = false := by simp [keepD, hs]
      rw [hkd] at hK
      simp (maxSteps := 4000000) [hd0, hfr, hout, hcl, hcd, delA_none, ha, ha_n, ha_d, ha_m, a1, a1_n, a1_d, a1_m, a2, a2_n, a2_d, a2_m, hLl, hLe, eq_true (show (i : Int) < x.txns.length by omega), hi', hiL, DTxn.enc, hs, w1]
      refine LK.intro (m - 1) [2, 3, 4, 5, 6] [] (by omega) (by decide) (by simp (maxSteps := 4000000) [hd0, hfr, hout, hcl, hcd, delA_none, ha, ha_n, ha_d, ha_m, a1, a1_n, a1_d, a1_m, a2, a2_n, a2_d, a2_m]) ⟨i + 1, by omega, by simp [hLo hkd, hK]⟩
  have hie : i = x.txns.length := by omega
  subst hie
  rw [List.take_length]
  generalize stepX x.txns x.txns.length = L at *
  have hg : arrAt (((d, 5), .own 4 [[.v (.int .i64 x.next), .v (.int .i64 x.clock), .own 5 L, .own 2 (x.rows.map DRow.enc)]]) :: ((d, 4), .own 4 [[.v (.int .i64 x.next), .v (.int .i64 x.clock), .own 5 ((x.txns.filter keepD).map DTxn.enc), .own 2 []]]) :: H) (d, 5) [] = some (4, [[.v (.int .i64 x.next), .v (.int .i64 x.clock), .own 5 L, .own 2 (x.rows.map DRow.enc)]]) := by simp
  clear hg
  simp (maxSteps := 4000000) [hd0, hfr, hout, hcl, hcd, delA_none, ha, ha_n, ha_d, ha_m, a1, a1_n, a1_d, a1_m, a2, a2_n, a2_d, a2_m, hLl]
  refine LoopK.intro (fun m s => ∃ i : Nat, i + m = x.rows.length ∧ s = ⟨[(2, .c (.pt (d, 2) [] 4 0 0)), (3, I f), (4, .c (.pt (d, 4) [] 4 0 0)), (5, .c (.pt (d, 5) [] 4 0 0)), (7, I i)],
      ((d, 5), .own 4 [[.v (.int .i64 x.next), .v (.int .i64 x.clock), .own 5 L, .own 2 (x.rows.map DRow.enc)]]) :: ((d, 4), .own 4 [[.v (.int .i64 x.next), .v (.int .i64 x.clock), .own 5 ((x.txns.filter keepD).map DTxn.enc), .own 2 ((purL f (x.rows.take i)).map DRow.enc)]]) :: ((d, 2), .own 4 [[.v (.int .i64 0), .v (.int .i64 0), .own 5 [], .own 2 []]]) :: H, []⟩) (x.rows.length + 1)
    (LK.intro x.rows.length [2, 3, 4, 5, 7] [] (by omega) (by decide) (by simp (maxSteps := 4000000) [hd0, hfr, hout, hcl, hcd, delA_none, ha, ha_n, ha_d, ha_m, a1, a1_n, a1_d, a1_m, a2, a2_n, a2_d, a2_m]) ⟨0, by simp [purL]⟩) ?_
  clear him hi' m
  rintro m s ⟨i, him, rfl⟩
  by_cases hi' : i < x.rows.length
  · have w1 : IntKind.i64.wrap ((i : Int) + 1) = i + 1 := w64 (by omega) (by omega)
    have hcb : x.rows[i].chain.length ≤ 1048576 := b2p _ (List.getElem_mem hi')
    have hK : purL f (x.rows.take (i + 1)) = purL f (x.rows.take i) ++ purR f x.rows[i] := by
      unfold purL
      rw [List.take_succ_eq_append_getElem hi', List.flatMap_append]; simp
    have hkl : (purL f (x.rows.take i)).length ≤ 1048576 := by
      have := (purL_sub (f := f) (l := x.rows.take i)).length_le
      simp only [List.length_map, List.length_take] at this
      omega
    have hpl := purV_len (f := f) (l := x.rows[i].chain)
    generalize purL f (x.rows.take i) = K at *
    simp (maxSteps := 4000000) [hd0, hfr, hout, hcl, hcd, delA_none, ha, ha_n, ha_d, ha_m, a1, a1_n, a1_d, a1_m, a2, a2_n, a2_d, a2_m, eq_true (show (i : Int) < x.rows.length by omega), hi', DRow.enc]
    refine (spec_l5Purge _ hcb (hat _ (List.getElem_mem hi')) (by simp (maxSteps := 4000000) [hd0, hfr, hout, hcl, hcd, delA_none, ha, ha_n, ha_d, ha_m, a1, a1_n, a1_d, a1_m, a2, a2_n, a2_d, a2_m, hi', DRow.enc])).useCK ?_
    unfold purR at hK
    generalize purV f x.rows[i].chain = c at *
    by_cases hc : c.length = 0
    · have hc' : c = [] := List.eq_nil_of_length_eq_zero hc
      subst hc'
      rw [if_pos (by rfl), List.append_nil] at hK
      simp (maxSteps := 4000000) [hd0, hfr, hout, hcl, hcd, delA_none, ha, ha_n, ha_d, ha_m, a1, a1_n, a1_d, a1_m, a2, a2_n, a2_d, a2_m, w1]
      refine LK.intro (m - 1) [2, 3, 4, 5, 7] [8] (by omega) (by decide) (by simp (maxSteps := 4000000) [hd0, hfr, hout, hcl, hcd, delA_none, ha, ha_n, ha_d, ha_m, a1, a1_n, a1_d, a1_m, a2, a2_n, a2_d, a2_m, hLc, DRow.enc, DTxn.enc, DUndo.enc, DVersion.enc]) ⟨i + 1, by omega, by simp [hK]⟩
    · rw [if_neg hc] at hK
      simp (maxSteps := 4000000) [hd0, hfr, hout, hcl, hcd, delA_none, ha, ha_n, ha_d, ha_m, a1, a1_n, a1_d, a1_m, a2, a2_n, a2_d, a2_m, eq_true (show (0 : Int) < c.length by omega), eq_true (show 0 < c.length by omega)]
      refine DrawK.intro 11 [2, 3, 4, 5, 7, 67, 76] rfl (by kernel_rfl) (by decide) ?_
      simp (maxSteps := 4000000) [hd0, hfr, hout, hcl, hcd, delA_none, ha, ha_n, ha_d, ha_m, a1, a1_n, a1_d, a1_m, a2, a2_n, a2_d, a2_m, hi', DRow.enc, hLc, w1]
      refine ⟨by omega, ?_⟩
      refine LK.absorb (d, 4) [(0, 3), (K.length, 1)] (d, 8) [] hd0 hd0 rfl (by simp) (by simp) ?_
      simp (maxSteps := 4000000) [hd0, hfr, hout, hcl, hcd, delA_none, ha, ha_n, ha_d, ha_m, a1, a1_n, a1_d, a1_m, a2, a2_n, a2_d, a2_m, List.getElem?_append_right, List.set_append_right, hi', DRow.enc, hLc, DTxn.enc, DUndo.enc, DVersion.enc]
      have hE : (K ++ [(⟨x.rows[i].key, c⟩ : DRow)]).map DRow.enc = K.map DRow.enc ++ [[.v (.int .i64 x.rows[i].key), .own 4 (c.map DVersion.enc)]] := by rw [List.map_append]; simp [DRow.enc]
      refine LK.intro (m - 1) [2, 3, 4, 5, 7] [] (by omega) (by decide) (by simp (maxSteps := 4000000) [hd0, hfr, hout, hcl, hcd, delA_none, ha, ha_n, ha_d, ha_m, a1, a1_n, a1_d, a1_m, a2, a2_n, a2_d, a2_m, hLc, DRow.enc, DTxn.enc, DUndo.enc, DVersion.enc]) ⟨i + 1, by omega, by rw [hK, hE]; simp⟩
  · have hie : i = x.rows.length := by omega
    subst hie
    rw [List.take_length]
    simp (maxSteps := 4000000) [hd0, hfr, hout, hcl, hcd, delA_none, ha, ha_n, ha_d, ha_m, a1, a1_n, a1_d, a1_m, a2, a2_n, a2_d, a2_m, hLc]
end Go.Proofs.YtnlbjfdmjlnlgaaGreat

namespace Go.Proofs.YtnlbjfdmjlnlgaaGreat
open Go Go.Px Go.RowKit Go.Proofs
set_option linter.unnecessarySimpa false
set_option linter.unusedVariables false
set_option linter.unusedSimpArgs false
set_option maxRecDepth 100000
set_option maxHeartbeats 1000000
attribute [-simp] Int.not_le Int.not_lt
def purgR (x : DEngine) : DEngineResult := if engF x ≠ 0 then badE (engF x) else ⟨0, versL x.rows - versL (purgeF x).rows, purgeF x⟩
set_option maxHeartbeats 4000000 in
theorem impl_PurgeEngine (H : HH) {r1 q1 r2 q2} {x : DEngine} (hl : x.le 1048576) (a1 : arrAt H r1 q1 = some (5, x.txns.map DTxn.enc)) (a2 : arrAt H r2 q2 = some (2, x.rows.map DRow.enc)) :
    PFun Tryz.prog 24 [.a (eRow x r1 q1 r2 q2)] H (.a (purgR x).enc) := by
  have hlp := purgeF_le hl
  have hf := fun H' h1 h2 => impl_EngineFault H' (r1 := r1) (q1 := q1) (r2 := r2) (q2 := q2) hl h1 h2
  refine PFun.of [1, 2, 3, 4, 8] Tryz.func24 rfl (by simp [Tryz.f24]) ?_
  intro d hd0 hfr hcl hout
  have hcd : ∀ n q, CleanH (hit [((d, n), q)]) H := fun n q => hcl.at
  have a1_n : ∀ n, ¬ (d, n) = r1 := fun n => nm_ne (ne_of_arr hfr a1)
  have a1_d : ¬ r1.1 = d := ne_of_arr hfr a1
  have a1_m : ∀ n, ¬ r1 = (d, n) := fun n => nm_ne' (ne_of_arr hfr a1)
  have a2_n : ∀ n, ¬ (d, n) = r2 := fun n => nm_ne (ne_of_arr hfr a2)
  have a2_d : ¬ r2.1 = d := ne_of_arr hfr a2
  have a2_m : ∀ n, ¬ r2 = (d, n) := fun n => nm_ne' (ne_of_arr hfr a2)
  simp (maxSteps := 4000000) [hd0, hfr, hout, hcl, hcd, delA_none, a1, a1_n, a1_d, a1_m, a2, a2_n, a2_d, a2_m, Tryz.f24, eRow]
  refine (hf _ (by simp (maxSteps := 4000000) [hd0, hfr, hout, hcl, hcd, delA_none, a1, a1_n, a1_d, a1_m, a2, a2_n, a2_d, a2_m]) (by simp (maxSteps := 4000000) [hd0, hfr, hout, hcl, hcd, delA_none, a1, a1_n, a1_d, a1_m, a2, a2_n, a2_d, a2_m])).useCK ?_
  by_cases e0 : engF x = 0
  case neg => simp (maxSteps := 4000000) [hd0, hfr, hout, hcl, hcd, delA_none, a1, a1_n, a1_d, a1_m, a2, a2_n, a2_d, a2_m, eq_false e0, purgR, badE, DEngineResult.enc]
  obtain ⟨hrw, hr32⟩ := engF_rows e0
  obtain ⟨hks, hso, -⟩ := rowsF_sorted hrw
  have hG : purgR x = ⟨0, versL x.rows - versL (purgeF x).rows, purgeF x⟩ := by unfold purgR; rw [if_neg (by simp [e0])]
  have hpu := fun H' h1 h2 => impl_Engine_purge H' (r1 := r1) (q1 := q1) (r2 := r2) (q2 := q2) hl hso hks h1 h2
  simp only [eRow] at hpu
  have hv1 := fun H' h1 h2 => impl_Engine_versions H' (r1 := r2) (q1 := q2) (r2 := r1) (q2 := q1) (rows2 := x.txns.map DTxn.enc) (c0 := x.next) (c1 := x.clock) (n2 := x.txns.length) hl.2.1 hl.2.2 h1 h2
  rw [hG, e0]
  clear hf hG
  generalize purgeF x = y at *
  have hv2 := fun H' r1 q1 r2 q2 h1 h2 => impl_Engine_versions H' (r1 := r2) (q1 := q2) (r2 := r1) (q2 := q1) (rows2 := y.txns.map DTxn.enc) (c0 := y.next) (c1 := y.clock) (n2 := y.txns.length) hlp.2.1 hlp.2.2 h1 h2
  have w1 := versL_ok hl.2.1 hl.2.2 x.rows.length
  have w2 := versL_ok hlp.2.1 hlp.2.2 y.rows.length
  rw [List.take_length] at w1 w2
  have w3 : IntKind.i64.wrap (versL x.rows - versL y.rows) = versL x.rows - versL y.rows := w64 (by omega) (by omega)
  clear e0 hrw
  simp (maxSteps := 4000000) [hd0, hfr, hout, hcl, hcd, delA_none, a1, a1_n, a1_d, a1_m, a2, a2_n, a2_d, a2_m]
  refine (hpu _ (by simp (maxSteps := 4000000) [hd0, hfr, hout, hcl, hcd, delA_none, a1, a1_n, a1_d, a1_m, a2, a2_n, a2_d, a2_m]) (by simp (maxSteps := 4000000) [hd0, hfr, hout, hcl, hcd, delA_none, a1, a1_n, a1_d, a1_m, a2, a2_n, a2_d, a2_m])).useCK ?_
  simp (maxSteps := 4000000) [hd0, hfr, hout, hcl, hcd, delA_none, a1, a1_n, a1_d, a1_m, a2, a2_n, a2_d, a2_m, DEngine.enc]
  refine DrawK.intro 7 [2, 19] rfl (by kernel_rfl) (by decide) ?_
  simp (maxSteps := 4000000) [hd0, hfr, hout, hcl, hcd, delA_none, a1, a1_n, a1_d, a1_m, a2, a2_n, a2_d, a2_m]
  refine ⟨_, hv1 _ (by simp (maxSteps := 4000000) [hd0, hfr, hout, hcl, hcd, delA_none, a1, a1_n, a1_d, a1_m, a2, a2_n, a2_d, a2_m]) (by simp (maxSteps := 4000000) [hd0, hfr, hout, hcl, hcd, delA_none, a1, a1_n, a1_d, a1_m, a2, a2_n, a2_d, a2_m]), ?_⟩
  simp (maxSteps := 4000000) [hd0, hfr, hout, hcl, hcd, delA_none, a1, a1_n, a1_d, a1_m, a2, a2_n, a2_d, a2_m]
  refine ⟨_, hv2 _ (d, 4) [(0, 2)] (d, 4) [(0, 3)] (by simp (maxSteps := 4000000) [hd0, hfr, hout, hcl, hcd, delA_none, a1, a1_n, a1_d, a1_m, a2, a2_n, a2_d, a2_m]) (by simp (maxSteps := 4000000) [hd0, hfr, hout, hcl, hcd, delA_none, a1, a1_n, a1_d, a1_m, a2, a2_n, a2_d, a2_m]), ?_⟩
  simp (maxSteps := 4000000) [hd0, hfr, hout, hcl, hcd, delA_none, a1, a1_n, a1_d, a1_m, a2, a2_n, a2_d, a2_m, w3]
  rfl
set_option maxHeartbeats 4000000 in
theorem spec_PurgeEngine (H : HH) {r1 q1 r2 q2} {x : DEngine} (hl : x.le 1048576) (a1 : arrAt H r1 q1 = some (5, x.txns.map DTxn.enc)) (a2 : arrAt H r2 q2 = some (2, x.rows.map DRow.enc)) :
    PFun Tryz.prog 23 [.a (eRow x r1 q1 r2 q2)] H (.a (purgR x).enc) := by
  have hlp := purgeF_le hl
  refine PFun.of [1, 2, 3, 4, 7] Tryz.func23 rfl (by simp [Tryz.f23]) ?_
  intro d hd0 hfr hcl hout
  have hcd : ∀ n q, CleanH (hit [((d, n), q)]) H := fun n q => hcl.at
  have a1_n : ∀ n, ¬ (d, n) = r1 := fun n => nm_ne (ne_of_arr hfr a1)
  have a1_d : ¬ r1.1 = d := ne_of_arr hfr a1
  have a1_m : ∀ n, ¬ r1 = (d, n) := fun n => nm_ne' (ne_of_arr hfr a1)
  have a2_n : ∀ n, ¬ (d, n) = r2 := fun n => nm_ne (ne_of_arr hfr a2)
  have a2_d : ¬ r2.1 = d := ne_of_arr hfr a2
  have a2_m : ∀ n, ¬ r2 = (d, n) := fun n => nm_ne' (ne_of_arr hfr a2)
  simp (maxSteps := 4000000) [hd0, hfr, hout, hcl, hcd, delA_none, a1, a1_n, a1_d, a1_m, a2, a2_n, a2_d, a2_m, Tryz.f23, eRow]
  refine (spec_l6Fault _ (x := x) (r1 := r1) (q1 := q1) (r2 := r2) (q2 := q2) hl (by simp (maxSteps := 4000000) [hd0, hfr, hout, hcl, hcd, delA_none, a1, a1_n, a1_d, a1_m, a2, a2_n, a2_d, a2_m, eRow]) (by simp (maxSteps := 4000000) [hd0, hfr, hout, hcl, hcd, delA_none, a1, a1_n, a1_d, a1_m, a2, a2_n, a2_d, a2_m]) (by simp (maxSteps := 4000000) [hd0, hfr, hout, hcl, hcd, delA_none, a1, a1_n, a1_d, a1_m, a2, a2_n, a2_d, a2_m])).useCK ?_
  by_cases e0 : engF x = 0
  case neg =>
    have hR : purgR x = badE (engF x) := by unfold purgR; rw [if_pos e0]
    rw [hR]
    simp (maxSteps := 4000000) [hd0, hfr, hout, hcl, hcd, delA_none, a1, a1_n, a1_d, a1_m, a2, a2_n, a2_d, a2_m, eq_false e0]
    refine (spec_l6Bad _).useCK ?_
    simp (maxSteps := 4000000) [hd0, hfr, hout, hcl, hcd, delA_none, a1, a1_n, a1_d, a1_m, a2, a2_n, a2_d, a2_m, badE, DEngineResult.enc]
  obtain ⟨hrw, hr32⟩ := engF_rows e0
  have hat : ∀ r ∈ x.rows, ∀ v ∈ r.chain, 0 ≤ v.at_ := fun r hr => chainF_at (rowsF_chain hrw r hr)
  have hG : purgR x = ⟨0, versL x.rows - versL (purgeF x).rows, purgeF x⟩ := by unfold purgR; rw [if_neg (by simp [e0])]
  have hpu := fun H' r h0 h1 h2 => spec_l7Purge H' (r := r) (r1 := r1) (q1 := q1) (r2 := r2) (q2 := q2) hl hat h0 h1 h2
  have hv1 := fun H' r c0 c1 c2 h1 h2 => spec_l7Versions_e H' (r := r) (c0 := c0) (c1 := c1) (c2 := c2) (r2 := r2) (q2 := q2) (x := x) hl h1 h2
  rw [hG, e0]
  clear hG
  generalize purgeF x = y at *
  have hv2 := fun H' r c0 c1 c2 h1 => spec_l7Versions_o H' (r := r) (c0 := c0) (c1 := c1) (c2 := c2) (x := y) hlp h1
  have w1 := versL_ok hl.2.1 hl.2.2 x.rows.length
  have w2 := versL_ok hlp.2.1 hlp.2.2 y.rows.length
  rw [List.take_length] at w1 w2
  have w3 : IntKind.i64.wrap (versL x.rows - versL y.rows) = versL x.rows - versL y.rows := w64 (by omega) (by omega)
  clear e0 hrw
  simp (maxSteps := 4000000) [hd0, hfr, hout, hcl, hcd, delA_none, a1, a1_n, a1_d, a1_m, a2, a2_n, a2_d, a2_m]
  refine (hpu _ _ (by simp (maxSteps := 4000000) [hd0, hfr, hout, hcl, hcd, delA_none, a1, a1_n, a1_d, a1_m, a2, a2_n, a2_d, a2_m, eRow]) (by simp (maxSteps := 4000000) [hd0, hfr, hout, hcl, hcd, delA_none, a1, a1_n, a1_d, a1_m, a2, a2_n, a2_d, a2_m]) (by simp (maxSteps := 4000000) [hd0, hfr, hout, hcl, hcd, delA_none, a1, a1_n, a1_d, a1_m, a2, a2_n, a2_d, a2_m])).useCK ?_
  simp (maxSteps := 4000000) [hd0, hfr, hout, hcl, hcd, delA_none, a1, a1_n, a1_d, a1_m, a2, a2_n, a2_d, a2_m, DEngine.enc]
  refine DrawK.intro 5 [2, 15] rfl (by kernel_rfl) (by decide) ?_
  simp (maxSteps := 4000000) [hd0, hfr, hout, hcl, hcd, delA_none, a1, a1_n, a1_d, a1_m, a2, a2_n, a2_d, a2_m]
  refine ⟨_, hv1 _ _ _ _ _ (by simp (maxSteps := 4000000) [hd0, hfr, hout, hcl, hcd, delA_none, a1, a1_n, a1_d, a1_m, a2, a2_n, a2_d, a2_m]; exact ⟨rfl, rfl, rfl⟩) (by simp (maxSteps := 4000000) [hd0, hfr, hout, hcl, hcd, delA_none, a1, a1_n, a1_d, a1_m, a2, a2_n, a2_d, a2_m]), ?_⟩
  simp (maxSteps := 4000000) [hd0, hfr, hout, hcl, hcd, delA_none, a1, a1_n, a1_d, a1_m, a2, a2_n, a2_d, a2_m]
  refine ⟨_, hv2 _ _ _ _ _ (by simp (maxSteps := 4000000) [hd0, hfr, hout, hcl, hcd, delA_none, a1, a1_n, a1_d, a1_m, a2, a2_n, a2_d, a2_m]; exact ⟨rfl, rfl, rfl⟩), ?_⟩
  simp (maxSteps := 4000000) [hd0, hfr, hout, hcl, hcd, delA_none, a1, a1_n, a1_d, a1_m, a2, a2_n, a2_d, a2_m, w3]
  rfl
theorem purgR_le {x : DEngine} (h : x.le 1048576) : (purgR x).le 1048576 := by
  unfold purgR
  split
  · exact badE_le
  · exact purgeF_le h
end Go.Proofs.YtnlbjfdmjlnlgaaGreat

namespace Go.Proofs.YtnlbjfdmjlnlgaaGreat
open Go Go.Px Go.RowKit Go.Proofs
set_option linter.unnecessarySimpa false
set_option linter.unusedVariables false
set_option linter.unusedSimpArgs false
set_option maxRecDepth 100000
set_option maxHeartbeats 1000000
attribute [-simp] Int.not_le Int.not_lt
theorem laws_FnExactPurgeEngine (H : HH) {r0_2 q0_2} {r0_3 q0_3} {x0 : DEngine} (w0 : x0.wf) (hm0 : x0.le 9223372036854775807)
    (a0_2 : arrAt H r0_2 q0_2 = some (5, x0.txns.map DTxn.enc)) (a0_3 : arrAt H r0_3 q0_3 = some (2, x0.rows.map DRow.enc)) :
    PFun Tryz.prog 5 [.a [.v (.int .i64 x0.next), .v (.int .i64 x0.clock), .sl r0_2 q0_2 5 0 x0.txns.length, .sl r0_3 q0_3 2 0 x0.rows.length]] H (B true) := by
  refine PFun.of [1, 2, 3, 4, 5, 6, 7, 8, 9, 10, 15, 26, 31, 42, 50, 53, 60, 65, 68] Tryz.func5 rfl (by simp [Tryz.f5]) ?_
  intro d hd0 hfr hcl hout
  have hcd : ∀ n q, CleanH (hit [((d, n), q)]) H := fun n q => hcl.at
  have a0_2_n : ∀ n, ¬ (d, n) = r0_2 := fun n => nm_ne (ne_of_arr hfr a0_2)
  have a0_2_d : ¬ r0_2.1 = d := ne_of_arr hfr a0_2
  have a0_2_m : ∀ n, ¬ r0_2 = (d, n) := fun n => nm_ne' (ne_of_arr hfr a0_2)
  have a0_3_n : ∀ n, ¬ (d, n) = r0_3 := fun n => nm_ne (ne_of_arr hfr a0_3)
  have a0_3_d : ¬ r0_3.1 = d := ne_of_arr hfr a0_3
  have a0_3_m : ∀ n, ¬ r0_3 = (d, n) := fun n => nm_ne' (ne_of_arr hfr a0_3)
  simp (maxSteps := 4000000) [hd0, hfr, hout, hcl, hcd, delA_none, a0_2, a0_2_n, a0_2_d, a0_2_m, a0_3, a0_3_n, a0_3_d, a0_3_m, Tryz.f5]
  have hok0 := DEngine.ok.2 hm0
  refine (laws_szEngine _ (row := x0.enc) hok0 (by simp only [DEngine.enc, Refs_v, Refs_own, Refs_nil, List.length_map]; exact ⟨_, rfl, ⟨_, rfl, ⟨_, _, _, rfl, by simp (maxSteps := 4000000) [hd0, hfr, hout, hcl, hcd, delA_none, a0_2, a0_2_n, a0_2_d, a0_2_m, a0_3, a0_3_n, a0_3_d, a0_3_m], ⟨_, _, _, rfl, by simp (maxSteps := 4000000) [hd0, hfr, hout, hcl, hcd, delA_none, a0_2, a0_2_n, a0_2_d, a0_2_m, a0_3, a0_3_n, a0_3_d, a0_3_m], rfl⟩⟩⟩⟩) (by omega) (by omega)).useCK ?_
  by_cases s0 : (cntR x0.enc : Int) ≤ 1048576
  case neg => rw [szV_neg s0]; simp (maxSteps := 4000000) [hd0, hfr, hout, hcl, hcd, delA_none, a0_2, a0_2_n, a0_2_d, a0_2_m, a0_3, a0_3_n, a0_3_d, a0_3_m]
  rw [szV_pos s0]
  obtain ⟨L1, hL1⟩ : ∃ L : Int, L = 1048576 - (cntR x0.enc : Int) := ⟨_, rfl⟩
  rw [← hL1]
  simp (maxSteps := 4000000) [hd0, hfr, hout, hcl, hcd, delA_none, a0_2, a0_2_n, a0_2_d, a0_2_m, a0_3, a0_3_n, a0_3_d, a0_3_m, show ¬ (L1 < 0) by omega]
  have hok02 : okEngine 1048576 x0.enc := okEngine_le hok0 (by omega)
  have hl0 : x0.le 1048576 := DEngine.ok.1 hok02
  have hT0 : ∀ H {r0_2 q0_2} {r0_3 q0_3}, arrAt H r0_2 q0_2 = some (5, x0.txns.map DTxn.enc) → arrAt H r0_3 q0_3 = some (2, x0.rows.map DRow.enc) → PFun Tryz.prog 14 [.a [.v (.int .i64 x0.next), .v (.int .i64 x0.clock), .sl r0_2 q0_2 5 0 x0.txns.length, .sl r0_3 q0_3 2 0 x0.rows.length]] H (.a [.v (.int .i64 x0.next), .v (.int .i64 x0.clock), .own 5 (x0.txns.map DTxn.enc), .own 2 (x0.rows.map DRow.enc)]) := fun H r0_2 q0_2 r0_3 q0_3 h0 h1 =>
    laws_toEngine H (row := x0.enc) hok02 (by simp only [DEngine.enc, Refs_v, Refs_own, Refs_nil, List.length_map]; exact ⟨_, rfl, ⟨_, rfl, ⟨_, _, _, rfl, h0, ⟨_, _, _, rfl, h1, rfl⟩⟩⟩⟩)
  obtain ⟨y, hy⟩ : ∃ y, y = purgR x0 := ⟨_, rfl⟩
  have hyl : y.le 1048576 := by rw [hy]; exact purgR_le hl0
  have hSr : ∀ H {r0_2 q0_2} {r0_3 q0_3}, arrAt H r0_2 q0_2 = some (5, x0.txns.map DTxn.enc) → arrAt H r0_3 q0_3 = some (2, x0.rows.map DRow.enc) → PFun Tryz.prog 23 [.a [.v (.int .i64 x0.next), .v (.int .i64 x0.clock), .sl r0_2 q0_2 5 0 x0.txns.length, .sl r0_3 q0_3 2 0 x0.rows.length]] H (.a y.enc) := fun H r0_2 q0_2 r0_3 q0_3 h0 h1 => by rw [hy]; exact spec_PurgeEngine _ hl0 h0 h1
  have hIr : ∀ H {r0_2 q0_2} {r0_3 q0_3}, arrAt H r0_2 q0_2 = some (5, x0.txns.map DTxn.enc) → arrAt H r0_3 q0_3 = some (2, x0.rows.map DRow.enc) → PFun Tryz.prog 24 [.a [.v (.int .i64 x0.next), .v (.int .i64 x0.clock), .sl r0_2 q0_2 5 0 x0.txns.length, .sl r0_3 q0_3 2 0 x0.rows.length]] H (.a y.enc) := fun H r0_2 q0_2 r0_3 q0_3 h0 h1 => by rw [hy]; exact impl_PurgeEngine _ hl0 h0 h1
  have hS : ∀ H, PFun Tryz.prog 23 [.a [.v (.int .i64 x0.next), .v (.int .i64 x0.clock), .own 5 (x0.txns.map DTxn.enc), .own 2 (x0.rows.map DRow.enc)]] H (.a y.enc) := fun H => PFun.root rfl (fun d => y.pure _) (fun d hd hf => by simpa using hSr _ (r0_2 := (d, 2)) (q0_2 := []) (r0_3 := (d, 3)) (q0_3 := []) (by simp) (by simp))
  have hI : ∀ H, PFun Tryz.prog 24 [.a [.v (.int .i64 x0.next), .v (.int .i64 x0.clock), .own 5 (x0.txns.map DTxn.enc), .own 2 (x0.rows.map DRow.enc)]] H (.a y.enc) := fun H => PFun.root rfl (fun d => y.pure _) (fun d hd hf => by simpa using hIr _ (r0_2 := (d, 2)) (q0_2 := []) (r0_3 := (d, 3)) (q0_3 := []) (by simp) (by simp))
  clear hy
  have hyok : okEngineResult 1048576 y.enc := DEngineResult.ok.2 hyl
  have hylv := okEngineResult_lvsb hyok
  have hE : ∀ H {n m : Nat}, arrAt H (d, n) [] = some (6, [y.enc]) → arrAt H (d, m) [] = some (6, [y.enc]) → PFun Tryz.prog 16 [.a [.v (.int .i64 y.code), .v (.int .i64 y.value), .v (.int .i64 y.engine.next), .v (.int .i64 y.engine.clock), .sl (d, n) [(0, 4)] 5 0 y.engine.txns.length, .sl (d, n) [(0, 5)] 2 0 y.engine.rows.length], .a [.v (.int .i64 y.code), .v (.int .i64 y.value), .v (.int .i64 y.engine.next), .v (.int .i64 y.engine.clock), .sl (d, m) [(0, 4)] 5 0 y.engine.txns.length, .sl (d, m) [(0, 5)] 2 0 y.engine.rows.length]] H (B true) := fun H n m h1 h2 =>
    laws_eqEngineResult H (row := y.enc) hyok (by simp only [DEngineResult.enc, Refs_v, Refs_own, Refs_nil, List.length_map]; exact ⟨_, rfl, ⟨_, rfl, ⟨_, rfl, ⟨_, rfl, ⟨_, _, _, rfl, arrAt_sub h1 (i := 0) (f := 4) rfl rfl, ⟨_, _, _, rfl, arrAt_sub h1 (i := 0) (f := 5) rfl rfl, rfl⟩⟩⟩⟩⟩⟩) (by simp only [DEngineResult.enc, Refs_v, Refs_own, Refs_nil, List.length_map]; exact ⟨_, rfl, ⟨_, rfl, ⟨_, rfl, ⟨_, rfl, ⟨_, _, _, rfl, arrAt_sub h2 (i := 0) (f := 4) rfl rfl, ⟨_, _, _, rfl, arrAt_sub h2 (i := 0) (f := 5) rfl rfl, rfl⟩⟩⟩⟩⟩⟩)
  refine (hT0 _ (by simp (maxSteps := 4000000) [hd0, hfr, hout, hcl, hcd, delA_none, a0_2, a0_2_n, a0_2_d, a0_2_m, a0_3, a0_3_n, a0_3_d, a0_3_m]) (by simp (maxSteps := 4000000) [hd0, hfr, hout, hcl, hcd, delA_none, a0_2, a0_2_n, a0_2_d, a0_2_m, a0_3, a0_3_n, a0_3_d, a0_3_m])).useCK ?_
  simp (maxSteps := 4000000) [hd0, hfr, hout, hcl, hcd, delA_none, a0_2, a0_2_n, a0_2_d, a0_2_m, a0_3, a0_3_n, a0_3_d, a0_3_m]
  refine (hS _).useCK ?_
  simp (maxSteps := 4000000) [hd0, hfr, hout, hcl, hcd, delA_none, a0_2, a0_2_n, a0_2_d, a0_2_m, a0_3, a0_3_n, a0_3_d, a0_3_m, DEngineResult.enc]
  refine (hT0 _ (by simp (maxSteps := 4000000) [hd0, hfr, hout, hcl, hcd, delA_none, a0_2, a0_2_n, a0_2_d, a0_2_m, a0_3, a0_3_n, a0_3_d, a0_3_m]) (by simp (maxSteps := 4000000) [hd0, hfr, hout, hcl, hcd, delA_none, a0_2, a0_2_n, a0_2_d, a0_2_m, a0_3, a0_3_n, a0_3_d, a0_3_m])).useCK ?_
  simp (maxSteps := 4000000) [hd0, hfr, hout, hcl, hcd, delA_none, a0_2, a0_2_n, a0_2_d, a0_2_m, a0_3, a0_3_n, a0_3_d, a0_3_m]
  refine (hIr _ (by simp (maxSteps := 4000000) [hd0, hfr, hout, hcl, hcd, delA_none, a0_2, a0_2_n, a0_2_d, a0_2_m, a0_3, a0_3_n, a0_3_d, a0_3_m]) (by simp (maxSteps := 4000000) [hd0, hfr, hout, hcl, hcd, delA_none, a0_2, a0_2_n, a0_2_d, a0_2_m, a0_3, a0_3_n, a0_3_d, a0_3_m])).useCK ?_
  simp (maxSteps := 4000000) [hd0, hfr, hout, hcl, hcd, delA_none, a0_2, a0_2_n, a0_2_d, a0_2_m, a0_3, a0_3_n, a0_3_d, a0_3_m, DEngineResult.enc]
  refine (hE _ (by simp (maxSteps := 4000000) [hd0, hfr, hout, hcl, hcd, delA_none, a0_2, a0_2_n, a0_2_d, a0_2_m, a0_3, a0_3_n, a0_3_d, a0_3_m, DEngineResult.enc]) (by simp (maxSteps := 4000000) [hd0, hfr, hout, hcl, hcd, delA_none, a0_2, a0_2_n, a0_2_d, a0_2_m, a0_3, a0_3_n, a0_3_d, a0_3_m, DEngineResult.enc])).useCK ?_
  simp (maxSteps := 4000000) [hd0, hfr, hout, hcl, hcd, delA_none, a0_2, a0_2_n, a0_2_d, a0_2_m, a0_3, a0_3_n, a0_3_d, a0_3_m]
  refine DrawK.intro 5 [1, 4, 5, 6, 31] rfl (by kernel_rfl) (by decide) ?_
  simp (maxSteps := 4000000) [hd0, hfr, hout, hcl, hcd, delA_none, a0_2, a0_2_n, a0_2_d, a0_2_m, a0_3, a0_3_n, a0_3_d, a0_3_m]
  refine ⟨_, hT0 _ (by simp (maxSteps := 4000000) [hd0, hfr, hout, hcl, hcd, delA_none, a0_2, a0_2_n, a0_2_d, a0_2_m, a0_3, a0_3_n, a0_3_d, a0_3_m]) (by simp (maxSteps := 4000000) [hd0, hfr, hout, hcl, hcd, delA_none, a0_2, a0_2_n, a0_2_d, a0_2_m, a0_3, a0_3_n, a0_3_d, a0_3_m]), ?_⟩
  simp (maxSteps := 4000000) [hd0, hfr, hout, hcl, hcd, delA_none, a0_2, a0_2_n, a0_2_d, a0_2_m, a0_3, a0_3_n, a0_3_d, a0_3_m]
  repeat (first | (refine And.intro (by kernel_rfl) ?_) | (refine And.intro (by omega) ?_))
  have hEx0 : ∀ H, arrAt H (d, 5) [] = some (4, [x0.enc]) → PFun Tryz.prog 17 [.a [.v (.int .i64 x0.next), .v (.int .i64 x0.clock), .sl (d, 5) [(0, 2)] 5 0 x0.txns.length, .sl (d, 5) [(0, 3)] 2 0 x0.rows.length], .a [.v (.int .i64 x0.next), .v (.int .i64 x0.clock), .own 5 (x0.txns.map DTxn.enc), .own 2 (x0.rows.map DRow.enc)]] H (B true) := fun H h => by
    refine PFun.root rfl (fun d => by simp) (fun d2 hd hf => ?_)
    have n1 : ∀ n, ¬ (d2, n) = (d, 5) := fun n => nm_ne (ne_of_arr hf h)
    have := laws_eqEngine (((d2, 6), .own 5 (x0.txns.map DTxn.enc)) :: ((d2, 7), .own 2 (x0.rows.map DRow.enc)) :: H) (row := x0.enc) (cs := [.v (.int .i64 x0.next), .v (.int .i64 x0.clock), .sl (d, 5) [(0, 2)] 5 0 x0.txns.length, .sl (d, 5) [(0, 3)] 2 0 x0.rows.length]) (cs' := [.v (.int .i64 x0.next), .v (.int .i64 x0.clock), .sl (d2, 6) [] 5 0 x0.txns.length, .sl (d2, 7) [] 2 0 x0.rows.length]) hok02 (by simp only [DEngine.enc, Refs_v, Refs_own, Refs_nil, List.length_map]; exact ⟨_, rfl, ⟨_, rfl, ⟨_, _, _, rfl, (by simp only [arrAt_cons, n1, if_false]; exact arrAt_sub h (i := 0) (f := 2) rfl rfl), ⟨_, _, _, rfl, (by simp only [arrAt_cons, n1, if_false]; exact arrAt_sub h (i := 0) (f := 3) rfl rfl), rfl⟩⟩⟩⟩) (by simp only [DEngine.enc, Refs_v, Refs_own, Refs_nil, List.length_map]; exact ⟨_, rfl, ⟨_, rfl, ⟨_, _, _, rfl, by simp, ⟨_, _, _, rfl, by simp, rfl⟩⟩⟩⟩)
    simpa using this
  refine ⟨_, hEx0 _ (by simp (maxSteps := 4000000) [hd0, hfr, hout, hcl, hcd, delA_none, a0_2, a0_2_n, a0_2_d, a0_2_m, a0_3, a0_3_n, a0_3_d, a0_3_m, DEngine.enc]), ?_⟩
  simp (maxSteps := 4000000) [hd0, hfr, hout, hcl, hcd, delA_none, a0_2, a0_2_n, a0_2_d, a0_2_m, a0_3, a0_3_n, a0_3_d, a0_3_m]
  have hlv0 := okEngine_lvsb hok02
  have hM0 : ∀ H, arrAt H (d, 5) [] = some (4, [x0.enc]) → PUpd Tryz.prog 18 [.a [.v (.int .i64 x0.next), .v (.int .i64 x0.clock), .sl (d, 5) [(0, 2)] 5 0 x0.txns.length, .sl (d, 5) [(0, 3)] 2 0 x0.rows.length], I (1)] H (I (1 + lvS x0.enc)) (setA H (d, 5) [] (.own 4 [mkS (1) x0.enc])) := fun H h => by
    have := laws_markEngine H (r := (d, 5)) (q := []) (z := 4) (i := 0) (f := 0) (rows := [x0.enc]) (pre := []) (seg := x0.enc) (post := []) (k := 1) hok02 (by omega) (by omega) h hd0 (by simp) rfl
    simpa [ldcs, ldc, DEngine.enc] using this
  have hmx0 : mkS (1) x0.enc = [.v (.int .i64 x0.next), .v (.int .i64 x0.clock), .own 5 (mkRs (1) (x0.txns.map DTxn.enc)), .own 2 (mkRs (1 + lvRs (x0.txns.map DTxn.enc)) (x0.rows.map DRow.enc))] := by simp [DEngine.enc, mkS]
  refine (hM0 _ (by simp (maxSteps := 4000000) [hd0, hfr, hout, hcl, hcd, delA_none, a0_2, a0_2_n, a0_2_d, a0_2_m, a0_3, a0_3_n, a0_3_d, a0_3_m, DEngine.enc])).useCK ?_
  simp (maxSteps := 4000000) [hd0, hfr, hout, hcl, hcd, delA_none, a0_2, a0_2_n, a0_2_d, a0_2_m, a0_3, a0_3_n, a0_3_d, a0_3_m, hmx0, show ¬ (1 + (lvS x0.enc : Int) < 0) by omega]
  refine (hE _ (by simp (maxSteps := 4000000) [hd0, hfr, hout, hcl, hcd, delA_none, a0_2, a0_2_n, a0_2_d, a0_2_m, a0_3, a0_3_n, a0_3_d, a0_3_m, DEngineResult.enc]) (by simp (maxSteps := 4000000) [hd0, hfr, hout, hcl, hcd, delA_none, a0_2, a0_2_n, a0_2_d, a0_2_m, a0_3, a0_3_n, a0_3_d, a0_3_m, DEngineResult.enc])).useCK ?_
  simp (maxSteps := 4000000) [hd0, hfr, hout, hcl, hcd, delA_none, a0_2, a0_2_n, a0_2_d, a0_2_m, a0_3, a0_3_n, a0_3_d, a0_3_m]
  have hMR : ∀ H, arrAt H (d, 6) [] = some (6, [y.enc]) → PUpd Tryz.prog 19 [.a [.v (.int .i64 y.code), .v (.int .i64 y.value), .v (.int .i64 y.engine.next), .v (.int .i64 y.engine.clock), .sl (d, 6) [(0, 4)] 5 0 y.engine.txns.length, .sl (d, 6) [(0, 5)] 2 0 y.engine.rows.length], I 1] H (I (1 + lvS y.enc)) (setA H (d, 6) [] (.own 6 [mkS 1 y.enc])) := fun H h => by
    have := laws_markEngineResult H (r := (d, 6)) (q := []) (z := 6) (i := 0) (f := 0) (rows := [y.enc]) (pre := []) (seg := y.enc) (post := []) (k := 1) hyok (by omega) (by omega) h hd0 (by simp) rfl
    simpa [ldcs, ldc, DEngineResult.enc] using this
  have hmy : mkS 1 y.enc = [.v (.int .i64 y.code), .v (.int .i64 y.value), .v (.int .i64 y.engine.next), .v (.int .i64 y.engine.clock), .own 5 (mkRs (1) (y.engine.txns.map DTxn.enc)), .own 2 (mkRs (1 + lvRs (y.engine.txns.map DTxn.enc)) (y.engine.rows.map DRow.enc))] := by simp [DEngineResult.enc, mkS]
  refine (hMR _ (by simp (maxSteps := 4000000) [hd0, hfr, hout, hcl, hcd, delA_none, a0_2, a0_2_n, a0_2_d, a0_2_m, a0_3, a0_3_n, a0_3_d, a0_3_m, DEngineResult.enc])).useCK ?_
  simp (maxSteps := 4000000) [hd0, hfr, hout, hcl, hcd, delA_none, a0_2, a0_2_n, a0_2_d, a0_2_m, a0_3, a0_3_n, a0_3_d, a0_3_m, hmy, mkRs_length]
  have hH : ∀ H, arrAt H (d, 6) [] = some (6, [mkS 1 y.enc]) → PFun Tryz.prog 20 [.a [.v (.int .i64 y.code), .v (.int .i64 y.value), .v (.int .i64 y.engine.next), .v (.int .i64 y.engine.clock), .sl (d, 6) [(0, 4)] 5 0 y.engine.txns.length, .sl (d, 6) [(0, 5)] 2 0 y.engine.rows.length], I 1] H (I (1 + lvS y.enc)) := fun H h =>
    laws_heldEngineResult H (row := y.enc) hyok (by omega) (by omega) (by rw [hmy] at h ⊢; simp only [Refs_v, Refs_own, Refs_nil, List.length_map, mkRs_length]; exact ⟨_, rfl, ⟨_, rfl, ⟨_, rfl, ⟨_, rfl, ⟨_, _, _, rfl, arrAt_sub h (i := 0) (f := 4) rfl rfl, ⟨_, _, _, rfl, arrAt_sub h (i := 0) (f := 5) rfl rfl, rfl⟩⟩⟩⟩⟩⟩)
  refine (hH _ (by simp (maxSteps := 4000000) [hd0, hfr, hout, hcl, hcd, delA_none, a0_2, a0_2_n, a0_2_d, a0_2_m, a0_3, a0_3_n, a0_3_d, a0_3_m, hmy])).useCK ?_
  simp (maxSteps := 4000000) [hd0, hfr, hout, hcl, hcd, delA_none, a0_2, a0_2_n, a0_2_d, a0_2_m, a0_3, a0_3_n, a0_3_d, a0_3_m, hmy, mkRs_length, show ¬ (1 + (lvS y.enc : Int) < 0) by omega]
  refine (hT0 _ (by simp (maxSteps := 4000000) [hd0, hfr, hout, hcl, hcd, delA_none, a0_2, a0_2_n, a0_2_d, a0_2_m, a0_3, a0_3_n, a0_3_d, a0_3_m]) (by simp (maxSteps := 4000000) [hd0, hfr, hout, hcl, hcd, delA_none, a0_2, a0_2_n, a0_2_d, a0_2_m, a0_3, a0_3_n, a0_3_d, a0_3_m])).useCK ?_
  simp (maxSteps := 4000000) [hd0, hfr, hout, hcl, hcd, delA_none, a0_2, a0_2_n, a0_2_d, a0_2_m, a0_3, a0_3_n, a0_3_d, a0_3_m, hmy, mkRs_length]
  refine (hI _).useCK ?_
  simp (maxSteps := 4000000) [hd0, hfr, hout, hcl, hcd, delA_none, a0_2, a0_2_n, a0_2_d, a0_2_m, a0_3, a0_3_n, a0_3_d, a0_3_m, hmy, mkRs_length, DEngineResult.enc]
  refine (hE _ (by simp (maxSteps := 4000000) [hd0, hfr, hout, hcl, hcd, delA_none, a0_2, a0_2_n, a0_2_d, a0_2_m, a0_3, a0_3_n, a0_3_d, a0_3_m, DEngineResult.enc]) (by simp (maxSteps := 4000000) [hd0, hfr, hout, hcl, hcd, delA_none, a0_2, a0_2_n, a0_2_d, a0_2_m, a0_3, a0_3_n, a0_3_d, a0_3_m, DEngineResult.enc])).useCK ?_
  simp (maxSteps := 4000000) [hd0, hfr, hout, hcl, hcd, delA_none, a0_2, a0_2_n, a0_2_d, a0_2_m, a0_3, a0_3_n, a0_3_d, a0_3_m, hmy, mkRs_length, mkRs_length]
  refine (hH _ (by simp (maxSteps := 4000000) [hd0, hfr, hout, hcl, hcd, delA_none, a0_2, a0_2_n, a0_2_d, a0_2_m, a0_3, a0_3_n, a0_3_d, a0_3_m, hmy])).useCK ?_
  simp (maxSteps := 4000000) [hd0, hfr, hout, hcl, hcd, delA_none, a0_2, a0_2_n, a0_2_d, a0_2_m, a0_3, a0_3_n, a0_3_d, a0_3_m, hmy, mkRs_length, show ¬ (1 + (lvS y.enc : Int) < 0) by omega]
  try simp [DEngineResult.enc]
end Go.Proofs.YtnlbjfdmjlnlgaaGreat

namespace Go.Px
set_option linter.unusedSimpArgs false
open Go.RowKit Go.Deep
set_option linter.unusedVariables false
/-- Values that are read as cells, whatever references mean. -/
def In (w : World) (L : List Cell) (V : List Value) : Prop := ∃ F, (∀ R, VRep R w L V F) ∧ ∀ b ∈ F, b < w.heap.size
theorem In.nil {w} : In w [] [] := ⟨[], fun _ => .nil, by simp⟩
theorem In.append {w L V L' V'} (h : In w L V) (h' : In w L' V') : In w (L ++ L') (V ++ V') := by
  obtain ⟨F, h1, h2⟩ := h
  obtain ⟨F', h3, h4⟩ := h'
  exact ⟨F ++ F', fun R => (h1 R).append (h3 R), fun b hb => (List.mem_append.1 hb).elim (h2 b) (h4 b)⟩
theorem In.length {w L V} (h : In w L V) : V.length = L.length := by
  obtain ⟨F, h1, _⟩ := h
  exact (h1 fun _ _ => True).length
theorem look_roots {l : List Cell} : ∀ {k j : Nat} {z els}, l[j]? = some (.own z els) → look (roots k l) (0, k + j) = some (.own z els) := by
  induction l with
  | nil => intro k j z els h; simp at h
  | cons c t ih =>
    intro k j z els h
    cases j with
    | zero => simp at h; subst h; simp [roots, look]
    | succ j =>
      have := ih (k := k + 1) (j := j) (by simpa using h)
      rw [show k + 1 + j = k + (j + 1) by omega] at this
      cases c with
      | own z' els' =>
        simp only [roots, look]
        rw [if_neg (fun e => by have := congrArg Prod.snd e; simp at this)]
        exact this
      | _ => simpa [roots] using this
/-- What came in, as named objects; and the references of each argument. -/
theorem In.open {w : World} {L : List Cell} {V : List Value} (h : In w L V) : ∃ β : Nm → Value, Holds w.heap.size (VP w β (roots 0 L)) w β (roots 0 L) [] ∧
    ∀ L0 L1 L2 V0 V1 V2, L = L0 ++ L1 ++ L2 → V = V0 ++ V1 ++ V2 → In w L0 V0 → In w L1 V1 → noRef L1 = true → VRep (VP w β (roots 0 L)) w (refs L0.length L1) V1 [] := by
  have hlen := h.length
  obtain ⟨F, h1, h2⟩ := h
  refine ⟨fun r => V.getD r.2 undef, roots_holds (h1 _) h2 (fun j v hj => ?_), fun L0 L1 L2 V0 V1 V2 hL hV i0 i1 hn => ?_⟩
  · show V.getD (0 + j) undef = v
    rw [Nat.zero_add, List.getD_eq_getElem?_getD, hj]; rfl
  · have l0 := i0.length
    have l1 := i1.length
    obtain ⟨F1, k1, k2⟩ := i1
    refine refs_rep (R := fun _ _ => True) (R' := fun _ _ => True) hn (k1 _) (fun j v hj => ?_) (fun j z els hj => ?_)
    · show V.getD (L0.length + j) undef = v
      have hlt := (List.getElem?_eq_some_iff.1 hj).1
      rw [List.getD_eq_getElem?_getD, hV, List.append_assoc, List.getElem?_append_right (by omega), List.getElem?_append_left (by omega), ← l0, Nat.add_sub_cancel_left, hj]; rfl
    · have hlt := (List.getElem?_eq_some_iff.1 hj).1
      have : L[L0.length + j]? = some (.own z els) := by
        rw [hL, List.append_assoc, List.getElem?_append_right (by omega), List.getElem?_append_left (by omega), Nat.add_sub_cancel_left, hj]
      have := look_roots (k := 0) this
      rwa [Nat.zero_add] at this
theorem Px.Op.in_ {α : Type} {P : Program} {t : TypeId} {n : Nat} {enc : α → List Cell} {q : α → Prop} (h : Px.Op P t n enc q) {H : Type} {e : TypeId × Value → H} {w : World} {base : Nat} {held : Bool} {fuel : Nat} {cs : List Value} {x : DataW H × List MemPlace}
    (hx : DataW.trod e P w base (fun _ => true) held fuel t cs = some x) (hz : w.noneFrozen x.2) : ∃ v : α, In w (enc v) cs ∧ q v := by
  obtain ⟨v, F, h1, h2, h3, h4⟩ := h H e w base held fuel cs x hx hz
  exact ⟨v, ⟨F, h1, h3⟩, h4⟩
theorem VRep.single {R w c v F} (h : VRep R w [c] [v] F) : Rep R w c v F := by
  cases h with | cons a b => cases b; simpa using a
end Go.Px
