/- The machine's side of one law: functions as plain Lean functions, and that the calls do what these say. Written by a program of this session; no condition beyond those that each theorem names. -/
import Derived.Test.YtkabmhjnhcfkcaaXFnExactSerialOrderx0
import Derived.Test.YtkabmhjnhcfkcaaXFnExactSerialOrderx5
import Derived.Test.YtkabmhjnhcfkcaaXFnExactSerialOrderx6
namespace Go.Proofs.Ytkabmhjnhcfkcaa.XFnExactSerialOrder
open Go.RowKit Go.Proofs.YtkabmhjnhcfkcaaW.PrintWords Go.Proofs.YtkabmhjnhcfkcaaW.PrintLast Go.Proofs.YtkabmhjnhcfkcaaW.PrintMore
attribute [local go_sem] max2_int min2_int max_two min_two max_three min_three max_four min_four   -- for this text's walks alone
set_option linter.unusedVariables false
set_option linter.unusedSimpArgs false

/-! ### spec_l11Edges: function 29 -/
mutual
def spec_l11Edges.l0 : Nat → List (S48) → List (S45) → List Int → Int → Option ((List (S45)))
  | 0, _, _, _, _ => none
  | k + 1, x0, x3, x4, x5 => if x5 ≤ 31 then ((spec_l10Writers.f k x0 x5).bind fun t190 => (spec_l11Edges.l1 k x0 x3 x4 x5 t190 1)) else (some x3)
def spec_l11Edges.l1 : Nat → List (S48) → List (S45) → List Int → Int → List Int → Int → Option ((List (S45)))
  | 0, _, _, _, _, _, _ => none
  | k + 1, x0, x3, x4, x5, x6, x7 => if x7 < (x6.length : Int) then (if 0 ≤ (wrap64 (x7 - 1)) then (if (wrap64 (x7 - 1)) < (x6.length : Int) then (if 0 ≤ x7 then ((spec_l11Add.f k x3 (rd x6 (wrap64 (x7 - 1))) (rd x6 x7) 1).bind fun t195 => (spec_l11Edges.l1 k x0 t195 x4 x5 x6 (wrap64 (x7 + 1)))) else (none)) else (none)) else (none)) else (spec_l11Edges.l2 k x0 x3 x4 x5 x6 0)
def spec_l11Edges.l2 : Nat → List (S48) → List (S45) → List Int → Int → List Int → Int → Option ((List (S45)))
  | 0, _, _, _, _, _, _ => none
  | k + 1, x0, x3, x4, x5, x6, x8 => if x8 < (x0.length : Int) then (if 0 ≤ x8 then (if ((rd_T48 x0 x8).f0) = 2 then (if ((rd_T48 x0 x8).f2) = x5 then ((spec_l1Has.f k x4 ((rd_T48 x0 x8).f1)).bind fun t200 => (spec_l11Edges.j3 k x0 x3 x4 x5 x6 x8 (!t200) ((rd_T48 x0 x8).f0) ((rd_T48 x0 x8).f1) ((rd_T48 x0 x8).f2) ((rd_T48 x0 x8).f3))) else (spec_l11Edges.j3 k x0 x3 x4 x5 x6 x8 true ((rd_T48 x0 x8).f0) ((rd_T48 x0 x8).f1) ((rd_T48 x0 x8).f2) ((rd_T48 x0 x8).f3))) else (spec_l11Edges.j3 k x0 x3 x4 x5 x6 x8 true ((rd_T48 x0 x8).f0) ((rd_T48 x0 x8).f1) ((rd_T48 x0 x8).f2) ((rd_T48 x0 x8).f3))) else (none)) else (spec_l11Edges.l0 k x0 x3 x4 (wrap64 (x5 + 1)))
def spec_l11Edges.j3 : Nat → List (S48) → List (S45) → List Int → Int → List Int → Int → Bool → Int → Int → Int → Int → Option ((List (S45)))
  | 0, _, _, _, _, _, _, _, _, _, _, _ => none
  | k + 1, x0, x3, x4, x5, x6, x8, x64, x200000, x200001, x200002, x200003 => if x64 = true then (spec_l11Edges.l2 k x0 x3 x4 x5 x6 (wrap64 (x8 + 1))) else (if x200003 = x200001 then (spec_l11Edges.j4 k x0 x3 x4 x5 x6 x8 false x200000 x200001 x200002 x200003) else ((spec_l1Has.f k x4 x200003).bind fun t201 => (spec_l11Edges.j4 k x0 x3 x4 x5 x6 x8 t201 x200000 x200001 x200002 x200003)))
def spec_l11Edges.j4 : Nat → List (S48) → List (S45) → List Int → Int → List Int → Int → Bool → Int → Int → Int → Int → Option ((List (S45)))
  | 0, _, _, _, _, _, _, _, _, _, _, _ => none
  | k + 1, x0, x3, x4, x5, x6, x8, x75, x200000, x200001, x200002, x200003 => if x75 = true then ((spec_l11Add.f k x3 x200003 x200001 2).bind fun t202 => (spec_l11Edges.j5 k x0 t202 x4 x5 x6 x8 x200000 x200001 x200002 x200003)) else (spec_l11Edges.j5 k x0 x3 x4 x5 x6 x8 x200000 x200001 x200002 x200003)
def spec_l11Edges.j5 : Nat → List (S48) → List (S45) → List Int → Int → List Int → Int → Int → Int → Int → Int → Option ((List (S45)))
  | 0, _, _, _, _, _, _, _, _, _, _ => none
  | k + 1, x0, x3, x4, x5, x6, x8, x200000, x200001, x200002, x200003 => (spec_l11Next.f k x6 x200003).bind fun t205 => (if t205 = 0 then (spec_l11Edges.l2 k x0 x3 x4 x5 x6 (wrap64 (x8 + 1))) else (if t205 = x200001 then (spec_l11Edges.l2 k x0 x3 x4 x5 x6 (wrap64 (x8 + 1))) else ((spec_l11Add.f k x3 x200001 t205 4).bind fun t206 => (spec_l11Edges.l2 k x0 t206 x4 x5 x6 (wrap64 (x8 + 1))))))
end
def spec_l11Edges.f (k : Nat) (l0 : List (S48)) : Option ((List (S45))) := (spec_l10Committed.f k l0).bind fun t187 => (spec_l11Edges.l0 k l0 (([] : List (S45))) t187 0)
theorem spec_l11Edges.mono_l : ∀ k, (∀ y0 y1 y2 y3, LeO (spec_l11Edges.l0 k y0 y1 y2 y3) (spec_l11Edges.l0 (k + 1) y0 y1 y2 y3)) ∧ (∀ y0 y1 y2 y3 y4 y5, LeO (spec_l11Edges.l1 k y0 y1 y2 y3 y4 y5) (spec_l11Edges.l1 (k + 1) y0 y1 y2 y3 y4 y5)) ∧ (∀ y0 y1 y2 y3 y4 y5, LeO (spec_l11Edges.l2 k y0 y1 y2 y3 y4 y5) (spec_l11Edges.l2 (k + 1) y0 y1 y2 y3 y4 y5)) ∧ (∀ y0 y1 y2 y3 y4 y5 y6 y7 y8 y9 y10, LeO (spec_l11Edges.j3 k y0 y1 y2 y3 y4 y5 y6 y7 y8 y9 y10) (spec_l11Edges.j3 (k + 1) y0 y1 y2 y3 y4 y5 y6 y7 y8 y9 y10)) ∧ (∀ y0 y1 y2 y3 y4 y5 y6 y7 y8 y9 y10, LeO (spec_l11Edges.j4 k y0 y1 y2 y3 y4 y5 y6 y7 y8 y9 y10) (spec_l11Edges.j4 (k + 1) y0 y1 y2 y3 y4 y5 y6 y7 y8 y9 y10)) ∧ (∀ y0 y1 y2 y3 y4 y5 y6 y7 y8 y9, LeO (spec_l11Edges.j5 k y0 y1 y2 y3 y4 y5 y6 y7 y8 y9) (spec_l11Edges.j5 (k + 1) y0 y1 y2 y3 y4 y5 y6 y7 y8 y9))
  | 0 => ⟨fun _ _ _ _ r h => by simp [spec_l11Edges.l0] at h, fun _ _ _ _ _ _ r h => by simp [spec_l11Edges.l1] at h, fun _ _ _ _ _ _ r h => by simp [spec_l11Edges.l2] at h, fun _ _ _ _ _ _ _ _ _ _ _ r h => by simp [spec_l11Edges.j3] at h, fun _ _ _ _ _ _ _ _ _ _ _ r h => by simp [spec_l11Edges.j4] at h, fun _ _ _ _ _ _ _ _ _ _ r h => by simp [spec_l11Edges.j5] at h⟩
  | k + 1 => by
    obtain ⟨ih0, ih1, ih2, ih3, ih4, ih5⟩ := spec_l11Edges.mono_l k
    refine ⟨?_, ?_, ?_, ?_, ?_, ?_⟩
    · intro y0 y1 y2 y3
      unfold spec_l11Edges.l0
      repeat' first
      | (with_reducible exact ih0 _ _ _ _)
      | (with_reducible exact ih1 _ _ _ _ _ _)
      | (with_reducible exact ih2 _ _ _ _ _ _)
      | (with_reducible exact ih3 _ _ _ _ _ _ _ _ _ _ _)
      | (with_reducible exact ih4 _ _ _ _ _ _ _ _ _ _ _)
      | (with_reducible exact ih5 _ _ _ _ _ _ _ _ _ _)
      | (with_reducible exact spec_l10Committed.mono _ _)
      | (with_reducible exact spec_l10Writers.mono _ _ _)
      | (with_reducible exact spec_l11Add.mono _ _ _ _ _)
      | (with_reducible exact spec_l11Next.mono _ _ _)
      | (with_reducible exact spec_l1Has.mono _ _ _)
      | (with_reducible exact LeO.refl _)
      | (with_reducible exact LeO.none _)
      | (with_reducible refine LeO.ite ?_ ?_)
      | (with_reducible refine LeO.bind ?_ (fun _ => ?_))
      | exact ih0 _ _ _ _
      | exact ih1 _ _ _ _ _ _
      | exact ih2 _ _ _ _ _ _
      | exact ih3 _ _ _ _ _ _ _ _ _ _ _
      | exact ih4 _ _ _ _ _ _ _ _ _ _ _
      | exact ih5 _ _ _ _ _ _ _ _ _ _
      | exact spec_l10Committed.mono _ _
      | exact spec_l10Writers.mono _ _ _
      | exact spec_l11Add.mono _ _ _ _ _
      | exact spec_l11Next.mono _ _ _
      | exact spec_l1Has.mono _ _ _
      | exact LeO.none _
      | refine LeO.ite ?_ ?_
      | refine LeO.bind ?_ (fun _ => ?_)
    · intro y0 y1 y2 y3 y4 y5
      unfold spec_l11Edges.l1
      repeat' first
      | (with_reducible exact ih0 _ _ _ _)
      | (with_reducible exact ih1 _ _ _ _ _ _)
      | (with_reducible exact ih2 _ _ _ _ _ _)
      | (with_reducible exact ih3 _ _ _ _ _ _ _ _ _ _ _)
      | (with_reducible exact ih4 _ _ _ _ _ _ _ _ _ _ _)
      | (with_reducible exact ih5 _ _ _ _ _ _ _ _ _ _)
      | (with_reducible exact spec_l10Committed.mono _ _)
      | (with_reducible exact spec_l10Writers.mono _ _ _)
      | (with_reducible exact spec_l11Add.mono _ _ _ _ _)
      | (with_reducible exact spec_l11Next.mono _ _ _)
      | (with_reducible exact spec_l1Has.mono _ _ _)
      | (with_reducible exact LeO.refl _)
      | (with_reducible exact LeO.none _)
      | (with_reducible refine LeO.ite ?_ ?_)
      | (with_reducible refine LeO.bind ?_ (fun _ => ?_))
      | exact ih0 _ _ _ _
      | exact ih1 _ _ _ _ _ _
      | exact ih2 _ _ _ _ _ _
      | exact ih3 _ _ _ _ _ _ _ _ _ _ _
      | exact ih4 _ _ _ _ _ _ _ _ _ _ _
      | exact ih5 _ _ _ _ _ _ _ _ _ _
      | exact spec_l10Committed.mono _ _
      | exact spec_l10Writers.mono _ _ _
      | exact spec_l11Add.mono _ _ _ _ _
      | exact spec_l11Next.mono _ _ _
      | exact spec_l1Has.mono _ _ _
      | exact LeO.none _
      | refine LeO.ite ?_ ?_
      | refine LeO.bind ?_ (fun _ => ?_)
    · intro y0 y1 y2 y3 y4 y5
      unfold spec_l11Edges.l2
      repeat' first
      | (with_reducible exact ih0 _ _ _ _)
      | (with_reducible exact ih1 _ _ _ _ _ _)
      | (with_reducible exact ih2 _ _ _ _ _ _)
      | (with_reducible exact ih3 _ _ _ _ _ _ _ _ _ _ _)
      | (with_reducible exact ih4 _ _ _ _ _ _ _ _ _ _ _)
      | (with_reducible exact ih5 _ _ _ _ _ _ _ _ _ _)
      | (with_reducible exact spec_l10Committed.mono _ _)
      | (with_reducible exact spec_l10Writers.mono _ _ _)
      | (with_reducible exact spec_l11Add.mono _ _ _ _ _)
      | (with_reducible exact spec_l11Next.mono _ _ _)
      | (with_reducible exact spec_l1Has.mono _ _ _)
      | (with_reducible exact LeO.refl _)
      | (with_reducible exact LeO.none _)
      | (with_reducible refine LeO.ite ?_ ?_)
      | (with_reducible refine LeO.bind ?_ (fun _ => ?_))
      | exact ih0 _ _ _ _
      | exact ih1 _ _ _ _ _ _
      | exact ih2 _ _ _ _ _ _
      | exact ih3 _ _ _ _ _ _ _ _ _ _ _
      | exact ih4 _ _ _ _ _ _ _ _ _ _ _
      | exact ih5 _ _ _ _ _ _ _ _ _ _
      | exact spec_l10Committed.mono _ _
      | exact spec_l10Writers.mono _ _ _
      | exact spec_l11Add.mono _ _ _ _ _
      | exact spec_l11Next.mono _ _ _
      | exact spec_l1Has.mono _ _ _
      | exact LeO.none _
      | refine LeO.ite ?_ ?_
      | refine LeO.bind ?_ (fun _ => ?_)
    · intro y0 y1 y2 y3 y4 y5 y6 y7 y8 y9 y10
      unfold spec_l11Edges.j3
      repeat' first
      | (with_reducible exact ih0 _ _ _ _)
      | (with_reducible exact ih1 _ _ _ _ _ _)
      | (with_reducible exact ih2 _ _ _ _ _ _)
      | (with_reducible exact ih3 _ _ _ _ _ _ _ _ _ _ _)
      | (with_reducible exact ih4 _ _ _ _ _ _ _ _ _ _ _)
      | (with_reducible exact ih5 _ _ _ _ _ _ _ _ _ _)
      | (with_reducible exact spec_l10Committed.mono _ _)
      | (with_reducible exact spec_l10Writers.mono _ _ _)
      | (with_reducible exact spec_l11Add.mono _ _ _ _ _)
      | (with_reducible exact spec_l11Next.mono _ _ _)
      | (with_reducible exact spec_l1Has.mono _ _ _)
      | (with_reducible exact LeO.refl _)
      | (with_reducible exact LeO.none _)
      | (with_reducible refine LeO.ite ?_ ?_)
      | (with_reducible refine LeO.bind ?_ (fun _ => ?_))
      | exact ih0 _ _ _ _
      | exact ih1 _ _ _ _ _ _
      | exact ih2 _ _ _ _ _ _
      | exact ih3 _ _ _ _ _ _ _ _ _ _ _
      | exact ih4 _ _ _ _ _ _ _ _ _ _ _
      | exact ih5 _ _ _ _ _ _ _ _ _ _
      | exact spec_l10Committed.mono _ _
      | exact spec_l10Writers.mono _ _ _
      | exact spec_l11Add.mono _ _ _ _ _
      | exact spec_l11Next.mono _ _ _
      | exact spec_l1Has.mono _ _ _
      | exact LeO.none _
      | refine LeO.ite ?_ ?_
      | refine LeO.bind ?_ (fun _ => ?_)
    · intro y0 y1 y2 y3 y4 y5 y6 y7 y8 y9 y10
      unfold spec_l11Edges.j4
      repeat' first
      | (with_reducible exact ih0 _ _ _ _)
      | (with_reducible exact ih1 _ _ _ _ _ _)
      | (with_reducible exact ih2 _ _ _ _ _ _)
      | (with_reducible exact ih3 _ _ _ _ _ _ _ _ _ _ _)
      | (with_reducible exact ih4 _ _ _ _ _ _ _ _ _ _ _)
      | (with_reducible exact ih5 _ _ _ _ _ _ _ _ _ _)
      | (with_reducible exact spec_l10Committed.mono _ _)
      | (with_reducible exact spec_l10Writers.mono _ _ _)
      | (with_reducible exact spec_l11Add.mono _ _ _ _ _)
      | (with_reducible exact spec_l11Next.mono _ _ _)
      | (with_reducible exact spec_l1Has.mono _ _ _)
      | (with_reducible exact LeO.refl _)
      | (with_reducible exact LeO.none _)
      | (with_reducible refine LeO.ite ?_ ?_)
      | (with_reducible refine LeO.bind ?_ (fun _ => ?_))
      | exact ih0 _ _ _ _
      | exact ih1 _ _ _ _ _ _
      | exact ih2 _ _ _ _ _ _
      | exact ih3 _ _ _ _ _ _ _ _ _ _ _
      | exact ih4 _ _ _ _ _ _ _ _ _ _ _
      | exact ih5 _ _ _ _ _ _ _ _ _ _
      | exact spec_l10Committed.mono _ _
      | exact spec_l10Writers.mono _ _ _
      | exact spec_l11Add.mono _ _ _ _ _
      | exact spec_l11Next.mono _ _ _
      | exact spec_l1Has.mono _ _ _
      | exact LeO.none _
      | refine LeO.ite ?_ ?_
      | refine LeO.bind ?_ (fun _ => ?_)
    · intro y0 y1 y2 y3 y4 y5 y6 y7 y8 y9
      unfold spec_l11Edges.j5
      repeat' first
      | (with_reducible exact ih0 _ _ _ _)
      | (with_reducible exact ih1 _ _ _ _ _ _)
      | (with_reducible exact ih2 _ _ _ _ _ _)
      | (with_reducible exact ih3 _ _ _ _ _ _ _ _ _ _ _)
      | (with_reducible exact ih4 _ _ _ _ _ _ _ _ _ _ _)
      | (with_reducible exact ih5 _ _ _ _ _ _ _ _ _ _)
      | (with_reducible exact spec_l10Committed.mono _ _)
      | (with_reducible exact spec_l10Writers.mono _ _ _)
      | (with_reducible exact spec_l11Add.mono _ _ _ _ _)
      | (with_reducible exact spec_l11Next.mono _ _ _)
      | (with_reducible exact spec_l1Has.mono _ _ _)
      | (with_reducible exact LeO.refl _)
      | (with_reducible exact LeO.none _)
      | (with_reducible refine LeO.ite ?_ ?_)
      | (with_reducible refine LeO.bind ?_ (fun _ => ?_))
      | exact ih0 _ _ _ _
      | exact ih1 _ _ _ _ _ _
      | exact ih2 _ _ _ _ _ _
      | exact ih3 _ _ _ _ _ _ _ _ _ _ _
      | exact ih4 _ _ _ _ _ _ _ _ _ _ _
      | exact ih5 _ _ _ _ _ _ _ _ _ _
      | exact spec_l10Committed.mono _ _
      | exact spec_l10Writers.mono _ _ _
      | exact spec_l11Add.mono _ _ _ _ _
      | exact spec_l11Next.mono _ _ _
      | exact spec_l1Has.mono _ _ _
      | exact LeO.none _
      | refine LeO.ite ?_ ?_
      | refine LeO.bind ?_ (fun _ => ?_)
theorem spec_l11Edges.mono : ∀ a0 k, LeO (spec_l11Edges.f k a0) (spec_l11Edges.f (k + 1) a0) := by
  intro a0 k
  obtain ⟨ih0, ih1, ih2, ih3, ih4, ih5⟩ := spec_l11Edges.mono_l k
  unfold spec_l11Edges.f
  repeat' first
      | (with_reducible exact ih0 _ _ _ _)
      | (with_reducible exact ih1 _ _ _ _ _ _)
      | (with_reducible exact ih2 _ _ _ _ _ _)
      | (with_reducible exact ih3 _ _ _ _ _ _ _ _ _ _ _)
      | (with_reducible exact ih4 _ _ _ _ _ _ _ _ _ _ _)
      | (with_reducible exact ih5 _ _ _ _ _ _ _ _ _ _)
      | (with_reducible exact spec_l10Committed.mono _ _)
      | (with_reducible exact spec_l10Writers.mono _ _ _)
      | (with_reducible exact spec_l11Add.mono _ _ _ _ _)
      | (with_reducible exact spec_l11Next.mono _ _ _)
      | (with_reducible exact spec_l1Has.mono _ _ _)
      | (with_reducible exact LeO.refl _)
      | (with_reducible exact LeO.none _)
      | (with_reducible refine LeO.ite ?_ ?_)
      | (with_reducible refine LeO.bind ?_ (fun _ => ?_))
      | exact ih0 _ _ _ _
      | exact ih1 _ _ _ _ _ _
      | exact ih2 _ _ _ _ _ _
      | exact ih3 _ _ _ _ _ _ _ _ _ _ _
      | exact ih4 _ _ _ _ _ _ _ _ _ _ _
      | exact ih5 _ _ _ _ _ _ _ _ _ _
      | exact spec_l10Committed.mono _ _
      | exact spec_l10Writers.mono _ _ _
      | exact spec_l11Add.mono _ _ _ _ _
      | exact spec_l11Next.mono _ _ _
      | exact spec_l1Has.mono _ _ _
      | exact LeO.none _
      | refine LeO.ite ?_ ?_
      | refine LeO.bind ?_ (fun _ => ?_)
def spec_l11Edges.T10 : Bool × List (List Nat × List Nat) := (true, [([], []), ([], []), ([], []), ([2], [2]), ([1, 3], [1, 3]), ([4], [4]), ([], []), ([], []), ([6, 7], [6, 7]), ([8], [8]), ([5, 9], [5, 9]), ([0, 10], [0, 10]), ([11, 11, 0, 1, 2, 3, 4, 5, 6, 7, 8, 9, 10, 11], [0, 11])])
def spec_l11Edges.B10 : List Nat := [0, 0, 0, 4, 14, 30, 0, 0, 192, 448, 1022, 2047, 4095]
theorem spec_l11Edges.tab10 : rtab .any (opsOf Try.f29 10) = spec_l11Edges.T10 := by kernel_rfl
theorem spec_l11Edges.bits10 : waitsOk spec_l11Edges.T10.2 spec_l11Edges.B10 = true := by kernel_rfl
set_option maxHeartbeats 8000000 in
set_option maxRecDepth 100000 in
theorem spec_l11Edges.calls (k : Nat) (A0 : Option Addr) (c0 : Nat) (l0 : List (S48)) (r : List (S45)) (w : World) (hr0 : Kd.C k48 w A0 l0.length l0) (hc0 : l0.length ≤ c0) (h : spec_l11Edges.f k l0 = some r) :
    Calls Try.prog 29 #[.slice A0 l0.length c0] w fun e w' => ∃ v0_ : Value, e = .returned (v0_) ∧ Kd.R k45 45 w' w.heap.size (fun _ => True) v0_ r ∧ Below w.heap.size w w' := by
  have hu45 := Try.underlying45
  have hu48 := Try.underlying48
  have HR0 := Aside0.mk hr0
  have HC0 := Aside0.mk hc0
  clear hr0 hc0
  have HB := Aside0.mk (Below.refl w.heap.size w)
  have H : ((spec_l10Committed.f k l0).bind fun t187 => (spec_l11Edges.l0 k l0 (([] : List (S45))) t187 0)) = some r := h
  clear h
  obtain ⟨y184, hy184⟩ : ∃ y_ : List (S45), y_ = (([] : List (S45))) := ⟨_, rfl⟩
  replace H : ((spec_l10Committed.f k l0).bind fun t187 => (spec_l11Edges.l0 k l0 y184 t187 0)) = some r := by first | (rw [hy184]; with_reducible exact H) | (have H2_ := (Option.bind_some _ _).symm.trans H; rw [hy184]; with_reducible exact H2_) | (have H2_ := (Option.bind_some _ _).symm.trans H; with_reducible exact H2_) | with_reducible exact H | (rw [hy184]; exact H) | exact H
  have Ny184 := Aside0.mk hy184
  clear hy184
  replace H := Option.bind_eq_some_iff.mp H
  obtain ⟨t187, A20, H⟩ := H
  replace H : (spec_l11Edges.l0 k l0 y184 t187 0) = some r := H
  have A2 := Aside0.mk A20
  clear A20
  have H' := Aside0.mk H
  clear H
  go_enter Try.func29, Try.ntmps29
  go_wp2_with (first | ((with_reducible refine gate_dst (N := 11) rfl ?_); refine Kd.R_lit k45 _ 45 ?hg (N := 11) ?hd (xs := ([] : List (S45))) (inner := []) (ok := fun _ => True) (okp := fun _ => True) ?hr ?hp (fun _ hk => hk) trivial (Below.refl _ _) (Nat.le_refl _) (by simp) ?_; (case hd => rfl); (case hg => rfl); (case hr => first | (go_simp; done) | (go_simp; rfl)); (case hp => exact (Reps.none _ _)); intro v185 w3 ho4 hb hg_ hnew_; clear hg_ hnew_; (first | rw [← Ny184.out] at ho4 | (simp only [Int.reduceToNat] at ho4; rw [← Ny184.out] at ho4)); have n0_ := Aside0.mk (Kd.R_lower ho4 (below_size bo)); have n1_ := Aside0.mk (below_step bo hb); clear HB; have HO186 := n0_; have HB := n1_; clear n0_ n1_; clear hb ho4) | ((with_reducible refine gate_callee (f := 52) rfl ?_); refine goesL_ (some 13) rfl rfl Try.func52 (by kernel_rfl) rfl #[.slice A0 l0.length c0] rfl (by (try simp only [List.map_toArray, List.map_cons, List.map_nil]); first | done | rfl | (simp only [List.length_drop, List.length_take]; rfl)) ?_; (with_reducible refine (spec_l10Committed.calls k _ _ l0 t187 _ ?side1 ?side2 A2.out).mono ?_); (case side1 => repeat (first | exact (Kd.C_below HR0.out HB.out) | (with_reducible refine Kd.C_alloc ?_ _) | (with_reducible refine Kd.C_drewN ?_ _) | (with_reducible refine Kd.C_drew ?_))); (case side2 => exact HC0.out); rintro e w5 ⟨v188, rfl, ho0, hb⟩; refine ⟨_, rfl, ?_⟩; have n0_ := Aside0.mk (Kd.R_below (by (with_reducible repeat (first | apply Kd.R_alloc | apply Kd.R_drewN | apply Kd.R_drew)); exact HO186.out) hb); have n1_ := Aside0.mk (Kd.R_lower ho0 (below_size bo)); have n2_ := Aside0.mk (below_step bo hb); clear HO186; clear HB; have HO186 := n0_; have HO189 := n1_; have HB := n2_; clear n0_ n1_ n2_; (try clear hb); (try clear hb2); (try clear hk); (try clear hi); (try clear ho0)))
  go_loopg [3, 5] k (fun kq v3 v5 w' => ∃ (x3_1 : List (S45)) (x5_1 : Int), v5 = .int .i64 x5_1 ∧ Aside0 (spec_l11Edges.l0 kq l0 x3_1 t187 x5_1 = some r) ∧ Aside0 (kq ≤ k) ∧ Aside0 (Kd.R k45 45 w' w.heap.size (fun _ => True) v3 x3_1) ∧ Aside0 (Kd.R (Kd.int .i64) 2 w' w.heap.size (fun _ => True) v188 t187) ∧ Aside0 (Below w.heap.size w w'))
  case atStart => exact ⟨(y184), (0), (by first | rfl | (simp; done) | (simp [*]; done)), H', ⟨Nat.le_refl _⟩, ⟨by (with_reducible repeat (first | apply Kd.R_alloc | apply Kd.R_drewN | apply Kd.R_drew)); exact HO186.out⟩, ⟨by (with_reducible repeat (first | apply Kd.R_alloc | apply Kd.R_drewN | apply Kd.R_drew)); exact HO189.out⟩, ⟨by repeat (first | (with_reducible first | exact HB.out | apply below_alloc | apply pw_below_drewN | apply below_drew1) | exact HB.out)⟩⟩
  case round =>
    clear H'
    try clear c2
    try clear p2
    try clear c5
    obtain ⟨x3_1, x5_1, rfl, HA, HK1, HO_3, HO_4, HB⟩ := hrel
    cases gk with
    | zero => exact absurd HA.out (by simp [spec_l11Edges.l0])
    | succ k1 =>
      have H := HA.out
      clear HA
      simp only [spec_l11Edges.l0] at H
      by_cases c6 : x5_1 ≤ 31
      · rw [if_pos c6] at H
        have c6b0 : decide (x5_1 ≤ 31) = true := decide_eq_true c6
        clear c6
        replace H := Option.bind_eq_some_iff.mp H
        obtain ⟨t190, A70, H⟩ := H
        replace H : (spec_l11Edges.l1 k1 l0 x3_1 t187 x5_1 t190 1) = some r := H
        have A7 := Aside0.mk A70
        clear A70
        have H' := Aside0.mk H
        clear H
        go_wp2_with (first | ((with_reducible refine gate_callee (f := 38) rfl ?_); refine goesL_ (some 20) rfl rfl Try.func38 (by kernel_rfl) rfl #[.slice A0 l0.length c0, .int .i64 x5_1] rfl (by (try simp only [List.map_toArray, List.map_cons, List.map_nil]); first | done | rfl | (simp only [List.length_drop, List.length_take]; rfl)) ?_; (with_reducible refine (spec_l10Writers.calls k1 _ _ l0 x5_1 t190 _ ?side1 ?side2 A7.out).mono ?_); (case side1 => repeat (first | exact (Kd.C_below HR0.out HB.out) | (with_reducible refine Kd.C_alloc ?_ _) | (with_reducible refine Kd.C_drewN ?_ _) | (with_reducible refine Kd.C_drew ?_))); (case side2 => exact HC0.out); rintro e w8 ⟨v191, rfl, ho0, hb⟩; refine ⟨_, rfl, ?_⟩; have n0_ := Aside0.mk (Kd.R_below (by (with_reducible repeat (first | apply Kd.R_alloc | apply Kd.R_drewN | apply Kd.R_drew)); exact HO_3.out) hb); have n1_ := Aside0.mk (Kd.R_elder' (by (with_reducible repeat (first | apply Kd.R_alloc | apply Kd.R_drewN | apply Kd.R_drew)); exact HO_4.out) (Kd.R_base ho0) hb); have n2_ := Aside0.mk (Kd.R_lower (Kd.R_new' ho0 (Kd.R_lt (by (with_reducible repeat (first | apply Kd.R_alloc | apply Kd.R_drewN | apply Kd.R_drew)); exact HO_4.out))) (below_size bo)); have n3_ := Aside0.mk (below_step bo hb); clear HO_3; clear HO_4; clear HB; have HO_3 := n0_; have HO_4 := n1_; have HO192 := n2_; have HB := n3_; clear n0_ n1_ n2_ n3_; (try clear hb); (try clear hb2); (try clear hk); (try clear hi); (try clear ho0)))
        go_loopg [3, 7] k1 (fun kq v3 v7 w' => ∃ (x3_2 : List (S45)) (x7_2 : Int), v7 = .int .i64 x7_2 ∧ Aside0 (spec_l11Edges.l1 kq l0 x3_2 t187 x5_1 t190 x7_2 = some r) ∧ Aside0 (kq ≤ k1) ∧ Aside0 (Kd.R k45 45 w' w.heap.size (fun _ => True) v3 x3_2) ∧ Aside0 (Kd.R (Kd.int .i64) 2 w' w.heap.size (fun k_ => some k_ ≠ (v191 : Value).ownBlock) v188 t187) ∧ Aside0 (Kd.R (Kd.int .i64) 2 w' w.heap.size (fun k_ => some k_ ≠ (v188 : Value).ownBlock) v191 t190) ∧ Aside0 (Below w.heap.size w w'))
        case atStart => exact ⟨(x3_1), (1), (by first | rfl | (simp; done) | (simp [*]; done)), H', ⟨Nat.le_refl _⟩, ⟨by (with_reducible repeat (first | apply Kd.R_alloc | apply Kd.R_drewN | apply Kd.R_drew)); exact HO_3.out⟩, ⟨by (with_reducible repeat (first | apply Kd.R_alloc | apply Kd.R_drewN | apply Kd.R_drew)); exact Kd.R_mono HO_4.out (fun _ hk => hk.2)⟩, ⟨by (with_reducible repeat (first | apply Kd.R_alloc | apply Kd.R_drewN | apply Kd.R_drew)); exact Kd.R_mono HO192.out (fun _ hk => hk.2)⟩, ⟨by repeat (first | (with_reducible first | exact HB.out | apply below_alloc | apply pw_below_drewN | apply below_drew1) | exact HB.out)⟩⟩
        case round =>
          clear H'
          try clear c2
          try clear p2
          try clear c3
          try clear c5
          try clear c6
          try clear c6b0
          try clear p2
          obtain ⟨x3_2, x7_2, rfl, HA, HK2, HO_3, HO_4, HO_6, HB⟩ := hrel
          cases gk with
          | zero => exact absurd HA.out (by simp [spec_l11Edges.l1])
          | succ k2 =>
            have H := HA.out
            clear HA
            simp only [spec_l11Edges.l1] at H
            by_cases c9 : x7_2 < (t190.length : Int)
            · rw [if_pos c9] at H
              have c9b0 : decide (x7_2 < (t190.length : Int)) = true := decide_eq_true c9
              clear c9
              obtain ⟨ji10, hji10⟩ : ∃ j_ : Int, (wrap64 (x7_2 - 1)) = j_ := ⟨_, rfl⟩
              replace H : (if 0 ≤ (ji10) then (if (ji10) < (t190.length : Int) then (if 0 ≤ x7_2 then ((spec_l11Add.f k2 x3_2 (rd t190 (ji10)) (rd t190 x7_2) 1).bind fun t195 => (spec_l11Edges.l1 k2 l0 t195 t187 x5_1 t190 (wrap64 (x7_2 + 1)))) else (none)) else (none)) else (none)) = some r := by first | (rw [hji10] at H; exact H) | (simp only [hji10] at H ⊢; exact H)
              have hji10w : (IntKind.i64.wrap (x7_2 - 1)) = ji10 := (i64_w _).trans hji10
              by_cases c11 : 0 ≤ (ji10)
              · rw [if_pos c11] at H
                have c11b0 : decide (0 ≤ (ji10)) = true := decide_eq_true c11
                clear c11
                by_cases c12 : (ji10) < (t190.length : Int)
                · rw [if_pos c12] at H
                  have c12b0 : decide ((ji10) < (t190.length : Int)) = true := decide_eq_true c12
                  clear c12
                  by_cases c13 : 0 ≤ x7_2
                  · rw [if_pos c13] at H
                    have c13b0 : decide (0 ≤ x7_2) = true := decide_eq_true c13
                    clear c13
                    replace H := Option.bind_eq_some_iff.mp H
                    obtain ⟨t195, A140, H⟩ := H
                    replace H : (spec_l11Edges.l1 k2 l0 t195 t187 x5_1 t190 (wrap64 (x7_2 + 1))) = some r := H
                    have A14 := Aside0.mk A140
                    clear A140
                    have H' := Aside0.mk H
                    clear H
                    obtain ⟨Ao15, co15, eo15⟩ := Kd.R_slice HO_6.out
                    subst eo15
                    try go_wp2
                    have n0_ := Aside0.mk (Kd.R_drew HO_3.out)
                    have n1_ := Aside0.mk (Kd.R_drew HO_4.out)
                    have n2_ := Aside0.mk (Kd.R_drew HO_6.out)
                    have n3_ := Aside0.mk (below_drew1 HB.out)
                    clear HO_3
                    clear HO_4
                    clear HO_6
                    clear HB
                    have HO_3 := n0_
                    have HO_4 := n1_
                    have HO_6 := n2_
                    have HB := n3_
                    clear n0_ n1_ n2_ n3_
                    have p193 : 0 ≤ ((ji10) : Int) := od
                    have q193 : (ji10) < (t190.length : Int) := od
                    obtain ⟨ad193, e193, hx193_0⟩ := Kd.at_int (Kd.R_reads' HO_6.out).2.2 (ji10) p193 q193
                    cases e193
                    replace p193 := eq_true p193
                    replace q193 := eq_true q193
                    have p194 : 0 ≤ (x7_2 : Int) := od
                    have q194 : x7_2 < (t190.length : Int) := od
                    obtain ⟨ad194, e194, hx194_0⟩ := Kd.at_int (Kd.R_reads' HO_6.out).2.2 x7_2 p194 q194
                    obtain rfl : ad193 = ad194 := (by injection e194)
                    replace p194 := eq_true p194
                    replace q194 := eq_true q194
                    obtain ⟨Ao17, co17, eo17⟩ := Kd.R_slice HO_3.out
                    (first | subst eo17 | (injection eo17 with f1_ f2_ f3_; have f4_ := f1_.symm; have f5_ := f3_.symm; clear f1_ f2_ f3_; subst f4_; subst f5_))
                    refine start_ (n := 13) (S := fun w' => w'.cell? (ad193.add ((ji10)).toNat) = some (.int .i64 (rd t190 (ji10))) ∧ w'.cell? (ad193.add (x7_2).toNat) = some (.int .i64 (rd t190 x7_2))) (ds := []) #[false, false, false, false, false, false, false, false, false, false, false, false, false] (by kernel_rfl) rfl rfl ⟨hx193_0, hx194_0⟩ (fun hHeld => ?_); refine with_tabW spec_l11Edges.tab10 spec_l11Edges.bits10 (fun HT_ HW_ => ?_)
                    generalize wr.drew = w16 at HO_3 HO_4 HO_6 HB hx193_0 hx194_0 hHeld ⊢
                    refine pure_ (i := 0) (N := some 27) (v := ?_) (a' := ?_) #[true, false, false, false, false, false, false, false, false, false, false, false, false] rfl rfl (any_of HT_.out (by kernel_rfl)) (fun _ _ _ h => h) (Or.inl ⟨by rfl, ?_⟩) ?_ ?_
                    rotate_left
                    · intro w'
                      go_simp
                      with_reducible rfl
                    rotate_left
                    · simp only [Act.put, List.setIfInBounds_toArray, List.set_cons_zero, List.set_cons_succ, i64_w, i32_w]
                      rfl
                    refine pure_ (i := 1) (N := some 28) (v := ?_) (a' := ?_) #[true, true, false, false, false, false, false, false, false, false, false, false, false] rfl rfl (any_of HT_.out (by kernel_rfl)) (fun _ _ _ h => h) (Or.inl ⟨by rfl, ?_⟩) ?_ ?_
                    rotate_left
                    · intro w'
                      go_simp
                      with_reducible rfl
                    rotate_left
                    · simp only [Act.put, List.setIfInBounds_toArray, List.set_cons_zero, List.set_cons_succ, i64_w, i32_w]
                      rfl
                    refine pure_ (i := 2) (N := some 29) (v := ?_) (a' := ?_) #[true, true, true, false, false, false, false, false, false, false, false, false, false] rfl rfl (any_of HT_.out (by kernel_rfl)) (fun _ _ _ h => h) (Or.inl ⟨by rfl, ?_⟩) ?_ ?_
                    rotate_left
                    · intro w'
                      go_simp
                      with_reducible rfl
                    rotate_left
                    · simp only [Act.put, List.setIfInBounds_toArray, List.set_cons_zero, List.set_cons_succ, i64_w, i32_w]
                      rfl
                    refine pure_ (i := 3) (N := some 30) (v := ?_) (a' := ?_) #[true, true, true, true, false, false, false, false, false, false, false, false, false] rfl rfl (any_of HT_.out (by kernel_rfl)) (fun _ _ _ h => h) (Or.inl ⟨by rfl, ?_⟩) ?_ ?_
                    rotate_left
                    · intro w'
                      go_simp
                      with_reducible rfl
                    rotate_left
                    · simp only [Act.put, List.setIfInBounds_toArray, List.set_cons_zero, List.set_cons_succ, i64_w, i32_w]
                      rfl
                    refine pure_ (i := 4) (N := some 31) (v := ?_) (a' := ?_) #[true, true, true, true, true, false, false, false, false, false, false, false, false] rfl rfl (any_of HT_.out (by kernel_rfl)) (fun _ _ _ h => h) (Or.inl ⟨by rfl, ?_⟩) ?_ ?_
                    rotate_left
                    · intro w'
                      go_simp
                      with_reducible rfl
                    rotate_left
                    · simp only [Act.put, List.setIfInBounds_toArray, List.set_cons_zero, List.set_cons_succ, i64_w, i32_w]
                      rfl
                    refine pure_ (i := 6) (N := some 33) (v := ?_) (a' := ?_) #[true, true, true, true, true, false, true, false, false, false, false, false, false] rfl rfl (any_of HT_.out (by kernel_rfl)) (fun _ _ _ h => h) (Or.inl ⟨by rfl, ?_⟩) ?_ ?_
                    rotate_left
                    · intro w'
                      go_simp
                      with_reducible rfl
                    rotate_left
                    · simp only [Act.put, List.setIfInBounds_toArray, List.set_cons_zero, List.set_cons_succ, i64_w, i32_w]
                      rfl
                    refine pure_ (i := 7) (N := some 34) (v := ?_) (a' := ?_) #[true, true, true, true, true, false, true, true, false, false, false, false, false] rfl rfl (any_of HT_.out (by kernel_rfl)) (fun _ _ _ h => h) (Or.inl ⟨by rfl, ?_⟩) ?_ ?_
                    rotate_left
                    · intro w'
                      go_simp
                      with_reducible rfl
                    rotate_left
                    · simp only [Act.put, List.setIfInBounds_toArray, List.set_cons_zero, List.set_cons_succ, i64_w, i32_w]
                      rfl
                    refine pure_ (i := 8) (N := some 35) (v := ?_) (a' := ?_) #[true, true, true, true, true, false, true, true, true, false, false, false, false] rfl rfl (any_of HT_.out (by kernel_rfl)) (fun _ _ _ h => h) (Or.inl ⟨by rfl, ?_⟩) ?_ ?_
                    rotate_left
                    · intro w'
                      go_simp
                      with_reducible rfl
                    rotate_left
                    · simp only [Act.put, List.setIfInBounds_toArray, List.set_cons_zero, List.set_cons_succ, i64_w, i32_w]
                      rfl
                    refine take_ (i := 5) (N := some 32) (v := ?_) (a' := ?_) #[true, true, true, true, true, true, true, true, true, false, false, false, false] rfl rfl (take_ofW HT_.out HW_.out (by kernel_rfl)) (fun _ _ _ h => h) (Or.inl ⟨by rfl, ?_⟩) hHeld ?_ ?_
                    rotate_left
                    · rintro w' ⟨s0, s1⟩
                      go_simp
                      with_reducible rfl
                    rotate_left
                    · simp only [Act.put, List.setIfInBounds_toArray, List.set_cons_zero, List.set_cons_succ, i64_w, i32_w]
                      rfl
                    refine take_ (i := 9) (N := some 36) (v := ?_) (a' := ?_) #[true, true, true, true, true, true, true, true, true, true, false, false, false] rfl rfl (take_ofW HT_.out HW_.out (by kernel_rfl)) (fun _ _ _ h => h) (Or.inl ⟨by rfl, ?_⟩) hHeld ?_ ?_
                    rotate_left
                    · rintro w' ⟨s0, s1⟩
                      go_simp
                      with_reducible rfl
                    rotate_left
                    · simp only [Act.put, List.setIfInBounds_toArray, List.set_cons_zero, List.set_cons_succ, i64_w, i32_w]
                      rfl
                    refine pure_ (i := 10) (N := some 37) (v := ?_) (a' := ?_) #[true, true, true, true, true, true, true, true, true, true, true, false, false] rfl rfl (any_of HT_.out (by kernel_rfl)) (fun _ _ _ h => h) (Or.inl ⟨by rfl, ?_⟩) ?_ ?_
                    rotate_left
                    · intro w'
                      go_simp
                      with_reducible rfl
                    rotate_left
                    · simp only [Act.put, List.setIfInBounds_toArray, List.set_cons_zero, List.set_cons_succ, i64_w, i32_w]
                      rfl
                    refine one_ (i := 11) (N := some 38) #[true, true, true, true, true, true, true, true, true, true, true, true, false] rfl rfl (one_of HT_.out (by kernel_rfl)) (by decide) (fun K hK => ?_)
                    refine goes_ Try.func66 (by kernel_rfl) rfl #[.slice Ao17 x3_2.length co17, .agg #[.int .i64 (rd t190 (ji10)), .int .i64 (rd t190 x7_2), .int .i64 1]] (by rfl) rfl rfl (by (try simp only [List.map_toArray, List.map_cons, List.map_nil]); first | done | (simp only [hji10]; rfl) | rfl | (simp only [List.length_drop, List.length_take]; rfl)) ?_
                    with_reducible refine (spec_l11Add.calls k2 (fun k_ => some k_ = (.slice Ao17 x3_2.length co17 : Value).ownBlock) (.slice Ao17 x3_2.length co17) x3_2 (rd t190 (ji10)) (rd t190 x7_2) 1 t195 w _ ?side1 ?side2 A14.out).mono ?_
                    (case side1 => repeat (first | (with_reducible first | exact HB.out | apply below_alloc | apply pw_below_drewN | apply below_drew1) | exact HB.out))
                    (case side2 => exact Kd.R_tight rfl HO_3.out)
                    rintro e w18 ⟨v196, rfl, ho0, hb, hkp⟩
                    have HS0_ := cell_kept (hHeld.1) hkp (by first | (rw [add_block]; exact (fun hs_ => ((((Kd.R_apart' HO_6.out (Kd.R_typed HO_3.out) (by decide))).1 _ rfl).2) hs_)) | (show ¬ _; simp only [add_block]; exact (fun hs_ => ((((Kd.R_apart' HO_6.out (Kd.R_typed HO_3.out) (by decide))).1 _ rfl).2) hs_)) | exact (fun hs_ => ((((Kd.R_apart' HO_6.out (Kd.R_typed HO_3.out) (by decide))).1 _ rfl).2) hs_))
                    have HS1_ := cell_kept (hHeld.2) hkp (by first | (rw [add_block]; exact (fun hs_ => ((((Kd.R_apart' HO_6.out (Kd.R_typed HO_3.out) (by decide))).1 _ rfl).2) hs_)) | (show ¬ _; simp only [add_block]; exact (fun hs_ => ((((Kd.R_apart' HO_6.out (Kd.R_typed HO_3.out) (by decide))).1 _ rfl).2) hs_)) | exact (fun hs_ => ((((Kd.R_apart' HO_6.out (Kd.R_typed HO_3.out) (by decide))).1 _ rfl).2) hs_))
                    refine ⟨_, rfl, ?_⟩
                    have n0_ := Aside0.mk (Kd.R_mono (ok' := fun k_ => some k_ ≠ (.slice (some ad193) t190.length co15 : Value).ownBlock) (Kd.R_keptB ((Kd.R_apart' HO_4.out (Kd.R_typed HO_3.out) (by decide))) hkp (fun k_ hk_ hs_ => (hk_.2) hs_)) (fun k_ hk_ => hk_.1.1))
                    have n1_ := Aside0.mk (Kd.R_mono (ok' := fun k_ => some k_ ≠ (v188 : Value).ownBlock) (Kd.R_keptB ((Kd.R_apart' HO_6.out (Kd.R_typed HO_3.out) (by decide))) hkp (fun k_ hk_ hs_ => (hk_.2) hs_)) (fun k_ hk_ => hk_.1.1))
                    have n2_ := Aside0.mk (Kd.R_mono (ok' := fun k_ => True) ho0 (fun k_ hk_ => trivial))
                    have n3_ := Aside0.mk (hb)
                    clear HO_4
                    clear HO_6
                    clear HB
                    clear HO_3
                    have HO_4 := n0_
                    have HO_6 := n1_
                    have HO197 := n2_
                    have HB := n3_
                    clear n0_ n1_ n2_ n3_
                    (try clear hb)
                    (try clear hkp)
                    (try clear ho0)
                    refine hK.out _ _ ⟨HS0_, HS1_⟩ (fun hHeld => ?_)
                    clear hK K
                    refine norm_ (a' := ?_) ?_ ?_
                    rotate_left
                    · show Act.put _ (some 38) _ = _
                      simp only [Act.put, List.setIfInBounds_toArray, List.set_cons_zero, List.set_cons_succ, i64_w, i32_w]
                      rfl
                    refine pure_ (i := 12) (N := some 3) (v := ?_) (a' := ?_) #[true, true, true, true, true, true, true, true, true, true, true, true, true] rfl rfl (any_of HT_.out (by kernel_rfl)) (fun _ _ _ h => h) (Or.inl ⟨by rfl, ?_⟩) ?_ ?_
                    rotate_left
                    · intro w'
                      go_simp
                      with_reducible rfl
                    rotate_left
                    · simp only [Act.put, List.setIfInBounds_toArray, List.set_cons_zero, List.set_cons_succ, i64_w, i32_w]
                      rfl
                    refine done_ (done_of HT_.out (by kernel_rfl)) ?_
                    try go_wp2
                    go_roundg k2
                    case measure => have := HK1.out; have := HK2.out; omega
                    case rel => exact ⟨(t195), (wrap64 (x7_2 + 1)), (by first | rfl | (simp; done) | (simp [*]; done)), H', ⟨by have := HK1.out; have := HK2.out; omega⟩, ⟨by (with_reducible repeat (first | apply Kd.R_alloc | apply Kd.R_drewN | apply Kd.R_drew)); exact HO197.out⟩, ⟨by (with_reducible repeat (first | apply Kd.R_alloc | apply Kd.R_drewN | apply Kd.R_drew)); exact HO_4.out⟩, ⟨by (with_reducible repeat (first | apply Kd.R_alloc | apply Kd.R_drewN | apply Kd.R_drew)); exact HO_6.out⟩, ⟨by repeat (first | (with_reducible first | exact HB.out | apply below_alloc | apply pw_below_drewN | apply below_drew1) | exact HB.out)⟩⟩
                  · rw [if_neg c13] at H
                    exact absurd H (by simp)
                · rw [if_neg c12] at H
                  exact absurd H (by simp)
              · rw [if_neg c11] at H
                exact absurd H (by simp)
            · rw [if_neg c9] at H
              have c9b0 : decide (x7_2 < (t190.length : Int)) = false := decide_eq_false c9
              clear c9
              have H' := Aside0.mk H
              clear H
              obtain ⟨Ao19, co19, eo19⟩ := Kd.R_slice HO_6.out
              subst eo19
              go_wp2
              go_loopg [3, 8] k2 (fun kq v3 v8 w' => ∃ (x3_3 : List (S45)) (x8_3 : Int), v8 = .int .i64 x8_3 ∧ Aside0 (spec_l11Edges.l2 kq l0 x3_3 t187 x5_1 t190 x8_3 = some r) ∧ Aside0 (kq ≤ k2) ∧ Aside0 (Kd.R k45 45 w' w.heap.size (fun _ => True) v3 x3_3) ∧ Aside0 (Kd.R (Kd.int .i64) 2 w' w.heap.size (fun k_ => some k_ ≠ ((.slice Ao19 t190.length co19) : Value).ownBlock) v188 t187) ∧ Aside0 (Kd.R (Kd.int .i64) 2 w' w.heap.size (fun k_ => some k_ ≠ (v188 : Value).ownBlock) (.slice Ao19 t190.length co19) t190) ∧ Aside0 (Below w.heap.size w w'))
              case atStart => exact ⟨(x3_2), (0), (by first | rfl | (simp; done) | (simp [*]; done)), H', ⟨Nat.le_refl _⟩, ⟨by (with_reducible repeat (first | apply Kd.R_alloc | apply Kd.R_drewN | apply Kd.R_drew)); exact HO_3.out⟩, ⟨by (with_reducible repeat (first | apply Kd.R_alloc | apply Kd.R_drewN | apply Kd.R_drew)); exact HO_4.out⟩, ⟨by (with_reducible repeat (first | apply Kd.R_alloc | apply Kd.R_drewN | apply Kd.R_drew)); exact HO_6.out⟩, ⟨by repeat (first | (with_reducible first | exact HB.out | apply below_alloc | apply pw_below_drewN | apply below_drew1) | exact HB.out)⟩⟩
              case round =>
                clear H'
                try clear c1
                try clear p1
                try clear q1
                try clear hx1
                try clear c2
                try clear p2
                try clear c3
                try clear c5
                try clear c6
                try clear c6b0
                try clear p6
                try clear c9
                try clear c9b0
                try clear c11
                try clear c11b0
                try clear c12
                try clear c12b0
                try clear c13
                try clear c13b0
                try clear p19
                try clear q19
                try clear hx19
                try clear hx193_0
                try clear hx194_0
                try clear p193
                try clear p194
                try clear p2
                try clear q193
                try clear q194
                obtain ⟨x3_3, x8_3, rfl, HA, HK3, HO_3, HO_4, HO_6, HB⟩ := hrel
                cases gk with
                | zero => exact absurd HA.out (by simp [spec_l11Edges.l2])
                | succ k3 =>
                  have H := HA.out
                  clear HA
                  simp only [spec_l11Edges.l2] at H
                  by_cases c20 : x8_3 < (l0.length : Int)
                  · rw [if_pos c20] at H
                    have c20b0 : decide (x8_3 < (l0.length : Int)) = true := decide_eq_true c20
                    clear c20
                    by_cases c21 : 0 ≤ x8_3
                    · rw [if_pos c21] at H
                      have c21b0 : decide (0 ≤ x8_3) = true := decide_eq_true c21
                      clear c21
                      have HC22 := Aside0.mk H
                      clear H
                      have p198 : 0 ≤ (x8_3 : Int) := od
                      have q198 : x8_3 < (l0.length : Int) := od
                      obtain ⟨ad198, e198, hx198_0, hx198_1, hx198_2, hx198_3⟩ := at_T48 HR0.out x8_3 p198 q198
                      cases e198
                      replace hx198_0 := (HB.out.cell (World.block_lt_of_cell? w _ hx198_0)).trans hx198_0
                      replace hx198_1 := (HB.out.cell (World.block_lt_of_cell? w _ hx198_1)).trans hx198_1
                      replace hx198_2 := (HB.out.cell (World.block_lt_of_cell? w _ hx198_2)).trans hx198_2
                      replace hx198_3 := (HB.out.cell (World.block_lt_of_cell? w _ hx198_3)).trans hx198_3
                      replace p198 := eq_true p198
                      replace q198 := eq_true q198
                      go_upto_region 15 with (first | ((with_reducible refine gate_dst (N := 9) rfl ?_); refine box_event ?hg (N := 9) ?hd (cs := #[.int .i64 0, .int .i64 0, .int .i64 0, .int .i64 0]) (t := 48) ?hr ?_; (case hd => rfl); (case hg => rfl); (case hr => first | (go_simp; done) | (go_simp; rfl)); intro gb199 hg w23 hbox hb; have n0_ := Aside0.mk (Kd.R_below (by (with_reducible repeat (first | apply Kd.R_alloc | apply Kd.R_drewN | apply Kd.R_drew)); exact HO_3.out) hb); have n1_ := Aside0.mk (Kd.R_below (by (with_reducible repeat (first | apply Kd.R_alloc | apply Kd.R_drewN | apply Kd.R_drew)); exact HO_4.out) hb); have n2_ := Aside0.mk (Kd.R_below (by (with_reducible repeat (first | apply Kd.R_alloc | apply Kd.R_drewN | apply Kd.R_drew)); exact HO_6.out) hb); have n3_ := Aside0.mk (below_step bo hb); have n4_ := Aside0.mk (hbox); have n5_ := Aside0.mk ((by rw [hg]; exact (below_size bo) : w.heap.size ≤ gb199)); have n6_ := Aside0.mk ((by rw [hg]; exact (below_size bo) : w.heap.size ≤ gb199)); clear HO_3; clear HO_4; clear HO_6; clear HB; have HO_3 := n0_; have HO_4 := n1_; have HO_6 := n2_; have HB := n3_; have BK199 := n4_; have GW199 := n5_; have GE199 := n6_; clear n0_ n1_ n2_ n3_ n4_ n5_ n6_; clear hb hbox hg; have hcz24_0 : w23.cell? ⟨gb199, 0, none⟩ = some (.int .i64 0) := (blk_cell BK199.out 0).trans rfl; have hcz24_1 : w23.cell? ⟨gb199, 1, none⟩ = some (.int .i64 0) := (blk_cell BK199.out 1).trans rfl; have hcz24_2 : w23.cell? ⟨gb199, 2, none⟩ = some (.int .i64 0) := (blk_cell BK199.out 2).trans rfl; have hcz24_3 : w23.cell? ⟨gb199, 3, none⟩ = some (.int .i64 0) := (blk_cell BK199.out 3).trans rfl; have hfz24_0 := blk_frozen BK199.out 0; have hfz24_1 := blk_frozen BK199.out 1; have hfz24_2 := blk_frozen BK199.out 2; have hfz24_3 := blk_frozen BK199.out 3))
                      (try simp only [Act.put, List.setIfInBounds_toArray, List.set_cons_zero, List.set_cons_succ])
                      go_cut [64] (fun v64 wc => ∃ (kq : Nat) (x64_21 : Bool), v64 = .bool x64_21 ∧ Aside0 (spec_l11Edges.j3 kq l0 x3_3 t187 x5_1 t190 x8_3 x64_21 ((rd_T48 l0 x8_3).f0) ((rd_T48 l0 x8_3).f1) ((rd_T48 l0 x8_3).f2) ((rd_T48 l0 x8_3).f3) = some r) ∧ Aside0 (kq ≤ k3) ∧ Aside0 (Kd.R k45 45 wc w.heap.size (fun _ => True) u3 x3_3) ∧ Aside0 (Kd.R (Kd.int .i64) 2 wc w.heap.size (fun k_ => some k_ ≠ ((.slice Ao19 t190.length co19) : Value).ownBlock) v188 t187) ∧ Aside0 (Kd.R (Kd.int .i64) 2 wc w.heap.size (fun k_ => some k_ ≠ (v188 : Value).ownBlock) (.slice Ao19 t190.length co19) t190) ∧ Aside0 (wc.heap[gb199]? = some (.cells #[.int .i64 ((rd_T48 l0 x8_3).f0), .int .i64 ((rd_T48 l0 x8_3).f1), .int .i64 ((rd_T48 l0 x8_3).f2), .int .i64 ((rd_T48 l0 x8_3).f3)] 48 (0, 0))) ∧ Aside0 (Below w.heap.size w wc))
                      case first =>
                        have H := HC22.out
                        clear HC22
                        by_cases c25 : ((rd_T48 l0 x8_3).f0) = 2
                        · rw [if_pos c25] at H
                          have c25b0 : (((rd_T48 l0 x8_3).f0) == 2) = true := beq_iff_eq.mpr c25
                          have c25b1 : (((rd_T48 l0 x8_3).f0) != 2) = false := bne_eq_false_iff_eq.mpr c25
                          clear c25
                          (first | rw [c25b0] | (simp only [i64_w, i32_w]; rw [c25b0]) | skip)
                          by_cases c26 : ((rd_T48 l0 x8_3).f2) = x5_1
                          · rw [if_pos c26] at H
                            have c26b0 : (((rd_T48 l0 x8_3).f2) == x5_1) = true := beq_iff_eq.mpr c26
                            have c26b1 : (((rd_T48 l0 x8_3).f2) != x5_1) = false := bne_eq_false_iff_eq.mpr c26
                            clear c26
                            replace H := Option.bind_eq_some_iff.mp H
                            obtain ⟨t200, A270, H⟩ := H
                            replace H : (spec_l11Edges.j3 k3 l0 x3_3 t187 x5_1 t190 x8_3 (!t200) ((rd_T48 l0 x8_3).f0) ((rd_T48 l0 x8_3).f1) ((rd_T48 l0 x8_3).f2) ((rd_T48 l0 x8_3).f3)) = some r := H
                            have A27 := Aside0.mk A270
                            clear A270
                            have H' := Aside0.mk H
                            clear H
                            have hcz28_0 : w23.cell? ⟨gb199, 0, none⟩ = some (.int .i64 0) := (blk_cell BK199.out 0).trans rfl
                            have hcz28_1 : w23.cell? ⟨gb199, 1, none⟩ = some (.int .i64 0) := (blk_cell BK199.out 1).trans rfl
                            have hcz28_2 : w23.cell? ⟨gb199, 2, none⟩ = some (.int .i64 0) := (blk_cell BK199.out 2).trans rfl
                            have hcz28_3 : w23.cell? ⟨gb199, 3, none⟩ = some (.int .i64 0) := (blk_cell BK199.out 3).trans rfl
                            have hfz28_0 := blk_frozen BK199.out 0
                            have hfz28_1 := blk_frozen BK199.out 1
                            have hfz28_2 := blk_frozen BK199.out 2
                            have hfz28_3 := blk_frozen BK199.out 3
                            obtain ⟨Ao29, co29, eo29⟩ := Kd.R_slice HO_4.out
                            subst eo29
                            go_wp2_with (first | (go_at_call 53; (with_reducible refine (spec_l1Has.calls k3 _ _ t187 ((rd_T48 l0 x8_3).f1) t200 _ ?side1 ?side2 A27.out).mono ?_); (case side1 => refine (Kd.R_reads' (e := 2) (base := w.heap.size) (ok := fun k_ => some k_ ≠ (.slice Ao19 t190.length co19 : Value).ownBlock) (n := t187.length) (c := co29) ?_).2.2; exact (by (with_reducible repeat (first | apply Kd.R_alloc | apply Kd.R_drewN | apply Kd.R_drew)); exact (Kd.R_mono (Kd.R_far (p := ⟨gb199, 3, none⟩) (Kd.R_far (p := ⟨gb199, 2, none⟩) (Kd.R_far (p := ⟨gb199, 1, none⟩) (Kd.R_far (p := ⟨gb199, 0, none⟩) (Kd.R_types HO_4.out BK199.out (by decide)) (fun _ hk => hk.2) (.int .i64 ((rd_T48 l0 x8_3).f0))) (fun _ hk => hk.2) (.int .i64 ((rd_T48 l0 x8_3).f1))) (fun _ hk => hk.2) (.int .i64 ((rd_T48 l0 x8_3).f2))) (fun _ hk => hk.2) (.int .i64 ((rd_T48 l0 x8_3).f3))) (fun _ h_ => h_.1)))); (case side2 => exact (Kd.R_reads' HO_4.out).2.1); rintro e w' ⟨rfl, ⟨nd, rfl⟩⟩))
                            go_meet
                            case rel => exact ⟨_, (!t200), (by first | rfl | (simp; done) | (simp [*]; done)), H', ⟨by have := HK1.out; have := HK2.out; have := HK3.out; first | omega | exact Nat.le_refl _⟩, ⟨by (with_reducible repeat (first | apply Kd.R_alloc | apply Kd.R_drewN | apply Kd.R_drew)); exact Kd.R_mono (Kd.R_far (p := ⟨gb199, 3, none⟩) (Kd.R_far (p := ⟨gb199, 2, none⟩) (Kd.R_far (p := ⟨gb199, 1, none⟩) (Kd.R_far (p := ⟨gb199, 0, none⟩) (Kd.R_types HO_3.out BK199.out (by decide)) (fun _ hk => hk.2) (.int .i64 ((rd_T48 l0 x8_3).f0))) (fun _ hk => hk.2) (.int .i64 ((rd_T48 l0 x8_3).f1))) (fun _ hk => hk.2) (.int .i64 ((rd_T48 l0 x8_3).f2))) (fun _ hk => hk.2) (.int .i64 ((rd_T48 l0 x8_3).f3))) (fun _ hk => trivial)⟩, ⟨by (with_reducible repeat (first | apply Kd.R_alloc | apply Kd.R_drewN | apply Kd.R_drew)); exact Kd.R_mono (Kd.R_far (p := ⟨gb199, 3, none⟩) (Kd.R_far (p := ⟨gb199, 2, none⟩) (Kd.R_far (p := ⟨gb199, 1, none⟩) (Kd.R_far (p := ⟨gb199, 0, none⟩) (Kd.R_types HO_4.out BK199.out (by decide)) (fun _ hk => hk.2) (.int .i64 ((rd_T48 l0 x8_3).f0))) (fun _ hk => hk.2) (.int .i64 ((rd_T48 l0 x8_3).f1))) (fun _ hk => hk.2) (.int .i64 ((rd_T48 l0 x8_3).f2))) (fun _ hk => hk.2) (.int .i64 ((rd_T48 l0 x8_3).f3))) (fun _ hk => hk.1)⟩, ⟨by (with_reducible repeat (first | apply Kd.R_alloc | apply Kd.R_drewN | apply Kd.R_drew)); exact Kd.R_mono (Kd.R_far (p := ⟨gb199, 3, none⟩) (Kd.R_far (p := ⟨gb199, 2, none⟩) (Kd.R_far (p := ⟨gb199, 1, none⟩) (Kd.R_far (p := ⟨gb199, 0, none⟩) (Kd.R_types HO_6.out BK199.out (by decide)) (fun _ hk => hk.2) (.int .i64 ((rd_T48 l0 x8_3).f0))) (fun _ hk => hk.2) (.int .i64 ((rd_T48 l0 x8_3).f1))) (fun _ hk => hk.2) (.int .i64 ((rd_T48 l0 x8_3).f2))) (fun _ hk => hk.2) (.int .i64 ((rd_T48 l0 x8_3).f3))) (fun _ hk => hk.1)⟩, ⟨by (with_reducible repeat (first | refine blk_drewN ?_ _ | refine blk_drew ?_ | refine blk_alloc ?_ _)); refine blk_put (cs := #[.int .i64 ((rd_T48 l0 x8_3).f0), .int .i64 ((rd_T48 l0 x8_3).f1), .int .i64 ((rd_T48 l0 x8_3).f2), .int .i64 0]) ?_ 3 _ rfl; (with_reducible repeat (first | refine blk_drewN ?_ _ | refine blk_drew ?_ | refine blk_alloc ?_ _)); refine blk_put (cs := #[.int .i64 ((rd_T48 l0 x8_3).f0), .int .i64 ((rd_T48 l0 x8_3).f1), .int .i64 0, .int .i64 0]) ?_ 2 _ rfl; (with_reducible repeat (first | refine blk_drewN ?_ _ | refine blk_drew ?_ | refine blk_alloc ?_ _)); refine blk_put (cs := #[.int .i64 ((rd_T48 l0 x8_3).f0), .int .i64 0, .int .i64 0, .int .i64 0]) ?_ 1 _ rfl; (with_reducible repeat (first | refine blk_drewN ?_ _ | refine blk_drew ?_ | refine blk_alloc ?_ _)); refine blk_put (cs := #[.int .i64 0, .int .i64 0, .int .i64 0, .int .i64 0]) ?_ 0 _ rfl; (with_reducible repeat (first | refine blk_drewN ?_ _ | refine blk_drew ?_ | refine blk_alloc ?_ _)); exact BK199.out⟩, ⟨by repeat (first | (with_reducible first | exact HB.out | apply below_alloc | apply pw_below_drewN | apply below_drew1 | refine below_set ?_ GE199.out) | exact HB.out)⟩⟩
                          · rw [if_neg c26] at H
                            have c26b0 : (((rd_T48 l0 x8_3).f2) == x5_1) = false := beq_eq_false_iff_ne.mpr c26
                            have c26b1 : (((rd_T48 l0 x8_3).f2) != x5_1) = true := bne_iff_ne.mpr c26
                            have H' := Aside0.mk H
                            clear H
                            have hcz30_0 : w23.cell? ⟨gb199, 0, none⟩ = some (.int .i64 0) := (blk_cell BK199.out 0).trans rfl
                            have hcz30_1 : w23.cell? ⟨gb199, 1, none⟩ = some (.int .i64 0) := (blk_cell BK199.out 1).trans rfl
                            have hcz30_2 : w23.cell? ⟨gb199, 2, none⟩ = some (.int .i64 0) := (blk_cell BK199.out 2).trans rfl
                            have hcz30_3 : w23.cell? ⟨gb199, 3, none⟩ = some (.int .i64 0) := (blk_cell BK199.out 3).trans rfl
                            have hfz30_0 := blk_frozen BK199.out 0
                            have hfz30_1 := blk_frozen BK199.out 1
                            have hfz30_2 := blk_frozen BK199.out 2
                            have hfz30_3 := blk_frozen BK199.out 3
                            go_wp2
                            go_meet
                            case rel => exact ⟨_, (true), (by first | rfl | (simp; done) | (simp [*]; done)), H', ⟨by have := HK1.out; have := HK2.out; have := HK3.out; first | omega | exact Nat.le_refl _⟩, ⟨by (with_reducible repeat (first | apply Kd.R_alloc | apply Kd.R_drewN | apply Kd.R_drew)); exact Kd.R_mono (Kd.R_far (p := ⟨gb199, 3, none⟩) (Kd.R_far (p := ⟨gb199, 2, none⟩) (Kd.R_far (p := ⟨gb199, 1, none⟩) (Kd.R_far (p := ⟨gb199, 0, none⟩) (Kd.R_types HO_3.out BK199.out (by decide)) (fun _ hk => hk.2) (.int .i64 ((rd_T48 l0 x8_3).f0))) (fun _ hk => hk.2) (.int .i64 ((rd_T48 l0 x8_3).f1))) (fun _ hk => hk.2) (.int .i64 ((rd_T48 l0 x8_3).f2))) (fun _ hk => hk.2) (.int .i64 ((rd_T48 l0 x8_3).f3))) (fun _ hk => trivial)⟩, ⟨by (with_reducible repeat (first | apply Kd.R_alloc | apply Kd.R_drewN | apply Kd.R_drew)); exact Kd.R_mono (Kd.R_far (p := ⟨gb199, 3, none⟩) (Kd.R_far (p := ⟨gb199, 2, none⟩) (Kd.R_far (p := ⟨gb199, 1, none⟩) (Kd.R_far (p := ⟨gb199, 0, none⟩) (Kd.R_types HO_4.out BK199.out (by decide)) (fun _ hk => hk.2) (.int .i64 ((rd_T48 l0 x8_3).f0))) (fun _ hk => hk.2) (.int .i64 ((rd_T48 l0 x8_3).f1))) (fun _ hk => hk.2) (.int .i64 ((rd_T48 l0 x8_3).f2))) (fun _ hk => hk.2) (.int .i64 ((rd_T48 l0 x8_3).f3))) (fun _ hk => hk.1)⟩, ⟨by (with_reducible repeat (first | apply Kd.R_alloc | apply Kd.R_drewN | apply Kd.R_drew)); exact Kd.R_mono (Kd.R_far (p := ⟨gb199, 3, none⟩) (Kd.R_far (p := ⟨gb199, 2, none⟩) (Kd.R_far (p := ⟨gb199, 1, none⟩) (Kd.R_far (p := ⟨gb199, 0, none⟩) (Kd.R_types HO_6.out BK199.out (by decide)) (fun _ hk => hk.2) (.int .i64 ((rd_T48 l0 x8_3).f0))) (fun _ hk => hk.2) (.int .i64 ((rd_T48 l0 x8_3).f1))) (fun _ hk => hk.2) (.int .i64 ((rd_T48 l0 x8_3).f2))) (fun _ hk => hk.2) (.int .i64 ((rd_T48 l0 x8_3).f3))) (fun _ hk => hk.1)⟩, ⟨by (with_reducible repeat (first | refine blk_drewN ?_ _ | refine blk_drew ?_ | refine blk_alloc ?_ _)); refine blk_put (cs := #[.int .i64 ((rd_T48 l0 x8_3).f0), .int .i64 ((rd_T48 l0 x8_3).f1), .int .i64 ((rd_T48 l0 x8_3).f2), .int .i64 0]) ?_ 3 _ rfl; (with_reducible repeat (first | refine blk_drewN ?_ _ | refine blk_drew ?_ | refine blk_alloc ?_ _)); refine blk_put (cs := #[.int .i64 ((rd_T48 l0 x8_3).f0), .int .i64 ((rd_T48 l0 x8_3).f1), .int .i64 0, .int .i64 0]) ?_ 2 _ rfl; (with_reducible repeat (first | refine blk_drewN ?_ _ | refine blk_drew ?_ | refine blk_alloc ?_ _)); refine blk_put (cs := #[.int .i64 ((rd_T48 l0 x8_3).f0), .int .i64 0, .int .i64 0, .int .i64 0]) ?_ 1 _ rfl; (with_reducible repeat (first | refine blk_drewN ?_ _ | refine blk_drew ?_ | refine blk_alloc ?_ _)); refine blk_put (cs := #[.int .i64 0, .int .i64 0, .int .i64 0, .int .i64 0]) ?_ 0 _ rfl; (with_reducible repeat (first | refine blk_drewN ?_ _ | refine blk_drew ?_ | refine blk_alloc ?_ _)); exact BK199.out⟩, ⟨by repeat (first | (with_reducible first | exact HB.out | apply below_alloc | apply pw_below_drewN | apply below_drew1 | refine below_set ?_ GE199.out) | exact HB.out)⟩⟩
                        · rw [if_neg c25] at H
                          have c25b0 : (((rd_T48 l0 x8_3).f0) == 2) = false := beq_eq_false_iff_ne.mpr c25
                          have c25b1 : (((rd_T48 l0 x8_3).f0) != 2) = true := bne_iff_ne.mpr c25
                          (first | rw [c25b0] | (simp only [i64_w, i32_w]; rw [c25b0]) | skip)
                          have H' := Aside0.mk H
                          clear H
                          have hcz31_0 : w23.cell? ⟨gb199, 0, none⟩ = some (.int .i64 0) := (blk_cell BK199.out 0).trans rfl
                          have hcz31_1 : w23.cell? ⟨gb199, 1, none⟩ = some (.int .i64 0) := (blk_cell BK199.out 1).trans rfl
                          have hcz31_2 : w23.cell? ⟨gb199, 2, none⟩ = some (.int .i64 0) := (blk_cell BK199.out 2).trans rfl
                          have hcz31_3 : w23.cell? ⟨gb199, 3, none⟩ = some (.int .i64 0) := (blk_cell BK199.out 3).trans rfl
                          have hfz31_0 := blk_frozen BK199.out 0
                          have hfz31_1 := blk_frozen BK199.out 1
                          have hfz31_2 := blk_frozen BK199.out 2
                          have hfz31_3 := blk_frozen BK199.out 3
                          go_wp2
                          go_meet
                          case rel => exact ⟨_, (true), (by first | rfl | (simp; done) | (simp [*]; done)), H', ⟨by have := HK1.out; have := HK2.out; have := HK3.out; first | omega | exact Nat.le_refl _⟩, ⟨by (with_reducible repeat (first | apply Kd.R_alloc | apply Kd.R_drewN | apply Kd.R_drew)); exact Kd.R_mono (Kd.R_far (p := ⟨gb199, 3, none⟩) (Kd.R_far (p := ⟨gb199, 2, none⟩) (Kd.R_far (p := ⟨gb199, 1, none⟩) (Kd.R_far (p := ⟨gb199, 0, none⟩) (Kd.R_types HO_3.out BK199.out (by decide)) (fun _ hk => hk.2) (.int .i64 ((rd_T48 l0 x8_3).f0))) (fun _ hk => hk.2) (.int .i64 ((rd_T48 l0 x8_3).f1))) (fun _ hk => hk.2) (.int .i64 ((rd_T48 l0 x8_3).f2))) (fun _ hk => hk.2) (.int .i64 ((rd_T48 l0 x8_3).f3))) (fun _ hk => trivial)⟩, ⟨by (with_reducible repeat (first | apply Kd.R_alloc | apply Kd.R_drewN | apply Kd.R_drew)); exact Kd.R_mono (Kd.R_far (p := ⟨gb199, 3, none⟩) (Kd.R_far (p := ⟨gb199, 2, none⟩) (Kd.R_far (p := ⟨gb199, 1, none⟩) (Kd.R_far (p := ⟨gb199, 0, none⟩) (Kd.R_types HO_4.out BK199.out (by decide)) (fun _ hk => hk.2) (.int .i64 ((rd_T48 l0 x8_3).f0))) (fun _ hk => hk.2) (.int .i64 ((rd_T48 l0 x8_3).f1))) (fun _ hk => hk.2) (.int .i64 ((rd_T48 l0 x8_3).f2))) (fun _ hk => hk.2) (.int .i64 ((rd_T48 l0 x8_3).f3))) (fun _ hk => hk.1)⟩, ⟨by (with_reducible repeat (first | apply Kd.R_alloc | apply Kd.R_drewN | apply Kd.R_drew)); exact Kd.R_mono (Kd.R_far (p := ⟨gb199, 3, none⟩) (Kd.R_far (p := ⟨gb199, 2, none⟩) (Kd.R_far (p := ⟨gb199, 1, none⟩) (Kd.R_far (p := ⟨gb199, 0, none⟩) (Kd.R_types HO_6.out BK199.out (by decide)) (fun _ hk => hk.2) (.int .i64 ((rd_T48 l0 x8_3).f0))) (fun _ hk => hk.2) (.int .i64 ((rd_T48 l0 x8_3).f1))) (fun _ hk => hk.2) (.int .i64 ((rd_T48 l0 x8_3).f2))) (fun _ hk => hk.2) (.int .i64 ((rd_T48 l0 x8_3).f3))) (fun _ hk => hk.1)⟩, ⟨by (with_reducible repeat (first | refine blk_drewN ?_ _ | refine blk_drew ?_ | refine blk_alloc ?_ _)); refine blk_put (cs := #[.int .i64 ((rd_T48 l0 x8_3).f0), .int .i64 ((rd_T48 l0 x8_3).f1), .int .i64 ((rd_T48 l0 x8_3).f2), .int .i64 0]) ?_ 3 _ rfl; (with_reducible repeat (first | refine blk_drewN ?_ _ | refine blk_drew ?_ | refine blk_alloc ?_ _)); refine blk_put (cs := #[.int .i64 ((rd_T48 l0 x8_3).f0), .int .i64 ((rd_T48 l0 x8_3).f1), .int .i64 0, .int .i64 0]) ?_ 2 _ rfl; (with_reducible repeat (first | refine blk_drewN ?_ _ | refine blk_drew ?_ | refine blk_alloc ?_ _)); refine blk_put (cs := #[.int .i64 ((rd_T48 l0 x8_3).f0), .int .i64 0, .int .i64 0, .int .i64 0]) ?_ 1 _ rfl; (with_reducible repeat (first | refine blk_drewN ?_ _ | refine blk_drew ?_ | refine blk_alloc ?_ _)); refine blk_put (cs := #[.int .i64 0, .int .i64 0, .int .i64 0, .int .i64 0]) ?_ 0 _ rfl; (with_reducible repeat (first | refine blk_drewN ?_ _ | refine blk_drew ?_ | refine blk_alloc ?_ _)); exact BK199.out⟩, ⟨by repeat (first | (with_reducible first | exact HB.out | apply below_alloc | apply pw_below_drewN | apply below_drew1 | refine below_set ?_ GE199.out) | exact HB.out)⟩⟩
                      case rest =>
                        clear HC22
                        try clear c1
                        try clear p1
                        try clear q1
                        try clear hx1
                        try clear c2
                        try clear p2
                        try clear c3
                        try clear c5
                        try clear c6
                        try clear c6b0
                        try clear p6
                        try clear c9
                        try clear c9b0
                        try clear c11
                        try clear c11b0
                        try clear c12
                        try clear c12b0
                        try clear c13
                        try clear c13b0
                        try clear p19
                        try clear q19
                        try clear hx19
                        try clear c20
                        try clear c20b0
                        try clear c21
                        try clear c21b0
                        try clear c25
                        try clear c25b0
                        try clear c25b1
                        try clear c26
                        try clear c26b0
                        try clear c26b1
                        try clear c29
                        try clear hcz24_0
                        try clear hcz24_1
                        try clear hcz24_2
                        try clear hcz24_3
                        try clear hcz28_0
                        try clear hcz28_1
                        try clear hcz28_2
                        try clear hcz28_3
                        try clear hcz30_0
                        try clear hcz30_1
                        try clear hcz30_2
                        try clear hcz30_3
                        try clear hcz31_0
                        try clear hcz31_1
                        try clear hcz31_2
                        try clear hcz31_3
                        try clear hfz24_0
                        try clear hfz24_1
                        try clear hfz24_2
                        try clear hfz24_3
                        try clear hfz28_0
                        try clear hfz28_1
                        try clear hfz28_2
                        try clear hfz28_3
                        try clear hfz30_0
                        try clear hfz30_1
                        try clear hfz30_2
                        try clear hfz30_3
                        try clear hfz31_0
                        try clear hfz31_1
                        try clear hfz31_2
                        try clear hfz31_3
                        try clear hx193_0
                        try clear hx194_0
                        try clear hx198_0
                        try clear hx198_1
                        try clear hx198_2
                        try clear hx198_3
                        try clear p1
                        try clear p19
                        try clear p193
                        try clear p194
                        try clear p198
                        try clear p2
                        try clear p6
                        try clear q1
                        try clear q19
                        try clear q193
                        try clear q194
                        try clear q198
                        obtain ⟨kq, x64_21, rfl, HA, HJ21, HO_3, HO_4, HO_6, BK199, HB⟩ := hcut
                        cases kq with
                        | zero => exact absurd HA.out (by simp [spec_l11Edges.j3])
                        | succ kj21 =>
                          have H := HA.out
                          clear HA
                          simp only [spec_l11Edges.j3] at H
                          by_cases c32 : x64_21 = true
                          · subst c32
                            have H1 : (spec_l11Edges.l2 kj21 l0 x3_3 t187 x5_1 t190 (wrap64 (x8_3 + 1))) = some r := by rw [if_pos rfl] at H; exact H
                            clear H
                            have H := H1
                            clear H1
                            have H' := Aside0.mk H
                            clear H
                            go_wp2
                            go_roundg kj21
                            case measure => have := HK1.out; have := HK2.out; have := HK3.out; have := HJ21.out; omega
                            case rel => exact ⟨(x3_3), (wrap64 (x8_3 + 1)), (by first | rfl | (simp; done) | (simp [*]; done)), H', ⟨by have := HK1.out; have := HK2.out; have := HK3.out; have := HJ21.out; omega⟩, ⟨by (with_reducible repeat (first | apply Kd.R_alloc | apply Kd.R_drewN | apply Kd.R_drew)); exact HO_3.out⟩, ⟨by (with_reducible repeat (first | apply Kd.R_alloc | apply Kd.R_drewN | apply Kd.R_drew)); exact HO_4.out⟩, ⟨by (with_reducible repeat (first | apply Kd.R_alloc | apply Kd.R_drewN | apply Kd.R_drew)); exact HO_6.out⟩, ⟨by repeat (first | (with_reducible first | exact HB.out | apply below_alloc | apply pw_below_drewN | apply below_drew1 | refine below_set ?_ GE199.out) | exact HB.out)⟩⟩
                          · replace c32 := Bool.eq_false_iff.mpr c32
                            subst c32
                            have H1 : (if ((rd_T48 l0 x8_3).f3) = ((rd_T48 l0 x8_3).f1) then (spec_l11Edges.j4 kj21 l0 x3_3 t187 x5_1 t190 x8_3 false ((rd_T48 l0 x8_3).f0) ((rd_T48 l0 x8_3).f1) ((rd_T48 l0 x8_3).f2) ((rd_T48 l0 x8_3).f3)) else ((spec_l1Has.f kj21 t187 ((rd_T48 l0 x8_3).f3)).bind fun t201 => (spec_l11Edges.j4 kj21 l0 x3_3 t187 x5_1 t190 x8_3 t201 ((rd_T48 l0 x8_3).f0) ((rd_T48 l0 x8_3).f1) ((rd_T48 l0 x8_3).f2) ((rd_T48 l0 x8_3).f3)))) = some r := by rw [if_neg (show ¬ (false = true) by decide)] at H; exact H
                            clear H
                            have H := H1
                            clear H1
                            have HC33 := Aside0.mk H
                            clear H
                            go_upto_region 16 with (fail)
                            go_cut [75] (fun v75 wc => ∃ (kq : Nat) (x75_32 : Bool), v75 = .bool x75_32 ∧ Aside0 (spec_l11Edges.j4 kq l0 x3_3 t187 x5_1 t190 x8_3 x75_32 ((rd_T48 l0 x8_3).f0) ((rd_T48 l0 x8_3).f1) ((rd_T48 l0 x8_3).f2) ((rd_T48 l0 x8_3).f3) = some r) ∧ Aside0 (kq ≤ kj21) ∧ Aside0 (Kd.R k45 45 wc w.heap.size (fun _ => True) u3 x3_3) ∧ Aside0 (Kd.R (Kd.int .i64) 2 wc w.heap.size (fun k_ => some k_ ≠ ((.slice Ao19 t190.length co19) : Value).ownBlock) v188 t187) ∧ Aside0 (Kd.R (Kd.int .i64) 2 wc w.heap.size (fun k_ => some k_ ≠ (v188 : Value).ownBlock) (.slice Ao19 t190.length co19) t190) ∧ Aside0 (wc.heap[gb199]? = some (.cells #[.int .i64 ((rd_T48 l0 x8_3).f0), .int .i64 ((rd_T48 l0 x8_3).f1), .int .i64 ((rd_T48 l0 x8_3).f2), .int .i64 ((rd_T48 l0 x8_3).f3)] 48 (0, 0))) ∧ Aside0 (Below w.heap.size w wc))
                            case first =>
                              have H := HC33.out
                              clear HC33
                              by_cases c34 : ((rd_T48 l0 x8_3).f3) = ((rd_T48 l0 x8_3).f1)
                              · rw [if_pos c34] at H
                                have c34b0 : (((rd_T48 l0 x8_3).f3) == ((rd_T48 l0 x8_3).f1)) = true := beq_iff_eq.mpr c34
                                have c34b1 : (((rd_T48 l0 x8_3).f3) != ((rd_T48 l0 x8_3).f1)) = false := bne_eq_false_iff_eq.mpr c34
                                clear c34
                                (first | rw [c34b0] | (simp only [i64_w, i32_w]; rw [c34b0]) | skip)
                                have H' := Aside0.mk H
                                clear H
                                have hcz35_0 : wc.cell? ⟨gb199, 0, none⟩ = some (.int .i64 ((rd_T48 l0 x8_3).f0)) := (blk_cell BK199.out 0).trans rfl
                                have hcz35_1 : wc.cell? ⟨gb199, 1, none⟩ = some (.int .i64 ((rd_T48 l0 x8_3).f1)) := (blk_cell BK199.out 1).trans rfl
                                have hcz35_2 : wc.cell? ⟨gb199, 2, none⟩ = some (.int .i64 ((rd_T48 l0 x8_3).f2)) := (blk_cell BK199.out 2).trans rfl
                                have hcz35_3 : wc.cell? ⟨gb199, 3, none⟩ = some (.int .i64 ((rd_T48 l0 x8_3).f3)) := (blk_cell BK199.out 3).trans rfl
                                have hfz35_0 := blk_frozen BK199.out 0
                                have hfz35_1 := blk_frozen BK199.out 1
                                have hfz35_2 := blk_frozen BK199.out 2
                                have hfz35_3 := blk_frozen BK199.out 3
                                go_wp2
                                go_meet
                                case rel => exact ⟨_, (false), (by first | rfl | (simp; done) | (simp [*]; done)), H', ⟨by have := HK1.out; have := HK2.out; have := HK3.out; have := HJ21.out; first | omega | exact Nat.le_refl _⟩, ⟨by (with_reducible repeat (first | apply Kd.R_alloc | apply Kd.R_drewN | apply Kd.R_drew)); exact HO_3.out⟩, ⟨by (with_reducible repeat (first | apply Kd.R_alloc | apply Kd.R_drewN | apply Kd.R_drew)); exact HO_4.out⟩, ⟨by (with_reducible repeat (first | apply Kd.R_alloc | apply Kd.R_drewN | apply Kd.R_drew)); exact HO_6.out⟩, ⟨by (with_reducible repeat (first | refine blk_drewN ?_ _ | refine blk_drew ?_ | refine blk_alloc ?_ _)); exact BK199.out⟩, ⟨by repeat (first | (with_reducible first | exact HB.out | apply below_alloc | apply pw_below_drewN | apply below_drew1 | refine below_set ?_ GE199.out) | exact HB.out)⟩⟩
                              · rw [if_neg c34] at H
                                have c34b0 : (((rd_T48 l0 x8_3).f3) == ((rd_T48 l0 x8_3).f1)) = false := beq_eq_false_iff_ne.mpr c34
                                have c34b1 : (((rd_T48 l0 x8_3).f3) != ((rd_T48 l0 x8_3).f1)) = true := bne_iff_ne.mpr c34
                                (first | rw [c34b0] | (simp only [i64_w, i32_w]; rw [c34b0]) | skip)
                                replace H := Option.bind_eq_some_iff.mp H
                                obtain ⟨t201, A360, H⟩ := H
                                replace H : (spec_l11Edges.j4 kj21 l0 x3_3 t187 x5_1 t190 x8_3 t201 ((rd_T48 l0 x8_3).f0) ((rd_T48 l0 x8_3).f1) ((rd_T48 l0 x8_3).f2) ((rd_T48 l0 x8_3).f3)) = some r := H
                                have A36 := Aside0.mk A360
                                clear A360
                                have H' := Aside0.mk H
                                clear H
                                have hcz37_0 : wc.cell? ⟨gb199, 0, none⟩ = some (.int .i64 ((rd_T48 l0 x8_3).f0)) := (blk_cell BK199.out 0).trans rfl
                                have hcz37_1 : wc.cell? ⟨gb199, 1, none⟩ = some (.int .i64 ((rd_T48 l0 x8_3).f1)) := (blk_cell BK199.out 1).trans rfl
                                have hcz37_2 : wc.cell? ⟨gb199, 2, none⟩ = some (.int .i64 ((rd_T48 l0 x8_3).f2)) := (blk_cell BK199.out 2).trans rfl
                                have hcz37_3 : wc.cell? ⟨gb199, 3, none⟩ = some (.int .i64 ((rd_T48 l0 x8_3).f3)) := (blk_cell BK199.out 3).trans rfl
                                have hfz37_0 := blk_frozen BK199.out 0
                                have hfz37_1 := blk_frozen BK199.out 1
                                have hfz37_2 := blk_frozen BK199.out 2
                                have hfz37_3 := blk_frozen BK199.out 3
                                obtain ⟨Ao38, co38, eo38⟩ := Kd.R_slice HO_4.out
                                subst eo38
                                go_wp2_with (first | (go_at_call 53; (with_reducible refine (spec_l1Has.calls kj21 _ _ t187 ((rd_T48 l0 x8_3).f3) t201 _ ?side1 ?side2 A36.out).mono ?_); (case side1 => repeat (first | exact (Kd.R_reads' HO_4.out).2.2 | (with_reducible refine Kd.C_alloc ?_ _) | (with_reducible refine Kd.C_drewN ?_ _) | (with_reducible refine Kd.C_drew ?_))); (case side2 => exact (Kd.R_reads' HO_4.out).2.1); rintro e w' ⟨rfl, ⟨nd, rfl⟩⟩))
                                go_meet
                                case rel => exact ⟨_, (t201), (by first | rfl | (simp; done) | (simp [*]; done)), H', ⟨by have := HK1.out; have := HK2.out; have := HK3.out; have := HJ21.out; first | omega | exact Nat.le_refl _⟩, ⟨by (with_reducible repeat (first | apply Kd.R_alloc | apply Kd.R_drewN | apply Kd.R_drew)); exact HO_3.out⟩, ⟨by (with_reducible repeat (first | apply Kd.R_alloc | apply Kd.R_drewN | apply Kd.R_drew)); exact HO_4.out⟩, ⟨by (with_reducible repeat (first | apply Kd.R_alloc | apply Kd.R_drewN | apply Kd.R_drew)); exact HO_6.out⟩, ⟨by (with_reducible repeat (first | refine blk_drewN ?_ _ | refine blk_drew ?_ | refine blk_alloc ?_ _)); exact BK199.out⟩, ⟨by repeat (first | (with_reducible first | exact HB.out | apply below_alloc | apply pw_below_drewN | apply below_drew1 | refine below_set ?_ GE199.out) | exact HB.out)⟩⟩
                            case rest =>
                              clear HC33
                              try clear c1
                              try clear p1
                              try clear q1
                              try clear hx1
                              try clear c2
                              try clear p2
                              try clear c3
                              try clear c5
                              try clear c6
                              try clear c6b0
                              try clear p6
                              try clear c9
                              try clear c9b0
                              try clear c11
                              try clear c11b0
                              try clear c12
                              try clear c12b0
                              try clear c13
                              try clear c13b0
                              try clear p19
                              try clear q19
                              try clear hx19
                              try clear c20
                              try clear c20b0
                              try clear c21
                              try clear c21b0
                              try clear c25
                              try clear c25b0
                              try clear c25b1
                              try clear c26
                              try clear c26b0
                              try clear c26b1
                              try clear c29
                              try clear c32
                              try clear c34
                              try clear c34b0
                              try clear c34b1
                              try clear c38
                              try clear hcz24_0
                              try clear hcz24_1
                              try clear hcz24_2
                              try clear hcz24_3
                              try clear hcz28_0
                              try clear hcz28_1
                              try clear hcz28_2
                              try clear hcz28_3
                              try clear hcz30_0
                              try clear hcz30_1
                              try clear hcz30_2
                              try clear hcz30_3
                              try clear hcz31_0
                              try clear hcz31_1
                              try clear hcz31_2
                              try clear hcz31_3
                              try clear hcz35_0
                              try clear hcz35_1
                              try clear hcz35_2
                              try clear hcz35_3
                              try clear hcz37_0
                              try clear hcz37_1
                              try clear hcz37_2
                              try clear hcz37_3
                              try clear hfz24_0
                              try clear hfz24_1
                              try clear hfz24_2
                              try clear hfz24_3
                              try clear hfz28_0
                              try clear hfz28_1
                              try clear hfz28_2
                              try clear hfz28_3
                              try clear hfz30_0
                              try clear hfz30_1
                              try clear hfz30_2
                              try clear hfz30_3
                              try clear hfz31_0
                              try clear hfz31_1
                              try clear hfz31_2
                              try clear hfz31_3
                              try clear hfz35_0
                              try clear hfz35_1
                              try clear hfz35_2
                              try clear hfz35_3
                              try clear hfz37_0
                              try clear hfz37_1
                              try clear hfz37_2
                              try clear hfz37_3
                              try clear hx193_0
                              try clear hx194_0
                              try clear hx198_0
                              try clear hx198_1
                              try clear hx198_2
                              try clear hx198_3
                              try clear p1
                              try clear p19
                              try clear p193
                              try clear p194
                              try clear p198
                              try clear p2
                              try clear p6
                              try clear q1
                              try clear q19
                              try clear q193
                              try clear q194
                              try clear q198
                              obtain ⟨kq, x75_32, rfl, HA, HJ32, HO_3, HO_4, HO_6, BK199, HB⟩ := hcut
                              cases kq with
                              | zero => exact absurd HA.out (by simp [spec_l11Edges.j4])
                              | succ kj32 =>
                                have H := HA.out
                                clear HA
                                simp only [spec_l11Edges.j4] at H
                                have HC39 := Aside0.mk H
                                clear H
                                go_upto_if 75 with (fail)
                                go_cut [3] (fun v3 wc => ∃ (kq : Nat) (x3_38 : List (S45)), Aside0 (spec_l11Edges.j5 kq l0 x3_38 t187 x5_1 t190 x8_3 ((rd_T48 l0 x8_3).f0) ((rd_T48 l0 x8_3).f1) ((rd_T48 l0 x8_3).f2) ((rd_T48 l0 x8_3).f3) = some r) ∧ Aside0 (kq ≤ kj32) ∧ Aside0 (Kd.R k45 45 wc w.heap.size (fun _ => True) v3 x3_38) ∧ Aside0 (Kd.R (Kd.int .i64) 2 wc w.heap.size (fun k_ => some k_ ≠ ((.slice Ao19 t190.length co19) : Value).ownBlock) v188 t187) ∧ Aside0 (Kd.R (Kd.int .i64) 2 wc w.heap.size (fun k_ => some k_ ≠ (v188 : Value).ownBlock) (.slice Ao19 t190.length co19) t190) ∧ Aside0 (wc.heap[gb199]? = some (.cells #[.int .i64 ((rd_T48 l0 x8_3).f0), .int .i64 ((rd_T48 l0 x8_3).f1), .int .i64 ((rd_T48 l0 x8_3).f2), .int .i64 ((rd_T48 l0 x8_3).f3)] 48 (0, 0))) ∧ Aside0 (Below w.heap.size w wc))
                                case first =>
                                  have H := HC39.out
                                  clear HC39
                                  by_cases c40 : x75_32 = true
                                  · subst c40
                                    have H1 : ((spec_l11Add.f kj32 x3_3 ((rd_T48 l0 x8_3).f3) ((rd_T48 l0 x8_3).f1) 2).bind fun t202 => (spec_l11Edges.j5 kj32 l0 t202 t187 x5_1 t190 x8_3 ((rd_T48 l0 x8_3).f0) ((rd_T48 l0 x8_3).f1) ((rd_T48 l0 x8_3).f2) ((rd_T48 l0 x8_3).f3))) = some r := by rw [if_pos rfl] at H; exact H
                                    clear H
                                    have H := H1
                                    clear H1
                                    replace H := Option.bind_eq_some_iff.mp H
                                    obtain ⟨t202, A410, H⟩ := H
                                    replace H : (spec_l11Edges.j5 kj32 l0 t202 t187 x5_1 t190 x8_3 ((rd_T48 l0 x8_3).f0) ((rd_T48 l0 x8_3).f1) ((rd_T48 l0 x8_3).f2) ((rd_T48 l0 x8_3).f3)) = some r := H
                                    have A41 := Aside0.mk A410
                                    clear A410
                                    have H' := Aside0.mk H
                                    clear H
                                    have hcz42_0 : wc.cell? ⟨gb199, 0, none⟩ = some (.int .i64 ((rd_T48 l0 x8_3).f0)) := (blk_cell BK199.out 0).trans rfl
                                    have hcz42_1 : wc.cell? ⟨gb199, 1, none⟩ = some (.int .i64 ((rd_T48 l0 x8_3).f1)) := (blk_cell BK199.out 1).trans rfl
                                    have hcz42_2 : wc.cell? ⟨gb199, 2, none⟩ = some (.int .i64 ((rd_T48 l0 x8_3).f2)) := (blk_cell BK199.out 2).trans rfl
                                    have hcz42_3 : wc.cell? ⟨gb199, 3, none⟩ = some (.int .i64 ((rd_T48 l0 x8_3).f3)) := (blk_cell BK199.out 3).trans rfl
                                    have hfz42_0 := blk_frozen BK199.out 0
                                    have hfz42_1 := blk_frozen BK199.out 1
                                    have hfz42_2 := blk_frozen BK199.out 2
                                    have hfz42_3 := blk_frozen BK199.out 3
                                    obtain ⟨Ao43, co43, eo43⟩ := Kd.R_slice HO_3.out
                                    subst eo43
                                    go_wp2_with (first | ((with_reducible refine gate_callee (f := 66) rfl ?_); refine goesL_ (some 82) rfl rfl Try.func66 (by kernel_rfl) rfl #[.slice Ao43 x3_3.length co43, .agg #[.int .i64 ((rd_T48 l0 x8_3).f3), .int .i64 ((rd_T48 l0 x8_3).f1), .int .i64 2]] rfl (by (try simp only [List.map_toArray, List.map_cons, List.map_nil]); first | done | rfl | (simp only [List.length_drop, List.length_take]; rfl)) ?_; (with_reducible refine (spec_l11Add.calls kj32 (fun k_ => some k_ = (.slice Ao43 x3_3.length co43 : Value).ownBlock) (.slice Ao43 x3_3.length co43) x3_3 ((rd_T48 l0 x8_3).f3) ((rd_T48 l0 x8_3).f1) 2 t202 w _ ?side1 ?side2 A41.out).mono ?_); (case side1 => repeat (first | (with_reducible first | exact HB.out | apply below_alloc | apply pw_below_drewN | apply below_drew1 | refine below_set ?_ GE199.out) | exact HB.out)); (case side2 => exact Kd.R_tight rfl HO_3.out); rintro e w44 ⟨v203, rfl, ho0, hb, hkp⟩; refine ⟨_, rfl, ?_⟩; have n0_ := Aside0.mk (Kd.R_mono (ok' := fun k_ => some k_ ≠ (.slice Ao19 t190.length co19 : Value).ownBlock) (Kd.R_keptB ((Kd.R_apart' HO_4.out (Kd.R_typed HO_3.out) (by decide))) hkp (fun k_ hk_ hs_ => (hk_.2) hs_)) (fun k_ hk_ => hk_.1.1)); have n1_ := Aside0.mk (Kd.R_mono (ok' := fun k_ => some k_ ≠ (v188 : Value).ownBlock) (Kd.R_keptB ((Kd.R_apart' HO_6.out (Kd.R_typed HO_3.out) (by decide))) hkp (fun k_ hk_ hs_ => (hk_.2) hs_)) (fun k_ hk_ => hk_.1.1)); have n2_ := Aside0.mk (blk_kept (by (with_reducible repeat (first | refine blk_drewN ?_ _ | refine blk_drew ?_ | refine blk_alloc ?_ _)); exact BK199.out) hkp (fun hs_ => (fun e_ => (Kd.R_ne HO_3.out BK199.out (by decide)) e_) hs_)); have n3_ := Aside0.mk (Kd.R_mono (ok' := fun k_ => True) ho0 (fun k_ hk_ => trivial)); have n4_ := Aside0.mk (hb); clear HO_4; clear HO_6; clear BK199; clear HB; clear HO_3; have HO_4 := n0_; have HO_6 := n1_; have BK199 := n2_; have HO204 := n3_; have HB := n4_; clear n0_ n1_ n2_ n3_ n4_; (try clear hb); (try clear hkp); (try clear ho0)))
                                    go_meet
                                    case rel => exact ⟨_, (t202), H', ⟨by have := HK1.out; have := HK2.out; have := HK3.out; have := HJ21.out; have := HJ32.out; first | omega | exact Nat.le_refl _⟩, ⟨by (with_reducible repeat (first | apply Kd.R_alloc | apply Kd.R_drewN | apply Kd.R_drew)); exact HO204.out⟩, ⟨by (with_reducible repeat (first | apply Kd.R_alloc | apply Kd.R_drewN | apply Kd.R_drew)); exact HO_4.out⟩, ⟨by (with_reducible repeat (first | apply Kd.R_alloc | apply Kd.R_drewN | apply Kd.R_drew)); exact HO_6.out⟩, ⟨by (with_reducible repeat (first | refine blk_drewN ?_ _ | refine blk_drew ?_ | refine blk_alloc ?_ _)); exact BK199.out⟩, ⟨by repeat (first | (with_reducible first | exact HB.out | apply below_alloc | apply pw_below_drewN | apply below_drew1 | refine below_set ?_ GE199.out) | exact HB.out)⟩⟩
                                  · replace c40 := Bool.eq_false_iff.mpr c40
                                    subst c40
                                    have H1 : (spec_l11Edges.j5 kj32 l0 x3_3 t187 x5_1 t190 x8_3 ((rd_T48 l0 x8_3).f0) ((rd_T48 l0 x8_3).f1) ((rd_T48 l0 x8_3).f2) ((rd_T48 l0 x8_3).f3)) = some r := by rw [if_neg (show ¬ (false = true) by decide)] at H; exact H
                                    clear H
                                    have H := H1
                                    clear H1
                                    have H' := Aside0.mk H
                                    clear H
                                    go_wp2
                                    go_meet
                                    case rel => exact ⟨_, (x3_3), H', ⟨by have := HK1.out; have := HK2.out; have := HK3.out; have := HJ21.out; have := HJ32.out; first | omega | exact Nat.le_refl _⟩, ⟨by (with_reducible repeat (first | apply Kd.R_alloc | apply Kd.R_drewN | apply Kd.R_drew)); exact HO_3.out⟩, ⟨by (with_reducible repeat (first | apply Kd.R_alloc | apply Kd.R_drewN | apply Kd.R_drew)); exact HO_4.out⟩, ⟨by (with_reducible repeat (first | apply Kd.R_alloc | apply Kd.R_drewN | apply Kd.R_drew)); exact HO_6.out⟩, ⟨by (with_reducible repeat (first | refine blk_drewN ?_ _ | refine blk_drew ?_ | refine blk_alloc ?_ _)); exact BK199.out⟩, ⟨by repeat (first | (with_reducible first | exact HB.out | apply below_alloc | apply pw_below_drewN | apply below_drew1 | refine below_set ?_ GE199.out) | exact HB.out)⟩⟩
                                case rest =>
                                  clear HC39
                                  try clear c1
                                  try clear p1
                                  try clear q1
                                  try clear hx1
                                  try clear c2
                                  try clear p2
                                  try clear c3
                                  try clear c4
                                  try clear c5
                                  try clear c6
                                  try clear c6b0
                                  try clear p6
                                  try clear c9
                                  try clear c9b0
                                  try clear c11
                                  try clear c11b0
                                  try clear c12
                                  try clear c12b0
                                  try clear c13
                                  try clear c13b0
                                  try clear p19
                                  try clear q19
                                  try clear hx19
                                  try clear c20
                                  try clear c20b0
                                  try clear c21
                                  try clear c21b0
                                  try clear c25
                                  try clear c25b0
                                  try clear c25b1
                                  try clear c26
                                  try clear c26b0
                                  try clear c26b1
                                  try clear c29
                                  try clear c32
                                  try clear c34
                                  try clear c34b0
                                  try clear c34b1
                                  try clear c38
                                  try clear c40
                                  try clear hcz24_0
                                  try clear hcz24_1
                                  try clear hcz24_2
                                  try clear hcz24_3
                                  try clear hcz28_0
                                  try clear hcz28_1
                                  try clear hcz28_2
                                  try clear hcz28_3
                                  try clear hcz30_0
                                  try clear hcz30_1
                                  try clear hcz30_2
                                  try clear hcz30_3
                                  try clear hcz31_0
                                  try clear hcz31_1
                                  try clear hcz31_2
                                  try clear hcz31_3
                                  try clear hcz35_0
                                  try clear hcz35_1
                                  try clear hcz35_2
                                  try clear hcz35_3
                                  try clear hcz37_0
                                  try clear hcz37_1
                                  try clear hcz37_2
                                  try clear hcz37_3
                                  try clear hcz42_0
                                  try clear hcz42_1
                                  try clear hcz42_2
                                  try clear hcz42_3
                                  try clear hfz24_0
                                  try clear hfz24_1
                                  try clear hfz24_2
                                  try clear hfz24_3
                                  try clear hfz28_0
                                  try clear hfz28_1
                                  try clear hfz28_2
                                  try clear hfz28_3
                                  try clear hfz30_0
                                  try clear hfz30_1
                                  try clear hfz30_2
                                  try clear hfz30_3
                                  try clear hfz31_0
                                  try clear hfz31_1
                                  try clear hfz31_2
                                  try clear hfz31_3
                                  try clear hfz35_0
                                  try clear hfz35_1
                                  try clear hfz35_2
                                  try clear hfz35_3
                                  try clear hfz37_0
                                  try clear hfz37_1
                                  try clear hfz37_2
                                  try clear hfz37_3
                                  try clear hfz42_0
                                  try clear hfz42_1
                                  try clear hfz42_2
                                  try clear hfz42_3
                                  try clear hx193_0
                                  try clear hx194_0
                                  try clear hx198_0
                                  try clear hx198_1
                                  try clear hx198_2
                                  try clear hx198_3
                                  try clear p1
                                  try clear p19
                                  try clear p193
                                  try clear p194
                                  try clear p198
                                  try clear p2
                                  try clear p6
                                  try clear q1
                                  try clear q19
                                  try clear q193
                                  try clear q194
                                  try clear q198
                                  obtain ⟨kq, x3_38, HA, HJ38, HO_3, HO_4, HO_6, BK199, HB⟩ := hcut
                                  cases kq with
                                  | zero => exact absurd HA.out (by simp [spec_l11Edges.j5])
                                  | succ kj38 =>
                                    have H := HA.out
                                    clear HA
                                    simp only [spec_l11Edges.j5] at H
                                    replace H := Option.bind_eq_some_iff.mp H
                                    obtain ⟨t205, A450, H⟩ := H
                                    replace H : (if t205 = 0 then (spec_l11Edges.l2 kj38 l0 x3_38 t187 x5_1 t190 (wrap64 (x8_3 + 1))) else (if t205 = ((rd_T48 l0 x8_3).f1) then (spec_l11Edges.l2 kj38 l0 x3_38 t187 x5_1 t190 (wrap64 (x8_3 + 1))) else ((spec_l11Add.f kj38 x3_38 ((rd_T48 l0 x8_3).f1) t205 4).bind fun t206 => (spec_l11Edges.l2 kj38 l0 t206 t187 x5_1 t190 (wrap64 (x8_3 + 1)))))) = some r := H
                                    have A45 := Aside0.mk A450
                                    clear A450
                                    by_cases c46 : t205 = 0
                                    · rw [if_pos c46] at H
                                      have c46b0 : (t205 == 0) = true := beq_iff_eq.mpr c46
                                      have c46b1 : (t205 != 0) = false := bne_eq_false_iff_eq.mpr c46
                                      clear c46
                                      have H' := Aside0.mk H
                                      clear H
                                      have hcz47_0 : wc.cell? ⟨gb199, 0, none⟩ = some (.int .i64 ((rd_T48 l0 x8_3).f0)) := (blk_cell BK199.out 0).trans rfl
                                      have hcz47_1 : wc.cell? ⟨gb199, 1, none⟩ = some (.int .i64 ((rd_T48 l0 x8_3).f1)) := (blk_cell BK199.out 1).trans rfl
                                      have hcz47_2 : wc.cell? ⟨gb199, 2, none⟩ = some (.int .i64 ((rd_T48 l0 x8_3).f2)) := (blk_cell BK199.out 2).trans rfl
                                      have hcz47_3 : wc.cell? ⟨gb199, 3, none⟩ = some (.int .i64 ((rd_T48 l0 x8_3).f3)) := (blk_cell BK199.out 3).trans rfl
                                      have hfz47_0 := blk_frozen BK199.out 0
                                      have hfz47_1 := blk_frozen BK199.out 1
                                      have hfz47_2 := blk_frozen BK199.out 2
                                      have hfz47_3 := blk_frozen BK199.out 3
                                      go_wp2_with (first | ((with_reducible refine gate_callee (f := 67) rfl ?_); refine goesL_ (some 86) rfl rfl Try.func67 (by kernel_rfl) rfl #[.slice Ao19 t190.length co19, .int .i64 ((rd_T48 l0 x8_3).f3)] rfl (by (try simp only [List.map_toArray, List.map_cons, List.map_nil]); first | done | rfl | (simp only [List.length_drop, List.length_take]; rfl)) ?_; (with_reducible refine (spec_l11Next.calls kj38 _ _ t190 ((rd_T48 l0 x8_3).f3) t205 _ ?side1 ?side2 A45.out).mono ?_); (case side1 => repeat (first | exact (Kd.R_reads' HO_6.out).2.2 | (with_reducible refine Kd.C_alloc ?_ _) | (with_reducible refine Kd.C_drewN ?_ _) | (with_reducible refine Kd.C_drew ?_))); (case side2 => exact (Kd.R_reads' HO_6.out).2.1); rintro e w' ⟨rfl, ⟨nd, rfl⟩⟩; refine ⟨_, rfl, ?_⟩))
                                      go_roundg kj38
                                      case measure => have := HK1.out; have := HK2.out; have := HK3.out; have := HJ21.out; have := HJ32.out; have := HJ38.out; omega
                                      case rel => exact ⟨(x3_38), (wrap64 (x8_3 + 1)), (by first | rfl | (simp; done) | (simp [*]; done)), H', ⟨by have := HK1.out; have := HK2.out; have := HK3.out; have := HJ21.out; have := HJ32.out; have := HJ38.out; omega⟩, ⟨by (with_reducible repeat (first | apply Kd.R_alloc | apply Kd.R_drewN | apply Kd.R_drew)); exact HO_3.out⟩, ⟨by (with_reducible repeat (first | apply Kd.R_alloc | apply Kd.R_drewN | apply Kd.R_drew)); exact HO_4.out⟩, ⟨by (with_reducible repeat (first | apply Kd.R_alloc | apply Kd.R_drewN | apply Kd.R_drew)); exact HO_6.out⟩, ⟨by repeat (first | (with_reducible first | exact HB.out | apply below_alloc | apply pw_below_drewN | apply below_drew1 | refine below_set ?_ GE199.out) | exact HB.out)⟩⟩
                                    · rw [if_neg c46] at H
                                      have c46b0 : (t205 == 0) = false := beq_eq_false_iff_ne.mpr c46
                                      have c46b1 : (t205 != 0) = true := bne_iff_ne.mpr c46
                                      by_cases c48 : t205 = ((rd_T48 l0 x8_3).f1)
                                      · rw [if_pos c48] at H
                                        have c48b0 : (t205 == ((rd_T48 l0 x8_3).f1)) = true := beq_iff_eq.mpr c48
                                        have c48b1 : (t205 != ((rd_T48 l0 x8_3).f1)) = false := bne_eq_false_iff_eq.mpr c48
                                        clear c48
                                        have H' := Aside0.mk H
                                        clear H
                                        have hcz49_0 : wc.cell? ⟨gb199, 0, none⟩ = some (.int .i64 ((rd_T48 l0 x8_3).f0)) := (blk_cell BK199.out 0).trans rfl
                                        have hcz49_1 : wc.cell? ⟨gb199, 1, none⟩ = some (.int .i64 ((rd_T48 l0 x8_3).f1)) := (blk_cell BK199.out 1).trans rfl
                                        have hcz49_2 : wc.cell? ⟨gb199, 2, none⟩ = some (.int .i64 ((rd_T48 l0 x8_3).f2)) := (blk_cell BK199.out 2).trans rfl
                                        have hcz49_3 : wc.cell? ⟨gb199, 3, none⟩ = some (.int .i64 ((rd_T48 l0 x8_3).f3)) := (blk_cell BK199.out 3).trans rfl
                                        have hfz49_0 := blk_frozen BK199.out 0
                                        have hfz49_1 := blk_frozen BK199.out 1
                                        have hfz49_2 := blk_frozen BK199.out 2
                                        have hfz49_3 := blk_frozen BK199.out 3
                                        go_wp2_with (first | ((with_reducible refine gate_callee (f := 67) rfl ?_); refine goesL_ (some 86) rfl rfl Try.func67 (by kernel_rfl) rfl #[.slice Ao19 t190.length co19, .int .i64 ((rd_T48 l0 x8_3).f3)] rfl (by (try simp only [List.map_toArray, List.map_cons, List.map_nil]); first | done | rfl | (simp only [List.length_drop, List.length_take]; rfl)) ?_; (with_reducible refine (spec_l11Next.calls kj38 _ _ t190 ((rd_T48 l0 x8_3).f3) t205 _ ?side1 ?side2 A45.out).mono ?_); (case side1 => repeat (first | exact (Kd.R_reads' HO_6.out).2.2 | (with_reducible refine Kd.C_alloc ?_ _) | (with_reducible refine Kd.C_drewN ?_ _) | (with_reducible refine Kd.C_drew ?_))); (case side2 => exact (Kd.R_reads' HO_6.out).2.1); rintro e w' ⟨rfl, ⟨nd, rfl⟩⟩; refine ⟨_, rfl, ?_⟩))
                                        go_roundg kj38
                                        case measure => have := HK1.out; have := HK2.out; have := HK3.out; have := HJ21.out; have := HJ32.out; have := HJ38.out; omega
                                        case rel => exact ⟨(x3_38), (wrap64 (x8_3 + 1)), (by first | rfl | (simp; done) | (simp [*]; done)), H', ⟨by have := HK1.out; have := HK2.out; have := HK3.out; have := HJ21.out; have := HJ32.out; have := HJ38.out; omega⟩, ⟨by (with_reducible repeat (first | apply Kd.R_alloc | apply Kd.R_drewN | apply Kd.R_drew)); exact HO_3.out⟩, ⟨by (with_reducible repeat (first | apply Kd.R_alloc | apply Kd.R_drewN | apply Kd.R_drew)); exact HO_4.out⟩, ⟨by (with_reducible repeat (first | apply Kd.R_alloc | apply Kd.R_drewN | apply Kd.R_drew)); exact HO_6.out⟩, ⟨by repeat (first | (with_reducible first | exact HB.out | apply below_alloc | apply pw_below_drewN | apply below_drew1 | refine below_set ?_ GE199.out) | exact HB.out)⟩⟩
                                      · rw [if_neg c48] at H
                                        have c48b0 : (t205 == ((rd_T48 l0 x8_3).f1)) = false := beq_eq_false_iff_ne.mpr c48
                                        have c48b1 : (t205 != ((rd_T48 l0 x8_3).f1)) = true := bne_iff_ne.mpr c48
                                        replace H := Option.bind_eq_some_iff.mp H
                                        obtain ⟨t206, A500, H⟩ := H
                                        replace H : (spec_l11Edges.l2 kj38 l0 t206 t187 x5_1 t190 (wrap64 (x8_3 + 1))) = some r := H
                                        have A50 := Aside0.mk A500
                                        clear A500
                                        have H' := Aside0.mk H
                                        clear H
                                        have hcz51_0 : wc.cell? ⟨gb199, 0, none⟩ = some (.int .i64 ((rd_T48 l0 x8_3).f0)) := (blk_cell BK199.out 0).trans rfl
                                        have hcz51_1 : wc.cell? ⟨gb199, 1, none⟩ = some (.int .i64 ((rd_T48 l0 x8_3).f1)) := (blk_cell BK199.out 1).trans rfl
                                        have hcz51_2 : wc.cell? ⟨gb199, 2, none⟩ = some (.int .i64 ((rd_T48 l0 x8_3).f2)) := (blk_cell BK199.out 2).trans rfl
                                        have hcz51_3 : wc.cell? ⟨gb199, 3, none⟩ = some (.int .i64 ((rd_T48 l0 x8_3).f3)) := (blk_cell BK199.out 3).trans rfl
                                        have hfz51_0 := blk_frozen BK199.out 0
                                        have hfz51_1 := blk_frozen BK199.out 1
                                        have hfz51_2 := blk_frozen BK199.out 2
                                        have hfz51_3 := blk_frozen BK199.out 3
                                        go_wp2_with (first | ((with_reducible refine gate_callee (f := 67) rfl ?_); refine goesL_ (some 86) rfl rfl Try.func67 (by kernel_rfl) rfl #[.slice Ao19 t190.length co19, .int .i64 ((rd_T48 l0 x8_3).f3)] rfl (by (try simp only [List.map_toArray, List.map_cons, List.map_nil]); first | done | rfl | (simp only [List.length_drop, List.length_take]; rfl)) ?_; (with_reducible refine (spec_l11Next.calls kj38 _ _ t190 ((rd_T48 l0 x8_3).f3) t205 _ ?side1 ?side2 A45.out).mono ?_); (case side1 => repeat (first | exact (Kd.R_reads' HO_6.out).2.2 | (with_reducible refine Kd.C_alloc ?_ _) | (with_reducible refine Kd.C_drewN ?_ _) | (with_reducible refine Kd.C_drew ?_))); (case side2 => exact (Kd.R_reads' HO_6.out).2.1); rintro e w' ⟨rfl, ⟨nd, rfl⟩⟩; refine ⟨_, rfl, ?_⟩; obtain ⟨Ao52, co52, eo52⟩ := Kd.R_slice HO_3.out; subst eo52) | ((with_reducible refine gate_callee (f := 66) rfl ?_); refine goesL_ (some 100) rfl rfl Try.func66 (by kernel_rfl) rfl #[.slice Ao52 x3_38.length co52, .agg #[.int .i64 ((rd_T48 l0 x8_3).f1), .int .i64 t205, .int .i64 4]] rfl (by (try simp only [List.map_toArray, List.map_cons, List.map_nil]); first | done | rfl | (simp only [List.length_drop, List.length_take]; rfl)) ?_; (with_reducible refine (spec_l11Add.calls kj38 (fun k_ => some k_ = (.slice Ao52 x3_38.length co52 : Value).ownBlock) (.slice Ao52 x3_38.length co52) x3_38 ((rd_T48 l0 x8_3).f1) t205 4 t206 w _ ?side1 ?side2 A50.out).mono ?_); (case side1 => repeat (first | (with_reducible first | exact HB.out | apply below_alloc | apply pw_below_drewN | apply below_drew1 | refine below_set ?_ GE199.out) | exact HB.out)); (case side2 => exact Kd.R_tight rfl HO_3.out); rintro e w53 ⟨v207, rfl, ho0, hb, hkp⟩; refine ⟨_, rfl, ?_⟩; have n0_ := Aside0.mk (Kd.R_mono (ok' := fun k_ => some k_ ≠ (.slice Ao19 t190.length co19 : Value).ownBlock) (Kd.R_keptB ((Kd.R_apart' HO_4.out (Kd.R_typed HO_3.out) (by decide))) hkp (fun k_ hk_ hs_ => (hk_.2) hs_)) (fun k_ hk_ => hk_.1.1)); have n1_ := Aside0.mk (Kd.R_mono (ok' := fun k_ => some k_ ≠ (v188 : Value).ownBlock) (Kd.R_keptB ((Kd.R_apart' HO_6.out (Kd.R_typed HO_3.out) (by decide))) hkp (fun k_ hk_ hs_ => (hk_.2) hs_)) (fun k_ hk_ => hk_.1.1)); have n2_ := Aside0.mk (blk_kept (by (with_reducible repeat (first | refine blk_drewN ?_ _ | refine blk_drew ?_ | refine blk_alloc ?_ _)); exact BK199.out) hkp (fun hs_ => (fun e_ => (Kd.R_ne HO_3.out BK199.out (by decide)) e_) hs_)); have n3_ := Aside0.mk (Kd.R_mono (ok' := fun k_ => True) ho0 (fun k_ hk_ => trivial)); have n4_ := Aside0.mk (hb); clear HO_4; clear HO_6; clear BK199; clear HB; clear HO_3; have HO_4 := n0_; have HO_6 := n1_; have BK199 := n2_; have HO208 := n3_; have HB := n4_; clear n0_ n1_ n2_ n3_ n4_; (try clear hb); (try clear hkp); (try clear ho0)))
                                        go_roundg kj38
                                        case measure => have := HK1.out; have := HK2.out; have := HK3.out; have := HJ21.out; have := HJ32.out; have := HJ38.out; omega
                                        case rel => exact ⟨(t206), (wrap64 (x8_3 + 1)), (by first | rfl | (simp; done) | (simp [*]; done)), H', ⟨by have := HK1.out; have := HK2.out; have := HK3.out; have := HJ21.out; have := HJ32.out; have := HJ38.out; omega⟩, ⟨by (with_reducible repeat (first | apply Kd.R_alloc | apply Kd.R_drewN | apply Kd.R_drew)); exact HO208.out⟩, ⟨by (with_reducible repeat (first | apply Kd.R_alloc | apply Kd.R_drewN | apply Kd.R_drew)); exact HO_4.out⟩, ⟨by (with_reducible repeat (first | apply Kd.R_alloc | apply Kd.R_drewN | apply Kd.R_drew)); exact HO_6.out⟩, ⟨by repeat (first | (with_reducible first | exact HB.out | apply below_alloc | apply pw_below_drewN | apply below_drew1 | refine below_set ?_ GE199.out) | exact HB.out)⟩⟩
                    · rw [if_neg c21] at H
                      exact absurd H (by simp)
                  · rw [if_neg c20] at H
                    have c20b0 : decide (x8_3 < (l0.length : Int)) = false := decide_eq_false c20
                    clear c20
                    have H' := Aside0.mk H
                    clear H
                    go_wp2
                    go_roundg k3
                    case measure => have := HK1.out; have := HK2.out; have := HK3.out; omega
                    case rel => exact ⟨(x3_3), (wrap64 (x5_1 + 1)), (by first | rfl | (simp; done) | (simp [*]; done)), H', ⟨by have := HK1.out; have := HK2.out; have := HK3.out; omega⟩, ⟨by (with_reducible repeat (first | apply Kd.R_alloc | apply Kd.R_drewN | apply Kd.R_drew)); exact HO_3.out⟩, ⟨by (with_reducible repeat (first | apply Kd.R_alloc | apply Kd.R_drewN | apply Kd.R_drew)); exact Kd.R_mono HO_4.out (fun _ hk => trivial)⟩, ⟨by repeat (first | (with_reducible first | exact HB.out | apply below_alloc | apply pw_below_drewN | apply below_drew1) | exact HB.out)⟩⟩
      · rw [if_neg c6] at H
        have c6b0 : decide (x5_1 ≤ 31) = false := decide_eq_false c6
        clear c6
        obtain rfl := Option.some.inj H
        go_wp2
        go_ret
        exact ⟨_, by first | rfl | (simp [errW_none, errW_some] <;> rfl) | (simp [*, errW_none, errW_some] <;> rfl), by (with_reducible repeat (first | apply Kd.R_alloc | apply Kd.R_drewN | apply Kd.R_drew)); exact HO_3.out, by repeat (first | (with_reducible first | exact HB.out | apply below_alloc | apply pw_below_drewN | apply below_drew1) | exact HB.out)⟩

end Go.Proofs.Ytkabmhjnhcfkcaa.XFnExactSerialOrder
