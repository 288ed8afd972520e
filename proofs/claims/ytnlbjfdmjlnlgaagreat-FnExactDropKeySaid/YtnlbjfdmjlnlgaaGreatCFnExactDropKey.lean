/- The law FnExactDropKey answers true at every input: its row, out of its walk; no condition. Written by a program of this session. -/
import Derived.Test.YtnlbjfdmjlnlgaaGreatRows
import Derived.Test.YtnlbjfdmjlnlgaaGreatU5
import Derived.WalkKit
import Derived.ProofKit
import Derived.OpenShut
import Derived.ShutString
import Derived.ChangeOld
import Derived.Below
import Derived.SizedLaws
namespace Go.Proofs.YtnlbjfdmjlnlgaaGreat.fnExactDropKey
open Go.ChangeShapes Go.WideShapes Go.ChangeAt Go.RowKit Go.Px
open Go.ChangeMaps (open_string shut_string)
set_option linter.unusedVariables false
set_option linter.unusedSimpArgs false
theorem own : ownKnob Tryz.prog.godebug = none := by kernel_rfl
theorem laidOut : laidOutB Tryz.prog = true := by kernel_rfl
theorem law_at (x0 : DEngine) (wf0 : x0.wf) (x1 : Int) (wf1 : (Lit.int .i64 x1).wf = true) (x2 : Int) (wf2 : (Lit.int .i64 x2).wf = true) : PFun Tryz.prog 7 [.a (refs (([] : List Cell)).length (x0.enc)), .c ((refs ((x0.enc : List Cell)).length ([.v (.int .i64 x1)])).headD .x), .c ((refs ((x0.enc ++ [.v (.int .i64 x1)] : List Cell)).length ([.v (.int .i64 x2)])).headD .x)] (roots 0 ((x0.enc) ++ ([.v (.int .i64 x1)]) ++ ([.v (.int .i64 x2)]))) (.c (.v (.bool true))) := by
  have := laws_FnExactDropKey (roots 0 [.v (.int .i64 x0.next), .v (.int .i64 x0.clock), .own 5 (x0.txns.map DTxn.enc), .own 2 (x0.rows.map DRow.enc), .v (.int .i64 x1), .v (.int .i64 x2)]) (r0_2 := (0, 2)) (q0_2 := []) (r0_3 := (0, 3)) (q0_3 := []) wf0 wf1 wf2 (DEngine.wf_le wf0) (by simp [roots, DEngine.enc]) (by simp [roots, DEngine.enc])
  simpa [refs, DEngine.enc] using this
set_option maxRecDepth 100000 in
theorem lifted (os : Os) (started : os.Started) (H : Type) (enc : TypeId × Value → H) :
    ReturnsInHanded {} Tryz.checked os 7 .any (Rows.fnExactDropKeySpec.pre6 enc Tryz.prog Tryz.f7 Rows.fnExactDropKeyRow.domain false) (Rows.fnExactDropKeySpec.post enc Tryz.prog Tryz.f7 false true false false) := by
  refine returnsInHanded_of_change_sized (C := Tryz.checked) own started (by kernel_rfl) Tryz.func7
    (ChangeSpec.witness6 (enc := enc) (C := Tryz.checked) false ⟨#[], #[.agg #[.int .i64 0, .int .i64 0, .slice none 0 0, .slice none 0 0], .int .i64 0, .int .i64 0], []⟩ 8 (by kernel_rfl) (by kernel_rfl) (by kernel_rfl) (by kernel_rfl)) ?_
  intro W base args ds gs before hval0 hW hcnd hsz0 _
  have hval : ∀ (j : Nat) t v, Tryz.f7.params[j]? = some t → args[j]? = some v → Value.okWide Tryz.prog W .any base t v := hval0
  have hW' := hW
  obtain ⟨p, q, hA0, hV, rfl, hfz, hnd⟩ := hW
  have hA : DataW.TrodAll enc Tryz.prog W 0 (fun _ => true) true Tryz.f7.params.toList args.toList ds p := hA0
  rw [Tryz.params7] at hA hval
  obtain ⟨v0, vs0, d0, ds0, p0, q0, hargs, rfl, rfl, h0, r0⟩ := trodAll_cons hA
  obtain ⟨v1, vs1, d1, ds1, p1, q1, rfl, rfl, rfl, h1, r1⟩ := trodAll_cons r0
  obtain ⟨v2, vs2, d2, ds2, p2, q2, rfl, rfl, rfl, h2, r2⟩ := trodAll_cons r1
  obtain ⟨rfl, rfl, rfl⟩ := trodAll_nil r2
  obtain rfl : args = #[v0, v1, v2] := by cases args; simp_all
  obtain ⟨rfl, rfl⟩ := trodVars_none hV
  have k0 := h0
  have lt0 : ∀ x ∈ p0, x.block < W.heap.size := by obtain ⟨m, hm⟩ := k0; exact DataW.trod_lt m _ _ _ hm
  obtain ⟨fuel0, hf0⟩ := h0
  obtain ⟨cs0, rfl, hz0⟩ := okWide_struct Tryz.underlying25 (hval 0 25 v0 rfl rfl)
  obtain ⟨x0, i0, wf0⟩ := Px.Op.in_ (op25) hf0 (fun b off hb => hfz b off (by simp [hb]))
  have i0 : In W (x0.enc) (cs0.toList) := by simpa [Value.cells] using i0
  have k1 := h1
  have lt1 : ∀ x ∈ p1, x.block < W.heap.size := by obtain ⟨m, hm⟩ := k1; exact DataW.trod_lt m _ _ _ hm
  obtain ⟨fuel1, hf1⟩ := h1
  obtain ⟨a1, rfl, rfl, rfl, w1⟩ := open_int Tryz.underlying2 (hval 1 2 v1 rfl rfl) k1
  obtain ⟨x1, i1, wf1⟩ := Px.Op.in_ ((Px.Op.int (t := 2) (k := .i64) (by kernel_rfl))) hf1 (fun b off hb => absurd hb (by simp))
  have i1 : In W ([.v (.int .i64 x1)]) ([.int .i64 a1]) := by simpa [Value.cells] using i1
  have k2 := h2
  have lt2 : ∀ x ∈ p2, x.block < W.heap.size := by obtain ⟨m, hm⟩ := k2; exact DataW.trod_lt m _ _ _ hm
  obtain ⟨fuel2, hf2⟩ := h2
  obtain ⟨a2, rfl, rfl, rfl, w2⟩ := open_int Tryz.underlying2 (hval 2 2 v2 rfl rfl) k2
  obtain ⟨x2, i2, wf2⟩ := Px.Op.in_ ((Px.Op.int (t := 2) (k := .i64) (by kernel_rfl))) hf2 (fun b off hb => absurd hb (by simp))
  have i2 : In W ([.v (.int .i64 x2)]) ([.int .i64 a2]) := by simpa [Value.cells] using i2
  have iall := i0.append (i1.append (i2))
  obtain ⟨β, hh, hr⟩ := iall.open
  have t0 := hr ([]) (x0.enc) ([.v (.int .i64 x1)] ++ [.v (.int .i64 x2)]) ([]) (cs0.toList) ([.int .i64 a1] ++ [.int .i64 a2]) (by simp) (by simp) (by simpa using In.nil) i0 (by first | rfl | simp [noRef, isRef])
  have t1 := hr (x0.enc) ([.v (.int .i64 x1)]) ([.v (.int .i64 x2)]) (cs0.toList) ([.int .i64 a1]) ([.int .i64 a2]) (by simp) (by simp) (by simpa using i0) i1 (by first | rfl | simp [noRef, isRef])
  have t2 := hr (x0.enc ++ [.v (.int .i64 x1)]) ([.v (.int .i64 x2)]) ([]) (cs0.toList ++ [.int .i64 a1]) ([.int .i64 a2]) ([]) (by simp) (by simp) (by simpa using i0.append (i1)) i2 (by first | rfl | simp [noRef, isRef])
  clear hA0 hval0 hsz0
  have htr : TReps (VP W β _) W _ _ [] := (TReps.cons (F := []) (.a t0) (TReps.cons (F := []) (.c (VRep.single t1)) (TReps.cons (F := []) (.c (VRep.single t2)) .nil)))
  refine (PCalls.close (law_at x0 wf0 x1 wf1 x2 wf2) hh (by simpa [Array.toArray_toList, refs] using htr)).mono fun e W' hres => ?_
  obtain ⟨rfl, bel⟩ := hres
  exact ⟨_, rfl, _, _, _, [], _, [], hW', trodAll_mk1 (shut_bool Tryz.underlying4 _), (trodAll_cons_mk (Below.trod laidOut (by kernel_rfl) (of_decide_eq_true (by kernel_rfl)) k0 bel lt0) (trodAll_cons_mk (Below.trod laidOut (by kernel_rfl) (of_decide_eq_true (by kernel_rfl)) k1 bel lt1) (trodAll_cons_mk (Below.trod laidOut (by kernel_rfl) (of_decide_eq_true (by kernel_rfl)) k2 bel lt2) trodAll_mk0))), rfl, bel.frame _, fun h => by cases h⟩
theorem over : Rows.fnExactDropKeyRow.holds Tryz.pinned (OpenSpec.ofChange Rows.fnExactDropKeySpec) :=
  OpenClaim.holds_of_wide 7 Tryz.f7 rfl rfl rfl rfl rfl rfl rfl ⟨rfl, rfl, rfl, rfl, rfl⟩ rfl rfl rfl rfl rfl (by kernel_rfl) Tryz.func7 (by kernel_rfl)
    (of_decide_eq_true (by kernel_rfl)) (by unfold Func.isWrapper; first | (rw [if_pos (by decide +kernel)]; kernel_rfl) | (rw [if_neg (by decide +kernel)]; exact ⟨rfl, rfl⟩))
    (fun os started H enc _ => lifted os started H enc)
theorem proved : Rows.FnExactDropKeySaid := over
#print axioms proved
end Go.Proofs.YtnlbjfdmjlnlgaaGreat.fnExactDropKey
namespace Go.Proofs.YtnlbjfdmjlnlgaaGreat
/-- The row, under a short name, for the claim. -/
theorem fnExactDropKey_holds : Rows.FnExactDropKeySaid := fnExactDropKey.proved
end Go.Proofs.YtnlbjfdmjlnlgaaGreat
