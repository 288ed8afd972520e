/- Part 4 of the proof that the law FnExactPurgeEngine answers true at every input: memory as trees, the program walked over them, and what it computes; no condition. -/
import Derived.Test.YtnlbjfdmjlnlgaaGreatU3
namespace Go.Px
open Go.RowKit
set_option linter.unusedVariables false
set_option linter.unusedSimpArgs false
set_option linter.constructorNameAsVariable false
/-- what is owned in hand gets a name of its own -/
def refsD (d : Nat) : Nat → List Cell → List Cell
  | _, [] => []
  | k, .own z els :: t => .sl (d, k) [] z 0 els.length :: refsD d (k + 1) t
  | k, c :: t => c :: refsD d (k + 1) t
def rootsD (d : Nat) : Nat → List Cell → HH
  | _, [] => []
  | k, .own z els :: t => ((d, k), .own z els) :: rootsD d (k + 1) t
  | k, c :: t => rootsD d (k + 1) t
def cellsA : List T → List Cell
  | [] => []
  | .a l :: t => l ++ cellsA t
  | .c c :: t => c :: cellsA t
  | _ :: t => cellsA t
def refsA (d : Nat) : Nat → List T → List T
  | _, [] => []
  | k, .a l :: t => .a (refsD d k l) :: refsA d (k + l.length) t
  | k, .c (.own z els) :: t => .c (.sl (d, k) [] z 0 els.length) :: refsA d (k + 1) t
  | k, .c c :: t => .c c :: refsA d (k + 1) t
  | k, x :: t => x :: refsA d k t
def rootable : List T → Bool
  | [] => true
  | .a _ :: t => rootable t
  | .c _ :: t => rootable t
  | _ :: _ => false
theorem Holds.append {g R w β} : ∀ {H1 F1 H2 F2}, Holds g R w β H1 F1 → Holds g R w β H2 F2 → Holds g R w β (H1 ++ H2) (F1 ++ F2)
  | _, _, _, _, .nil, h => h
  | _, _, _, _, .sh h0 hr hb ht, h => .sh h0 hr hb (ht.append h)
  | _, _, _, _, .ow h0 hr ht, h => by rw [List.append_assoc]; exact .ow h0 hr (ht.append h)
theorem Holds.split {g R w β} : ∀ {H1 H2 F}, Holds g R w β (H1 ++ H2) F → ∃ F1 F2, F = F1 ++ F2 ∧ Holds g R w β H1 F1 ∧ Holds g R w β H2 F2
  | [], H2, F, h => ⟨[], F, rfl, .nil, h⟩
  | e :: H1, H2, F, h => by
    cases h with
    | sh h0 hr hb ht =>
      obtain ⟨F1, F2, rfl, h1, h2⟩ := ht.split
      exact ⟨F1, F2, rfl, .sh h0 hr hb h1, h2⟩
    | ow h0 hr ht =>
      obtain ⟨F1, F2, rfl, h1, h2⟩ := ht.split
      exact ⟨_, F2, by rw [← List.append_assoc], .ow h0 hr h1, h2⟩
theorem rootsD_holds {g : Nat} {R : Cell → Value → Prop} {w : World} {β : Nm → Value} {d : Nat} (hd : d ≠ 0) : ∀ {l : List Cell} {vs : List Value} {F : List Nat} {k : Nat}, VRep R w l vs F → (∀ j v, vs[j]? = some v → β (d, k + j) = v) → Holds g R w β (rootsD d k l) F
  | _, _, _, k, .nil, hβ => .nil
  | c :: t, _, _, k, @VRep.cons _ _ _ x F1 _ xs G hc ht, hβ => by
    have hx : β (d, k) = x := by simpa using hβ 0 x (by simp)
    have ih := rootsD_holds (g := g) hd (k := k + 1) ht (fun j v hj => by rw [← hβ (j + 1) v (by simpa using hj)]; congr 2; omega)
    by_cases ho : isOwn c = true
    · cases c with
      | own z els =>
        simp only [rootsD]
        exact .ow hd (by rw [hx]; exact hc) ih
      | _ => simp [isOwn] at ho
    · have hF := hc.bare (by simpa using ho)
      subst hF
      cases c with
      | own z els => simp [isOwn] at ho
      | _ => simpa [rootsD] using ih
theorem refsD_rep {R R' : Cell → Value → Prop} {w : World} {d : Nat} : ∀ {l : List Cell} {vs : List Value} {F : List Nat} {k : Nat}, VRep R w l vs F → (∀ c x, isRef c = true → R c x → R' c x) → (∀ (j : Nat) z els v, l[j]? = some (.own z els) → vs[j]? = some v → R' (.sl (d, k + j) [] z 0 els.length) v) →
    VRep R' w (refsD d k l) vs []
  | _, _, _, k, .nil, hR, hO => .nil
  | c :: t, _, _, k, @VRep.cons _ _ _ x F1 _ xs G hc ht, hR, hO => by
    have ih := refsD_rep (d := d) (k := k + 1) ht hR (fun j z els v hj hv => by have := hO (j + 1) z els v (by simpa using hj) (by simpa using hv); rwa [show k + 1 + j = k + (j + 1) by omega])
    cases c with
    | own z els =>
      simp only [refsD]
      exact VRep.cons (F := []) (.ref rfl hc.flat (by simpa using hO 0 z els x rfl rfl)) ih
    | v y => cases hc with
      | v _ h => simpa [refsD] using VRep.cons (.v _ h) ih
      | ref hi => simp [isRef] at hi
    | x => cases hc with
      | x _ h => simpa [refsD] using VRep.cons (.x _ h) ih
      | ref hi => simp [isRef] at hi
    | sl r q z i n => cases hc with
      | ref hi hf hv => simpa [refsD] using VRep.cons (.ref rfl hf (hR _ _ rfl hv)) ih
    | pt r q z i f => cases hc with
      | ref hi hf hv => simpa [refsD] using VRep.cons (.ref rfl hf (hR _ _ rfl hv)) ih
    | fn f cs => cases hc with
      | ref hi hf hv => simpa [refsD] using VRep.cons (.ref rfl hf (hR _ _ rfl hv)) ih
theorem refsA_rep {R : Cell → Value → Prop} {w : World} {d : Nat} : ∀ {args : List T} {vs : List Value} {FA : List Nat} {k : Nat}, rootable args = true → TReps R w args vs FA → ∃ V, VRep R w (cellsA args) V FA ∧
    ∀ R' : Cell → Value → Prop, (∀ c x, isRef c = true → R c x → R' c x) → (∀ (j : Nat) z els v, (cellsA args)[j]? = some (.own z els) → V[j]? = some v → R' (.sl (d, k + j) [] z 0 els.length) v) → TReps R' w (refsA d k args) vs []
  | [], _, _, k, _, .nil => ⟨[], .nil, fun _ _ _ => .nil⟩
  | .a l :: t, _, _, k, hr, @TReps.cons _ _ _ v F _ vs' G hx ht => by
    obtain ⟨vs, rfl, hl⟩ := trep_a hx
    obtain ⟨V, h1, h2⟩ := refsA_rep (d := d) (k := k + l.length) (by simpa [rootable] using hr) ht
    have hll := hl.length
    refine ⟨vs ++ V, hl.append h1, fun R' hR hO => ?_⟩
    simp only [refsA]
    have e1 := refsD_rep (d := d) (k := k) hl hR (fun j z els v hj hv => by
      have hlt := (List.getElem?_eq_some_iff.1 hj).1
      exact hO j z els v (by simp only [cellsA]; rw [List.getElem?_append_left hlt]; exact hj) (by rw [List.getElem?_append_left (by omega)]; exact hv))
    have e2 := h2 R' hR (fun j z els v hj hv => by
      have := hO (l.length + j) z els v (by simp only [cellsA]; rw [List.getElem?_append_right (by omega)]; simpa using hj) (by rw [List.getElem?_append_right (by omega), hll]; simpa using hv)
      rwa [show k + l.length + j = k + (l.length + j) by omega])
    exact TReps.cons (F := []) (.a e1) e2
  | .c c :: t, _, _, k, hr, @TReps.cons _ _ _ v F _ vs' G hx ht => by
    cases hx with
    | c hx =>
      obtain ⟨V, h1, h2⟩ := refsA_rep (d := d) (k := k + 1) (by simpa [rootable] using hr) ht
      have h0 : VRep R w [c] [v] F := by simpa using VRep.cons hx .nil
      refine ⟨v :: V, .cons hx h1, fun R' hR hO => ?_⟩
      have e1 := refsD_rep (d := d) (k := k) h0 hR (fun j z els u hj hv => by
        cases j with
        | zero => simp at hj hv; subst hj hv; exact hO 0 z els _ rfl rfl
        | succ j => simp at hj)
      have e2 := h2 R' hR (fun j z els u hj hv => by
        have := hO (j + 1) z els u (by simpa [cellsA] using hj) (by simpa using hv)
        rwa [show k + 1 + j = k + (j + 1) by omega])
      have key : ∀ c', refsD d k [c] = [c'] → TReps R' w (.c c' :: refsA d (k + 1) t) (v :: vs') [] := fun c' hc' => by
        rw [hc'] at e1
        obtain ⟨v', F1, k1, k2, k3⟩ := e1.nth (j := 0) rfl
        simp at k1 k3; subst k1; subst k3
        exact TReps.cons (F := []) (.c k2) e2
      cases c <;> exact key _ rfl
  | .t l :: t, _, _, k, hr, h => by simp [rootable] at hr
  | .u :: t, _, _, k, hr, h => by simp [rootable] at hr
theorem look_append {r : Nm} : ∀ {H1 H2 : HH}, look (H1 ++ H2) r = match look H1 r with | some c => some c | none => look H2 r
  | [], H2 => rfl
  | (s, c) :: t, H2 => by
    by_cases e : s = r
    · simp [look, e]
    · simp only [List.cons_append, look, e, if_false]; exact look_append
theorem look_rootsD_ne {d : Nat} {r : Nm} (hr : r.1 ≠ d) : ∀ {l : List Cell} {k : Nat}, look (rootsD d k l) r = none
  | [], k => rfl
  | c :: t, k => by
    have ih := look_rootsD_ne hr (l := t) (k := k + 1)
    cases c with
    | own z els => simp only [rootsD, look]; rw [if_neg (fun e => hr (by rw [← e])), ih]
    | _ => simpa [rootsD] using ih
theorem look_rootsD {d : Nat} : ∀ {l : List Cell} {k j : Nat} {z els}, l[j]? = some (.own z els) → look (rootsD d k l) (d, k + j) = some (.own z els)
  | [], k, j, z, els, h => by simp at h
  | c :: t, k, 0, z, els, h => by simp at h; subst h; simp [rootsD, look]
  | c :: t, k, j + 1, z, els, h => by
    have ih := look_rootsD (d := d) (l := t) (k := k + 1) (j := j) (by simpa using h)
    rw [show k + 1 + j = k + (j + 1) by omega] at ih
    cases c with
    | own z' els' =>
      simp only [rootsD, look]
      rw [if_neg (fun e => by have := (Prod.mk.injEq _ _ _ _ ▸ e : d = d ∧ k = k + (j + 1)).2; omega)]
      exact ih
    | _ => simpa [rootsD] using ih
theorem vp1_out {w : World} {β β' : Nm → Value} {H H' : HH} {d : Nat} (hβ : ∀ r, r.1 ≠ d → β' r = β r) (hl : ∀ r, r.1 ≠ d → look H' r = look H r) : ∀ c x, ¬ atD1 d c → VP1 w β H c x → VP1 w β' H' c x := by
  intro c x hn h
  cases c with
  | sl r q z i n => obtain ⟨c, els, hd, e1, e2, e3, e4⟩ := h; exact ⟨c, els, hd, (hl r hn).trans e1, e2, by rw [hβ r hn]; exact e3, e4⟩
  | pt r q z i f => obtain ⟨c, els, hd, e1, e2, e3, e4⟩ := h; exact ⟨c, els, hd, (hl r hn).trans e1, e2, by rw [hβ r hn]; exact e3, e4⟩
  | v y => exact h
  | own z els => exact h.elim
  | fn f cs => exact h.elim
  | x => exact h.elim
theorem vp_named {R : Cell → Value → Prop} {w : World} {β : Nm → Value} {H : HH} {nm : Nm} {z : Nat} {els : List (List Cell)} {v : Value} {F : List Nat} (h : Rep R w (.own z els) v F) (hl : look H nm = some (.own z els)) (hβ : β nm = v) : VP w β H (.sl nm [] z 0 els.length) v := by
  refine ⟨.own z els, els, v, hl, rfl, by simp [hdr, hβ], by simp, ?_⟩
  cases h with
  | ref hi => simp [isRef] at hi
  | nil z A => exact .inr ⟨rfl, A, rfl, _, _, rfl⟩
  | @own _ b off cap _ arr el fr F hz hb hfr hr hl hs hreps => exact .inl ⟨b, off, _, cap, cap, rfl, by simp, hl, by omega⟩
/-- A contract over references serves for what is owned in hand. -/
theorem PFun.root {P : Program} {f : FuncId} {args : List T} {H : HH} {x : T} (hr : rootable args = true) (hx : ∀ d, x.clean (atD d))
    (h : ∀ d, d ≠ 0 → (∀ n, look H (d, n) = none) → PFun P f (refsA d 0 args) (rootsD d 0 (cellsA args) ++ H) x) : PFun P f args H x := by
  intro g w β F FA vs hgl hh ht hn hlow
  obtain ⟨d, hd0, hfr⟩ := exists_fresh H
  have hfr' : ∀ n, look H (d, n) = none := fun n => by
    cases hl : look H (d, n) with
    | none => rfl
    | some c => exact absurd rfl (hfr _ (look_mem hl))
  obtain ⟨V, hV, hmk⟩ := refsA_rep (d := d) (k := 0) hr ht
  let β' : Nm → Value := fun r => if r.1 = d then V.getD r.2 undef else β r
  have hβd : ∀ (j : Nat) v, V[j]? = some v → β' (d, 0 + j) = v := fun j v hj => by
    show (if (d, 0 + j).1 = d then V.getD (0 + j) undef else _) = v
    rw [if_pos rfl, Nat.zero_add, List.getD_eq_getElem?_getD, hj]; rfl
  have hβ : ∀ r : Nm, r.1 ≠ d → β' r = β r := fun r hr => by show (if r.1 = d then _ else _) = _; rw [if_neg hr]
  have hlk : ∀ r : Nm, r.1 ≠ d → look (rootsD d 0 (cellsA args) ++ H) r = look H r := fun r hr => by rw [look_append, look_rootsD_ne hr]
  have hvp : ∀ c x, isRef c = true → VP w β H c x → VP w β' (rootsD d 0 (cellsA args) ++ H) c x := fun c x hc hv => vp_out hβ hlk c x hc (vp_fresh hfr c x hc hv) hv
  have hO : ∀ (j : Nat) z els v, (cellsA args)[j]? = some (.own z els) → V[j]? = some v → VP w β' (rootsD d 0 (cellsA args) ++ H) (.sl (d, 0 + j) [] z 0 els.length) v := fun j z els v hj hv => by
    obtain ⟨v', F1, k1, k2, k3⟩ := hV.nth hj
    rw [hv] at k1; cases k1
    exact vp_named k2 (by rw [look_append, look_rootsD hj]) (hβd j v hv)
  have hV' : VRep (VP w β' (rootsD d 0 (cellsA args) ++ H)) w (cellsA args) V FA := hV.mono (K := fun _ => False) (fun c _ => clean_false c) (fun c x hc _ hv => hvp c x hc hv) (fun _ _ => rfl)
  have hHo : Holds g (VP w β' (rootsD d 0 (cellsA args) ++ H)) w β' H F := hh.mono (K := fun _ => False) (fun en he => hβ en.1 (hfr en he)) (fun en _ => clean_false en.2) (fun c x hc _ hv => hvp c x hc hv) (fun _ _ => rfl) (fun _ _ => rfl)
  have hHold : Holds g (VP w β' (rootsD d 0 (cellsA args) ++ H)) w β' (rootsD d 0 (cellsA args) ++ H) (FA ++ F) := (rootsD_holds hd0 hV' hβd).append hHo
  have hargs := hmk _ hvp hO
  refine (h d hd0 hfr' g w β' (FA ++ F) [] vs hgl hHold hargs ?_ ?_).mono fun en w' hres => ?_
  · rw [List.append_nil]; exact (List.perm_append_comm.nodup_iff).1 hn
  · intro b hb
    rw [List.append_nil] at hb
    exact hlow b (List.perm_append_comm.subset hb)
  · obtain ⟨y, T1, H', lg, F', FT, rfl, ⟨rfl, rfl, rfl⟩, k1, k2, k3, k4, k5⟩ := hres
    obtain ⟨F1, F2, rfl, m1, m2⟩ := k1.split
    have hlk2 : ∀ r : Nm, r.1 ≠ d → look H r = look (rootsD d 0 (cellsA args) ++ H) r := fun r hr => (hlk r hr).symm
    have hβ2 : ∀ r : Nm, r.1 ≠ d → β r = β' r := fun r hr => (hβ r hr).symm
    have hback := vp_out (w := w') hβ2 hlk2
    have m3 : Holds g (VP w' β H) w' β H F2 := m2.mono (K := atD d) (fun en he => hβ2 en.1 (hfr en he)) (hh.cleans (vp_fresh hfr)) (fun c x hc hk hv => hback c x hc hk hv) (fun _ _ => rfl) (fun _ _ => rfl)
    have m4 : TRep (VP w' β H) w' T1 y FT := k2.mono (hx d) (fun c x hc hk hv => hback c x hc hk hv) (fun _ _ => rfl)
    refine ⟨y, T1, H, [], F2, FT, rfl, ⟨rfl, rfl, rfl⟩, m3, m4, ?_, ?_, fun c x hc hv => ?_⟩
    · exact List.Nodup.sublist (List.Sublist.append (List.sublist_append_right F1 F2) (.refl _)) k3
    · have := k4.sub (B' := F2 ++ FT) (fun b hb => by
        rcases List.mem_append.1 hb with hb | hb
        · simp [hb]
        · simp [hb])
      exact { this with same := fun b hb hnb => this.same b hb (fun hm => hnb (by rw [List.append_nil] at hm; exact List.perm_append_comm.subset hm)), new := fun b hb => (this.new b hb).imp (fun hm => by rw [List.append_nil] at hm; exact List.perm_append_comm.subset hm) id }
    · have hnD := out_notD hv hfr
      have h1 := vp1_out hβ hlk c x hnD hv
      exact vp1_out hβ2 hlk2 c x hnD (k5 c x hc h1)
theorem CleanRows_mk {K : Cell → Prop} {k : Int} {rows : List (List Cell)} (h : CleanRows K rows) : CleanRows K (mkRs k rows) ↔ True := iff_true_intro (mkRs_clean h)
attribute [simp] CleanRows_mk refsA refsD rootsD cellsA rootable
end Go.Px

namespace Go.Proofs.YtnlbjfdmjlnlgaaGreat
open Go Go.Px Go.RowKit Go.Proofs
set_option linter.unnecessarySimpa false
set_option linter.unusedVariables false
set_option linter.unusedSimpArgs false
set_option maxRecDepth 100000
set_option maxHeartbeats 1000000
attribute [-simp] Int.not_le Int.not_lt
def tRange (next clock : Int) (t : DTxn) : Bool := inR t.id_ 1 (next - 1) && inR t.at_ 0 clock && inR t.state 1 3 && inR t.done 0 clock
def tForm (p : Option Int) (t : DTxn) : Bool := !nab p t.id_ && (decide (t.done = 0) || (decide (t.state = 2) && decide (t.at_ < t.done))) && (decide (t.undos.length = 0) || decide (t.state = 1))
def txsF (next clock : Int) : Option Int → List DTxn → Int
  | _, [] => 0
  | p, t :: l => if tRange next clock t = false then 3 else if tForm p t = false then 1 else if undosF t.undos ≠ 0 then undosF t.undos else txsF next clock (some t.id_) l
def rowOpenF (txns : List DTxn) (r : DRow) : Bool := match r.chain with
  | [] => true
  | v :: _ => decide (v.at_ ≠ 0) || txns.any fun t => decide (t.id_ = v.txn) && undoesF t r.key
def rowsF (clock : Int) (txns : List DTxn) : Option Int → List DRow → Int
  | _, [] => 0
  | p, r :: l => if inR r.key 0 31 = false then 3 else if (nab p r.key || decide (r.chain.length = 0)) = true then 1 else if chainF r.chain ≠ 0 then chainF r.chain else if ((r.chain.any fun v => decide (clock < v.at_)) || !rowOpenF txns r) = true then 1 else rowsF clock txns (some r.key) l
def ownI (rows : List DRow) (id : Int) (us : List DUndo) (i : Nat) : Bool := match us[i]? with
  | some u => openF (chainR rows u.key) id && ((us.take i).any (fun x => decide (x.key = u.key)) == u.had)
  | none => true
def ownsF (rows : List DRow) (t : DTxn) : Bool := (List.range t.undos.length).all fun i => ownI rows t.id_ t.undos i
def engF (x : DEngine) : Int :=
  if (!inR x.next 1 999 || !inR x.clock 0 1000000) = true then 3 else if 20 < x.txns.length ∨ 32 < x.rows.length then 2
  else if txsF x.next x.clock none x.txns ≠ 0 then txsF x.next x.clock none x.txns
  else if rowsF x.clock x.txns none x.rows ≠ 0 then rowsF x.clock x.txns none x.rows
  else if (x.txns.all fun t => ownsF x.rows t) = false then 1 else 0
theorem txsF_get {next clock : Int} : ∀ {l : List DTxn} {p}, txsF next clock p l = 0 → ∀ t ∈ l, tRange next clock t = true ∧ undosF t.undos = 0 ∧ (decide (t.undos.length = 0) || decide (t.state = 1)) = true
  | [], _, _, t, ht => by simp at ht
  | t0 :: l, p, h, t, ht => by
    simp only [txsF] at h
    split at h
    · omega
    · rename_i h1
      split at h
      · omega
      · rename_i h2
        split at h
        · rename_i h3; exact absurd h h3
        · rename_i h3
          rcases List.mem_cons.1 ht with rfl | ht
          · refine ⟨by simpa using h1, by simpa using h3, ?_⟩
            simp only [Bool.not_eq_false] at h2
            unfold tForm at h2
            exact (Bool.and_eq_true_iff.1 h2).2
          · exact txsF_get h t ht
theorem unF_key : ∀ {l : List DUndo}, unF l = 0 → ∀ u ∈ l, kOk u.key
  | [], _, u, hu => by simp at hu
  | u0 :: l, h, u, hu => by
    simp only [unF] at h
    split at h
    · omega
    · rename_i h1
      split at h
      · omega
      · rcases List.mem_cons.1 hu with rfl | hu
        · simp only [Bool.not_eq_false] at h1
          unfold uRange inR at h1
          simp at h1
          unfold kOk; omega
        · exact unF_key h u hu
theorem undosF_key {l : List DUndo} (h : undosF l = 0) : ∀ u ∈ l, kOk u.key := by
  unfold undosF at h
  split at h
  · omega
  · exact unF_key h
theorem rowsF_sorted {clock : Int} {txns : List DTxn} : ∀ {l : List DRow} {p}, rowsF clock txns p l = 0 → keysOk l ∧ sortedR l ∧ ∀ b, p = some b → ∀ r ∈ l, b < r.key
  | [], _, _ => ⟨fun r hr => by simp at hr, fun i j _ hj => by simp at hj, fun b _ r hr => by simp at hr⟩
  | r :: l, p, h => by
    simp only [rowsF] at h
    split at h
    · omega
    · rename_i h1
      split at h
      · omega
      · rename_i h2
        split at h
        · rename_i h3; exact absurd h h3
        · split at h
          · omega
          · obtain ⟨k1, k2, k3⟩ := rowsF_sorted h
            have hk : kOk r.key := by
              simp only [Bool.not_eq_false] at h1
              unfold inR at h1; simp at h1; unfold kOk; omega
            have hp : ∀ b, p = some b → b < r.key := by
              intro b hb
              subst hb
              simp [nab] at h2
              have := h2.1
              omega
            refine ⟨fun x hx => ?_, fun i j hij hj => ?_, fun b hb x hx => ?_⟩
            · rcases List.mem_cons.1 hx with rfl | hx
              · exact hk
              · exact k1 x hx
            · cases j with
              | zero => omega
              | succ j =>
                cases i with
                | zero => simp at hj; simpa using k3 r.key rfl _ (List.getElem_mem hj)
                | succ i => simp at hj; simpa using k2 i j (by omega) hj
            · rcases List.mem_cons.1 hx with rfl | hx
              · exact hp b hb
              · have := hp b hb; have := k3 r.key rfl x hx; omega
theorem impl_isOpenOf_own (H : HH) {id} : PFun Tryz.prog 104 [.c (.own 4 []), I id] H (B false) := by
  refine PFun.root rfl (fun d => by simp [T.clean, Clean.v]) (fun d hd hf => ?_)
  have := impl_isOpenOf (((d, 0), .own 4 []) :: H) (r := (d, 0)) (q := []) (id := id) (l := []) (by simp)
  simpa [openF] using this
end Go.Proofs.YtnlbjfdmjlnlgaaGreat

namespace Go.Proofs.YtnlbjfdmjlnlgaaGreat
open Go Go.Px Go.RowKit Go.Proofs
set_option linter.unnecessarySimpa false
set_option linter.unusedVariables false
set_option linter.unusedSimpArgs false
set_option maxRecDepth 100000
set_option maxHeartbeats 1000000
attribute [-simp] Int.not_le Int.not_lt
def eRow (x : DEngine) (r1 : Nm) (q1 : Path) (r2 : Nm) (q2 : Path) : List Cell := [.v (.int .i64 x.next), .v (.int .i64 x.clock), .sl r1 q1 5 0 x.txns.length, .sl r2 q2 2 0 x.rows.length]
theorem nab_some {b k : Int} : nab (some b) k = decide (k ≤ b) := rfl
set_option maxHeartbeats 16000000 in
theorem spec_l6Txns (H : HH) {r0 q0 r1 q1 r2 q2} {x : DEngine} (hnx : 1 ≤ x.next ∧ x.next ≤ 999) (hl : x.le 1048576) (a0 : arrAt H r0 q0 = some (4, [eRow x r1 q1 r2 q2])) (a1 : arrAt H r1 q1 = some (5, x.txns.map DTxn.enc)) :
    PFun Tryz.prog 136 [.c (.pt r0 q0 4 0 0)] H (I (txsF x.next x.clock none x.txns)) := by
  obtain ⟨⟨b1, b1p⟩, b2, b2p⟩ := hl
  have wn : IntKind.i64.wrap (x.next - 1) = x.next - 1 := w64 (by omega) (by omega)
  obtain ⟨R, hR⟩ : ∃ R, R = txsF x.next x.clock none x.txns := ⟨_, rfl⟩
  rw [← hR]
  refine PFun.of [0, 2, 3, 4, 5, 12, 63, 121, 125] Tryz.func136 rfl (by simp [Tryz.f136]) ?_
  intro d hd0 hfr hcl hout
  have hcd : ∀ n q, CleanH (hit [((d, n), q)]) H := fun n q => hcl.at
  have a0_n : ∀ n, ¬ (d, n) = r0 := fun n => nm_ne (ne_of_arr hfr a0)
  have a0_d : ¬ r0.1 = d := ne_of_arr hfr a0
  have a0_m : ∀ n, ¬ r0 = (d, n) := fun n => nm_ne' (ne_of_arr hfr a0)
  have a1_n : ∀ n, ¬ (d, n) = r1 := fun n => nm_ne (ne_of_arr hfr a1)
  have a1_d : ¬ r1.1 = d := ne_of_arr hfr a1
  have a1_m : ∀ n, ¬ r1 = (d, n) := fun n => nm_ne' (ne_of_arr hfr a1)
  simp (maxSteps := 4000000) [hd0, hfr, hout, hcl, hcd, delA_none, a0, a0_n, a0_d, a0_m, a1, a1_n, a1_d, a1_m, Tryz.f136]
  refine LoopK.intro (fun m s => ∃ i : Nat, i + m = x.txns.length ∧ txsF x.next x.clock (prv DTxn.id_ x.txns i) (x.txns.drop i) = R ∧ s = ⟨[(0, .c (.pt r0 q0 4 0 0)), (3, I i)], H, []⟩) (x.txns.length + 1)
    (LK.intro x.txns.length [0, 3] [] (by omega) (by decide) (by simp (maxSteps := 4000000) [hd0, hfr, hout, hcl, hcd, delA_none, a0, a0_n, a0_d, a0_m, a1, a1_n, a1_d, a1_m]) ⟨0, by simp [prv, hR]⟩) ?_
  rintro m s ⟨i, him, hinv, rfl⟩
  by_cases hi' : i < x.txns.length
  case neg =>
    rw [List.drop_eq_nil_of_le (by omega)] at hinv
    simp only [txsF] at hinv
    simp (maxSteps := 4000000) [hd0, hfr, hout, hcl, hcd, delA_none, a0, a0_n, a0_d, a0_m, a1, a1_n, a1_d, a1_m, eRow, eq_false (show ¬ (i : Int) < x.txns.length by omega), hinv.symm]
  rw [List.drop_eq_getElem_cons hi'] at hinv
  simp only [txsF] at hinv
  have w1 : IntKind.i64.wrap ((i : Int) + 1) = i + 1 := w64 (by omega) (by omega)
  have w2 : i ≠ 0 → IntKind.i64.wrap ((i : Int) - 1) = (i - 1 : Nat) := fun h => by rw [w64 (by omega) (by omega)]; omega
  have hend := prv_succ (f := DTxn.id_) hi'
  have hbu : x.txns[i].undos.length ≤ 1048576 := b1p _ (List.getElem_mem hi')
  simp (maxSteps := 4000000) [hd0, hfr, hout, hcl, hcd, delA_none, a0, a0_n, a0_d, a0_m, a1, a1_n, a1_d, a1_m, eRow, eq_true (show (i : Int) < x.txns.length by omega)]
  refine DrawK.intro 43 [0, 3, 4, 63] rfl (by kernel_rfl) (by decide) ?_
  simp (maxSteps := 4000000) [hd0, hfr, hout, hcl, hcd, delA_none, a0, a0_n, a0_d, a0_m, a1, a1_n, a1_d, a1_m, eRow, hi', DTxn.enc, wn]
  refine ⟨_, spec_l1In _ _ _ _, ?_⟩
  by_cases d1 : inR x.txns[i].id_ 1 (x.next - 1) = true
  case neg => simp only [Bool.not_eq_true] at d1; simp [tRange, d1] at hinv; simp (maxSteps := 4000000) [hd0, hfr, hout, hcl, hcd, delA_none, a0, a0_n, a0_d, a0_m, a1, a1_n, a1_d, a1_m, d1, hinv.symm]
  simp (maxSteps := 4000000) [hd0, hfr, hout, hcl, hcd, delA_none, a0, a0_n, a0_d, a0_m, a1, a1_n, a1_d, a1_m, d1, eRow, hi', DTxn.enc]
  refine ⟨_, spec_l1In _ _ _ _, ?_⟩
  by_cases d2 : inR x.txns[i].at_ 0 x.clock = true
  case neg => simp only [Bool.not_eq_true] at d2; simp [tRange, d2] at hinv; simp (maxSteps := 4000000) [hd0, hfr, hout, hcl, hcd, delA_none, a0, a0_n, a0_d, a0_m, a1, a1_n, a1_d, a1_m, d2, hinv.symm]
  simp (maxSteps := 4000000) [hd0, hfr, hout, hcl, hcd, delA_none, a0, a0_n, a0_d, a0_m, a1, a1_n, a1_d, a1_m, d2, eRow, hi', DTxn.enc]
  refine ⟨_, spec_l1In _ _ _ _, ?_⟩
  by_cases d3 : inR x.txns[i].state 1 3 = true
  case neg => simp only [Bool.not_eq_true] at d3; simp [tRange, d3] at hinv; simp (maxSteps := 4000000) [hd0, hfr, hout, hcl, hcd, delA_none, a0, a0_n, a0_d, a0_m, a1, a1_n, a1_d, a1_m, d3, hinv.symm]
  simp (maxSteps := 4000000) [hd0, hfr, hout, hcl, hcd, delA_none, a0, a0_n, a0_d, a0_m, a1, a1_n, a1_d, a1_m, d3, eRow, hi', DTxn.enc]
  refine ⟨_, spec_l1In _ _ _ _, ?_⟩
  by_cases d4 : inR x.txns[i].done 0 x.clock = true
  case neg => simp only [Bool.not_eq_true] at d4; simp [tRange, d4] at hinv; simp (maxSteps := 4000000) [hd0, hfr, hout, hcl, hcd, delA_none, a0, a0_n, a0_d, a0_m, a1, a1_n, a1_d, a1_m, d4, hinv.symm]
  have hv : tRange x.next x.clock x.txns[i] = true := by simp [tRange, d1, d2, d3, d4]
  rw [hv, if_neg (by simp)] at hinv
  have hone : tForm (prv DTxn.id_ x.txns i) x.txns[i] = false → R = 1 := fun h => by rw [if_pos h] at hinv; exact hinv.symm
  have hfin : tForm (prv DTxn.id_ x.txns i) x.txns[i] = true → (if undosF x.txns[i].undos ≠ 0 then undosF x.txns[i].undos else txsF x.next x.clock (some x.txns[i].id_) (x.txns.drop (i + 1))) = R := fun h => by rw [h] at hinv; simpa using hinv
  clear hinv
  simp (maxSteps := 4000000) [hd0, hfr, hout, hcl, hcd, delA_none, a0, a0_n, a0_d, a0_m, a1, a1_n, a1_d, a1_m, d4]
  refine DrawK.intro 58 [0, 3, 4, 121] rfl (by kernel_rfl) (by decide) ?_
  by_cases hi0 : i = 0
  · have hnab : (!nab (prv DTxn.id_ x.txns i) x.txns[i].id_) = true := by simp [hi0, prv, nab]
    by_cases e1 : x.txns[i].done = 0
    · have hdn : (decide (x.txns[i].done = 0) || (decide (x.txns[i].state = 2) && decide (x.txns[i].at_ < x.txns[i].done))) = true := by simp [e1]
      by_cases e4 : x.txns[i].undos.length = 0
      · have hun : (decide (x.txns[i].undos.length = 0) || decide (x.txns[i].state = 1)) = true := by simp [e4]
        have hf := hfin (by unfold tForm; rw [hnab, hdn, hun]; rfl)
        simp (maxSteps := 4000000) [hd0, hfr, hout, hcl, hcd, delA_none, a0, a0_n, a0_d, a0_m, a1, a1_n, a1_d, a1_m, eq_false (show ¬ (0 : Int) < (i : Int) by omega), eq_false (show ¬ 0 < i by omega), eq_true hi0, eq_true e1, eq_false (show ¬ (0 : Int) < (x.txns[i].undos.length : Int) by omega), eq_false (show ¬ 0 < x.txns[i].undos.length by omega), eq_true (show x.txns[i].undos = [] from List.eq_nil_of_length_eq_zero e4), eRow, hi', DTxn.enc]
        refine (spec_l6Undos _ hi' hbu (by simp (maxSteps := 4000000) [hd0, hfr, hout, hcl, hcd, delA_none, a0, a0_n, a0_d, a0_m, a1, a1_n, a1_d, a1_m])).useCK ?_
        by_cases e6 : undosF x.txns[i].undos = 0
        · rw [if_neg (by simp [e6])] at hf
          simp (maxSteps := 4000000) [hd0, hfr, hout, hcl, hcd, delA_none, a0, a0_n, a0_d, a0_m, a1, a1_n, a1_d, a1_m, e6, w1]
          refine LK.intro (m - 1) [0, 3] [] (by omega) (by decide) (by simp (maxSteps := 4000000) [hd0, hfr, hout, hcl, hcd, delA_none, a0, a0_n, a0_d, a0_m, a1, a1_n, a1_d, a1_m]) ⟨i + 1, by omega, by rw [hend]; exact hf, by simp⟩
        · rw [if_pos e6] at hf
          have hRne : ¬ R = 0 := by rw [← hf]; exact e6
          simp (maxSteps := 4000000) [hd0, hfr, hout, hcl, hcd, delA_none, a0, a0_n, a0_d, a0_m, a1, a1_n, a1_d, a1_m, hf, eq_false hRne]
      · by_cases e5 : x.txns[i].state = 1
        · have hun : (decide (x.txns[i].undos.length = 0) || decide (x.txns[i].state = 1)) = true := by simp [e5]
          have hf := hfin (by unfold tForm; rw [hnab, hdn, hun]; rfl)
          simp (maxSteps := 4000000) [hd0, hfr, hout, hcl, hcd, delA_none, a0, a0_n, a0_d, a0_m, a1, a1_n, a1_d, a1_m, eq_false (show ¬ (0 : Int) < (i : Int) by omega), eq_false (show ¬ 0 < i by omega), eq_true hi0, eq_true e1, eq_true (show (0 : Int) < (x.txns[i].undos.length : Int) by omega), eq_true (show 0 < x.txns[i].undos.length by omega), eq_false (show ¬ x.txns[i].undos = [] from fun h => e4 (by rw [h]; rfl)), eq_true e5, eRow, hi', DTxn.enc]
          refine (spec_l6Undos _ hi' hbu (by simp (maxSteps := 4000000) [hd0, hfr, hout, hcl, hcd, delA_none, a0, a0_n, a0_d, a0_m, a1, a1_n, a1_d, a1_m])).useCK ?_
          by_cases e6 : undosF x.txns[i].undos = 0
          · rw [if_neg (by simp [e6])] at hf
            simp (maxSteps := 4000000) [hd0, hfr, hout, hcl, hcd, delA_none, a0, a0_n, a0_d, a0_m, a1, a1_n, a1_d, a1_m, e6, w1]
            refine LK.intro (m - 1) [0, 3] [] (by omega) (by decide) (by simp (maxSteps := 4000000) [hd0, hfr, hout, hcl, hcd, delA_none, a0, a0_n, a0_d, a0_m, a1, a1_n, a1_d, a1_m]) ⟨i + 1, by omega, by rw [hend]; exact hf, by simp⟩
          · rw [if_pos e6] at hf
            have hRne : ¬ R = 0 := by rw [← hf]; exact e6
            simp (maxSteps := 4000000) [hd0, hfr, hout, hcl, hcd, delA_none, a0, a0_n, a0_d, a0_m, a1, a1_n, a1_d, a1_m, hf, eq_false hRne]
        · have h1 := hone (by simp [tForm, e4, e5])
          simp (maxSteps := 4000000) [hd0, hfr, hout, hcl, hcd, delA_none, a0, a0_n, a0_d, a0_m, a1, a1_n, a1_d, a1_m, eq_false (show ¬ (0 : Int) < (i : Int) by omega), eq_false (show ¬ 0 < i by omega), eq_true hi0, eq_true e1, eq_true (show (0 : Int) < (x.txns[i].undos.length : Int) by omega), eq_true (show 0 < x.txns[i].undos.length by omega), eq_false (show ¬ x.txns[i].undos = [] from fun h => e4 (by rw [h]; rfl)), eq_false e5, h1, eRow, hi', DTxn.enc]
    · by_cases e2 : x.txns[i].state = 2
      · by_cases e3 : x.txns[i].done ≤ x.txns[i].at_
        · have h1 := hone (by simp [tForm, e1, show ¬ x.txns[i].at_ < x.txns[i].done by omega])
          simp (maxSteps := 4000000) [hd0, hfr, hout, hcl, hcd, delA_none, a0, a0_n, a0_d, a0_m, a1, a1_n, a1_d, a1_m, eq_false (show ¬ (0 : Int) < (i : Int) by omega), eq_false (show ¬ 0 < i by omega), eq_true hi0, eq_false e1, eq_true e2, eq_true e3, h1, eRow, hi', DTxn.enc]
        · have hdn : (decide (x.txns[i].done = 0) || (decide (x.txns[i].state = 2) && decide (x.txns[i].at_ < x.txns[i].done))) = true := by simp [e2, show x.txns[i].at_ < x.txns[i].done by omega]
          by_cases e4 : x.txns[i].undos.length = 0
          · have hun : (decide (x.txns[i].undos.length = 0) || decide (x.txns[i].state = 1)) = true := by simp [e4]
            have hf := hfin (by unfold tForm; rw [hnab, hdn, hun]; rfl)
            simp (maxSteps := 4000000) [hd0, hfr, hout, hcl, hcd, delA_none, a0, a0_n, a0_d, a0_m, a1, a1_n, a1_d, a1_m, eq_false (show ¬ (0 : Int) < (i : Int) by omega), eq_false (show ¬ 0 < i by omega), eq_true hi0, eq_false e1, eq_true e2, eq_false e3, eq_false (show ¬ (0 : Int) < (x.txns[i].undos.length : Int) by omega), eq_false (show ¬ 0 < x.txns[i].undos.length by omega), eq_true (show x.txns[i].undos = [] from List.eq_nil_of_length_eq_zero e4), eRow, hi', DTxn.enc]
            refine (spec_l6Undos _ hi' hbu (by simp (maxSteps := 4000000) [hd0, hfr, hout, hcl, hcd, delA_none, a0, a0_n, a0_d, a0_m, a1, a1_n, a1_d, a1_m])).useCK ?_
            by_cases e6 : undosF x.txns[i].undos = 0
            · rw [if_neg (by simp [e6])] at hf
              simp (maxSteps := 4000000) [hd0, hfr, hout, hcl, hcd, delA_none, a0, a0_n, a0_d, a0_m, a1, a1_n, a1_d, a1_m, e6, w1]
              refine LK.intro (m - 1) [0, 3] [] (by omega) (by decide) (by simp (maxSteps := 4000000) [hd0, hfr, hout, hcl, hcd, delA_none, a0, a0_n, a0_d, a0_m, a1, a1_n, a1_d, a1_m]) ⟨i + 1, by omega, by rw [hend]; exact hf, by simp⟩
            · rw [if_pos e6] at hf
              have hRne : ¬ R = 0 := by rw [← hf]; exact e6
              simp (maxSteps := 4000000) [hd0, hfr, hout, hcl, hcd, delA_none, a0, a0_n, a0_d, a0_m, a1, a1_n, a1_d, a1_m, hf, eq_false hRne]
          · by_cases e5 : x.txns[i].state = 1
            · have hun : (decide (x.txns[i].undos.length = 0) || decide (x.txns[i].state = 1)) = true := by simp [e5]
              have hf := hfin (by unfold tForm; rw [hnab, hdn, hun]; rfl)
              simp (maxSteps := 4000000) [hd0, hfr, hout, hcl, hcd, delA_none, a0, a0_n, a0_d, a0_m, a1, a1_n, a1_d, a1_m, eq_false (show ¬ (0 : Int) < (i : Int) by omega), eq_false (show ¬ 0 < i by omega), eq_true hi0, eq_false e1, eq_true e2, eq_false e3, eq_true (show (0 : Int) < (x.txns[i].undos.length : Int) by omega), eq_true (show 0 < x.txns[i].undos.length by omega), eq_false (show ¬ x.txns[i].undos = [] from fun h => e4 (by rw [h]; rfl)), eq_true e5, eRow, hi', DTxn.enc]
              refine (spec_l6Undos _ hi' hbu (by simp (maxSteps := 4000000) [hd0, hfr, hout, hcl, hcd, delA_none, a0, a0_n, a0_d, a0_m, a1, a1_n, a1_d, a1_m])).useCK ?_
              by_cases e6 : undosF x.txns[i].undos = 0
              · rw [if_neg (by simp [e6])] at hf
                simp (maxSteps := 4000000) [hd0, hfr, hout, hcl, hcd, delA_none, a0, a0_n, a0_d, a0_m, a1, a1_n, a1_d, a1_m, e6, w1]
                refine LK.intro (m - 1) [0, 3] [] (by omega) (by decide) (by simp (maxSteps := 4000000) [hd0, hfr, hout, hcl, hcd, delA_none, a0, a0_n, a0_d, a0_m, a1, a1_n, a1_d, a1_m]) ⟨i + 1, by omega, by rw [hend]; exact hf, by simp⟩
              · rw [if_pos e6] at hf
                have hRne : ¬ R = 0 := by rw [← hf]; exact e6
                simp (maxSteps := 4000000) [hd0, hfr, hout, hcl, hcd, delA_none, a0, a0_n, a0_d, a0_m, a1, a1_n, a1_d, a1_m, hf, eq_false hRne]
            · have h1 := hone (by simp [tForm, e4, e5])
              simp (maxSteps := 4000000) [hd0, hfr, hout, hcl, hcd, delA_none, a0, a0_n, a0_d, a0_m, a1, a1_n, a1_d, a1_m, eq_false (show ¬ (0 : Int) < (i : Int) by omega), eq_false (show ¬ 0 < i by omega), eq_true hi0, eq_false e1, eq_true e2, eq_false e3, eq_true (show (0 : Int) < (x.txns[i].undos.length : Int) by omega), eq_true (show 0 < x.txns[i].undos.length by omega), eq_false (show ¬ x.txns[i].undos = [] from fun h => e4 (by rw [h]; rfl)), eq_false e5, h1, eRow, hi', DTxn.enc]
      · have h1 := hone (by simp [tForm, e1, e2])
        simp (maxSteps := 4000000) [hd0, hfr, hout, hcl, hcd, delA_none, a0, a0_n, a0_d, a0_m, a1, a1_n, a1_d, a1_m, eq_false (show ¬ (0 : Int) < (i : Int) by omega), eq_false (show ¬ 0 < i by omega), eq_true hi0, eq_false e1, eq_false e2, h1, eRow, hi', DTxn.enc]
  · have h3 : i - 1 < x.txns.length := by omega
    have hp := prv_pos (f := DTxn.id_) hi0 h3
    by_cases h4 : x.txns[i].id_ ≤ x.txns[i-1].id_
    · have h1 := hone (by simp [tForm, hp, nab, h4])
      simp (maxSteps := 4000000) [hd0, hfr, hout, hcl, hcd, delA_none, a0, a0_n, a0_d, a0_m, a1, a1_n, a1_d, a1_m, eq_true (show (0 : Int) < (i : Int) by omega), eq_true (show 0 < i by omega), hi0, w2 hi0, h3, eq_true h4, h1, eRow, hi', DTxn.enc]
    · have hnab : (!nab (prv DTxn.id_ x.txns i) x.txns[i].id_) = true := by rw [hp]; simp [nab]; omega
      by_cases e1 : x.txns[i].done = 0
      · have hdn : (decide (x.txns[i].done = 0) || (decide (x.txns[i].state = 2) && decide (x.txns[i].at_ < x.txns[i].done))) = true := by simp [e1]
        by_cases e4 : x.txns[i].undos.length = 0
        · have hun : (decide (x.txns[i].undos.length = 0) || decide (x.txns[i].state = 1)) = true := by simp [e4]
          have hf := hfin (by unfold tForm; rw [hnab, hdn, hun]; rfl)
          simp (maxSteps := 4000000) [hd0, hfr, hout, hcl, hcd, delA_none, a0, a0_n, a0_d, a0_m, a1, a1_n, a1_d, a1_m, eq_true (show (0 : Int) < (i : Int) by omega), eq_true (show 0 < i by omega), hi0, w2 hi0, h3, eq_false h4, eq_true e1, eq_false (show ¬ (0 : Int) < (x.txns[i].undos.length : Int) by omega), eq_false (show ¬ 0 < x.txns[i].undos.length by omega), eq_true (show x.txns[i].undos = [] from List.eq_nil_of_length_eq_zero e4), eRow, hi', DTxn.enc]
          refine (spec_l6Undos _ hi' hbu (by simp (maxSteps := 4000000) [hd0, hfr, hout, hcl, hcd, delA_none, a0, a0_n, a0_d, a0_m, a1, a1_n, a1_d, a1_m])).useCK ?_
          by_cases e6 : undosF x.txns[i].undos = 0
          · rw [if_neg (by simp [e6])] at hf
            simp (maxSteps := 4000000) [hd0, hfr, hout, hcl, hcd, delA_none, a0, a0_n, a0_d, a0_m, a1, a1_n, a1_d, a1_m, e6, w1]
            refine LK.intro (m - 1) [0, 3] [] (by omega) (by decide) (by simp (maxSteps := 4000000) [hd0, hfr, hout, hcl, hcd, delA_none, a0, a0_n, a0_d, a0_m, a1, a1_n, a1_d, a1_m]) ⟨i + 1, by omega, by rw [hend]; exact hf, by simp⟩
          · rw [if_pos e6] at hf
            have hRne : ¬ R = 0 := by rw [← hf]; exact e6
            simp (maxSteps := 4000000) [hd0, hfr, hout, hcl, hcd, delA_none, a0, a0_n, a0_d, a0_m, a1, a1_n, a1_d, a1_m, hf, eq_false hRne]
        · by_cases e5 : x.txns[i].state = 1
          · have hun : (decide (x.txns[i].undos.length = 0) || decide (x.txns[i].state = 1)) = true := by simp [e5]
            have hf := hfin (by unfold tForm; rw [hnab, hdn, hun]; rfl)
            simp (maxSteps := 4000000) [hd0, hfr, hout, hcl, hcd, delA_none, a0, a0_n, a0_d, a0_m, a1, a1_n, a1_d, a1_m, eq_true (show (0 : Int) < (i : Int) by omega), eq_true (show 0 < i by omega), hi0, w2 hi0, h3, eq_false h4, eq_true e1, eq_true (show (0 : Int) < (x.txns[i].undos.length : Int) by omega), eq_true (show 0 < x.txns[i].undos.length by omega), eq_false (show ¬ x.txns[i].undos = [] from fun h => e4 (by rw [h]; rfl)), eq_true e5, eRow, hi', DTxn.enc]
            refine (spec_l6Undos _ hi' hbu (by simp (maxSteps := 4000000) [hd0, hfr, hout, hcl, hcd, delA_none, a0, a0_n, a0_d, a0_m, a1, a1_n, a1_d, a1_m])).useCK ?_
            by_cases e6 : undosF x.txns[i].undos = 0
            · rw [if_neg (by simp [e6])] at hf
              simp (maxSteps := 4000000) [hd0, hfr, hout, hcl, hcd, delA_none, a0, a0_n, a0_d, a0_m, a1, a1_n, a1_d, a1_m, e6, w1]
              refine LK.intro (m - 1) [0, 3] [] (by omega) (by decide) (by simp (maxSteps := 4000000) [hd0, hfr, hout, hcl, hcd, delA_none, a0, a0_n, a0_d, a0_m, a1, a1_n, a1_d, a1_m]) ⟨i + 1, by omega, by rw [hend]; exact hf, by simp⟩
            · rw [if_pos e6] at hf
              have hRne : ¬ R = 0 := by rw [← hf]; exact e6
              simp (maxSteps := 4000000) [hd0, hfr, hout, hcl, hcd, delA_none, a0, a0_n, a0_d, a0_m, a1, a1_n, a1_d, a1_m, hf, eq_false hRne]
          · have h1 := hone (by simp [tForm, e4, e5])
            simp (maxSteps := 4000000) [hd0, hfr, hout, hcl, hcd, delA_none, a0, a0_n, a0_d, a0_m, a1, a1_n, a1_d, a1_m, eq_true (show (0 : Int) < (i : Int) by omega), eq_true (show 0 < i by omega), hi0, w2 hi0, h3, eq_false h4, eq_true e1, eq_true (show (0 : Int) < (x.txns[i].undos.length : Int) by omega), eq_true (show 0 < x.txns[i].undos.length by omega), eq_false (show ¬ x.txns[i].undos = [] from fun h => e4 (by rw [h]; rfl)), eq_false e5, h1, eRow, hi', DTxn.enc]
      · by_cases e2 : x.txns[i].state = 2
        · by_cases e3 : x.txns[i].done ≤ x.txns[i].at_
          · have h1 := hone (by simp [tForm, e1, show ¬ x.txns[i].at_ < x.txns[i].done by omega])
            simp (maxSteps := 4000000) [hd0, hfr, hout, hcl, hcd, delA_none, a0, a0_n, a0_d, a0_m, a1, a1_n, a1_d, a1_m, eq_true (show (0 : Int) < (i : Int) by omega), eq_true (show 0 < i by omega), hi0, w2 hi0, h3, eq_false h4, eq_false e1, eq_true e2, eq_true e3, h1, eRow, hi', DTxn.enc]
          · have hdn : (decide (x.txns[i].done = 0) || (decide (x.txns[i].state = 2) && decide (x.txns[i].at_ < x.txns[i].done))) = true := by simp [e2, show x.txns[i].at_ < x.txns[i].done by omega]
            by_cases e4 : x.txns[i].undos.length = 0
            · have hun : (decide (x.txns[i].undos.length = 0) || decide (x.txns[i].state = 1)) = true := by simp [e4]
              have hf := hfin (by unfold tForm; rw [hnab, hdn, hun]; rfl)
              simp (maxSteps := 4000000) [hd0, hfr, hout, hcl, hcd, delA_none, a0, a0_n, a0_d, a0_m, a1, a1_n, a1_d, a1_m, eq_true (show (0 : Int) < (i : Int) by omega), eq_true (show 0 < i by omega), hi0, w2 hi0, h3, eq_false h4, eq_false e1, eq_true e2, eq_false e3, eq_false (show ¬ (0 : Int) < (x.txns[i].undos.length : Int) by omega), eq_false (show ¬ 0 < x.txns[i].undos.length by omega), eq_true (show x.txns[i].undos = [] from List.eq_nil_of_length_eq_zero e4), eRow, hi', DTxn.enc]
              refine (spec_l6Undos _ hi' hbu (by simp (maxSteps := 4000000) [hd0, hfr, hout, hcl, hcd, delA_none, a0, a0_n, a0_d, a0_m, a1, a1_n, a1_d, a1_m])).useCK ?_
              by_cases e6 : undosF x.txns[i].undos = 0
              · rw [if_neg (by simp [e6])] at hf
                simp (maxSteps := 4000000) [hd0, hfr, hout, hcl, hcd, delA_none, a0, a0_n, a0_d, a0_m, a1, a1_n, a1_d, a1_m, e6, w1]
                refine LK.intro (m - 1) [0, 3] [] (by omega) (by decide) (by simp (maxSteps := 4000000) [hd0, hfr, hout, hcl, hcd, delA_none, a0, a0_n, a0_d, a0_m, a1, a1_n, a1_d, a1_m]) ⟨i + 1, by omega, by rw [hend]; exact hf, by simp⟩
              · rw [if_pos e6] at hf
                have hRne : ¬ R = 0 := by rw [← hf]; exact e6
                simp (maxSteps := 4000000) [hd0, hfr, hout, hcl, hcd, delA_none, a0, a0_n, a0_d, a0_m, a1, a1_n, a1_d, a1_m, hf, eq_false hRne]
            · by_cases e5 : x.txns[i].state = 1
              · have hun : (decide (x.txns[i].undos.length = 0) || decide (x.txns[i].state = 1)) = true := by simp [e5]
                have hf := hfin (by unfold tForm; rw [hnab, hdn, hun]; rfl)
                simp (maxSteps := 4000000) [hd0, hfr, hout, hcl, hcd, delA_none, a0, a0_n, a0_d, a0_m, a1, a1_n, a1_d, a1_m, eq_true (show (0 : Int) < (i : Int) by omega), eq_true (show 0 < i by omega), hi0, w2 hi0, h3, eq_false h4, eq_false e1, eq_true e2, eq_false e3, eq_true (show (0 : Int) < (x.txns[i].undos.length : Int) by omega), eq_true (show 0 < x.txns[i].undos.length by omega), eq_false (show ¬ x.txns[i].undos = [] from fun h => e4 (by rw [h]; rfl)), eq_true e5, eRow, hi', DTxn.enc]
                refine (spec_l6Undos _ hi' hbu (by simp (maxSteps := 4000000) [hd0, hfr, hout, hcl, hcd, delA_none, a0, a0_n, a0_d, a0_m, a1, a1_n, a1_d, a1_m])).useCK ?_
                by_cases e6 : undosF x.txns[i].undos = 0
                · rw [if_neg (by simp [e6])] at hf
                  simp (maxSteps := 4000000) [hd0, hfr, hout, hcl, hcd, delA_none, a0, a0_n, a0_d, a0_m, a1, a1_n, a1_d, a1_m, e6, w1]
                  refine LK.intro (m - 1) [0, 3] [] (by omega) (by decide) (by simp (maxSteps := 4000000) [hd0, hfr, hout, hcl, hcd, delA_none, a0, a0_n, a0_d, a0_m, a1, a1_n, a1_d, a1_m]) ⟨i + 1, by omega, by rw [hend]; exact hf, by simp⟩
                · rw [if_pos e6] at hf
                  have hRne : ¬ R = 0 := by rw [← hf]; exact e6
                  simp (maxSteps := 4000000) [hd0, hfr, hout, hcl, hcd, delA_none, a0, a0_n, a0_d, a0_m, a1, a1_n, a1_d, a1_m, hf, eq_false hRne]
              · have h1 := hone (by simp [tForm, e4, e5])
                simp (maxSteps := 4000000) [hd0, hfr, hout, hcl, hcd, delA_none, a0, a0_n, a0_d, a0_m, a1, a1_n, a1_d, a1_m, eq_true (show (0 : Int) < (i : Int) by omega), eq_true (show 0 < i by omega), hi0, w2 hi0, h3, eq_false h4, eq_false e1, eq_true e2, eq_false e3, eq_true (show (0 : Int) < (x.txns[i].undos.length : Int) by omega), eq_true (show 0 < x.txns[i].undos.length by omega), eq_false (show ¬ x.txns[i].undos = [] from fun h => e4 (by rw [h]; rfl)), eq_false e5, h1, eRow, hi', DTxn.enc]
        · have h1 := hone (by simp [tForm, e1, e2])
          simp (maxSteps := 4000000) [hd0, hfr, hout, hcl, hcd, delA_none, a0, a0_n, a0_d, a0_m, a1, a1_n, a1_d, a1_m, eq_true (show (0 : Int) < (i : Int) by omega), eq_true (show 0 < i by omega), hi0, w2 hi0, h3, eq_false h4, eq_false e1, eq_false e2, h1, eRow, hi', DTxn.enc]
end Go.Proofs.YtnlbjfdmjlnlgaaGreat

namespace Go.Proofs.YtnlbjfdmjlnlgaaGreat
open Go Go.Px Go.RowKit Go.Proofs
set_option linter.unnecessarySimpa false
set_option linter.unusedVariables false
set_option linter.unusedSimpArgs false
set_option maxRecDepth 100000
set_option maxHeartbeats 1000000
attribute [-simp] Int.not_le Int.not_lt
def writF (l : List DVersion) : Int := match l with | [] => 0 | v :: _ => if v.at_ = 0 then v.txn else 0
def ixF {α : Type} (p : α → Bool) : Nat → List α → Int
  | _, [] => -1
  | n, a :: l => if p a = true then n else ixF p (n + 1) l
theorem ixF_none {α : Type} {p : α → Bool} : ∀ {l : List α} {n : Nat}, (∀ x ∈ l, p x = false) → ixF p n l = -1
  | [], _, _ => rfl
  | a :: l, n, h => by
    have h1 := h a (by simp)
    simp only [ixF, h1]
    exact ixF_none (fun x hx => h x (by simp [hx]))
theorem ixF_some {α : Type} {p : α → Bool} : ∀ {l : List α} {n : Nat}, ixF p n l = -1 ∧ (∀ x ∈ l, p x = false) ∨ ∃ i, ∃ h : i < l.length, ixF p n l = n + i ∧ p l[i] = true
  | [], _ => .inl ⟨rfl, by simp⟩
  | a :: l, n => by
    by_cases h1 : p a = true
    · exact .inr ⟨0, by simp, by simp [ixF, h1], by simpa using h1⟩
    · simp only [Bool.not_eq_true] at h1
      rcases ixF_some (p := p) (l := l) (n := n + 1) with ⟨h2, h3⟩ | ⟨i, hi, h2, h3⟩
      · refine .inl ⟨by simp [ixF, h1, h2], ?_⟩
        intro x hx
        rcases List.mem_cons.1 hx with rfl | hx
        · exact h1
        · exact h3 x hx
      · refine .inr ⟨i + 1, by simpa using hi, by simp [ixF, h1, h2]; omega, by simpa using h3⟩
theorem spec_l5Writer (H : HH) {r q} {l : List DVersion} (ha : arrAt H r q = some (4, l.map DVersion.enc)) : PFun Tryz.prog 146 [.c (.sl r q 4 0 l.length)] H (I (writF l)) := by
  refine PFun.of [0, 2, 12] Tryz.func146 rfl (by simp [Tryz.f146]) ?_
  intro d hd0 hfr hcl hout
  have hcd : ∀ n q, CleanH (hit [((d, n), q)]) H := fun n q => hcl.at
  have ha_n : ∀ n, ¬ (d, n) = r := fun n => nm_ne (ne_of_arr hfr ha)
  have ha_d : ¬ r.1 = d := ne_of_arr hfr ha
  have ha_m : ∀ n, ¬ r = (d, n) := fun n => nm_ne' (ne_of_arr hfr ha)
  simp (maxSteps := 4000000) [hd0, hfr, hout, hcl, hcd, delA_none, ha, ha_n, ha_d, ha_m, Tryz.f146]
  cases l with
  | nil => simp (maxSteps := 4000000) [hd0, hfr, hout, hcl, hcd, delA_none, ha, ha_n, ha_d, ha_m, writF]
  | cons v l =>
    by_cases hz : v.at_ = 0
    · simp (maxSteps := 4000000) [hd0, hfr, hout, hcl, hcd, delA_none, ha, ha_n, ha_d, ha_m, eq_true (show (0 : Int) < (l.length : Int) + 1 by omega), DVersion.enc, hz, writF]
    · simp (maxSteps := 4000000) [hd0, hfr, hout, hcl, hcd, delA_none, ha, ha_n, ha_d, ha_m, eq_true (show (0 : Int) < (l.length : Int) + 1 by omega), DVersion.enc, hz, writF]
theorem spec_l6Txn (H : HH) {r0 q0 r1 q1 r2 q2} {x : DEngine} {id : Int} (hl : x.le 1048576) (a0 : arrAt H r0 q0 = some (4, [eRow x r1 q1 r2 q2])) (a1 : arrAt H r1 q1 = some (5, x.txns.map DTxn.enc)) :
    PFun Tryz.prog 118 [.c (.pt r0 q0 4 0 0), I id] H (I (ixF (fun t : DTxn => decide (t.id_ = id)) 0 x.txns)) := by
  obtain ⟨⟨b1, b1p⟩, b2, b2p⟩ := hl
  obtain ⟨R, hR⟩ : ∃ R, R = ixF (fun t : DTxn => decide (t.id_ = id)) 0 x.txns := ⟨_, rfl⟩
  rw [← hR]
  refine PFun.of [0, 1, 4, 5, 12, 24] Tryz.func118 rfl (by simp [Tryz.f118]) ?_
  intro d hd0 hfr hcl hout
  have hcd : ∀ n q, CleanH (hit [((d, n), q)]) H := fun n q => hcl.at
  have a0_n : ∀ n, ¬ (d, n) = r0 := fun n => nm_ne (ne_of_arr hfr a0)
  have a0_d : ¬ r0.1 = d := ne_of_arr hfr a0
  have a0_m : ∀ n, ¬ r0 = (d, n) := fun n => nm_ne' (ne_of_arr hfr a0)
  have a1_n : ∀ n, ¬ (d, n) = r1 := fun n => nm_ne (ne_of_arr hfr a1)
  have a1_d : ¬ r1.1 = d := ne_of_arr hfr a1
  have a1_m : ∀ n, ¬ r1 = (d, n) := fun n => nm_ne' (ne_of_arr hfr a1)
  simp (maxSteps := 4000000) [hd0, hfr, hout, hcl, hcd, delA_none, a0, a0_n, a0_d, a0_m, a1, a1_n, a1_d, a1_m, Tryz.f118]
  refine LoopK.intro (fun m s => ∃ i : Nat, i + m = x.txns.length ∧ ixF (fun t : DTxn => decide (t.id_ = id)) i (x.txns.drop i) = R ∧ s = ⟨[(0, .c (.pt r0 q0 4 0 0)), (1, I id), (5, I i)], H, []⟩) (x.txns.length + 1)
    (LK.intro x.txns.length [0, 1, 5] [] (by omega) (by decide) (by simp (maxSteps := 4000000) [hd0, hfr, hout, hcl, hcd, delA_none, a0, a0_n, a0_d, a0_m, a1, a1_n, a1_d, a1_m]) ⟨0, by simp [hR]⟩) ?_
  rintro m s ⟨i, him, hinv, rfl⟩
  by_cases hi' : i < x.txns.length
  case neg =>
    rw [List.drop_eq_nil_of_le (by omega)] at hinv
    simp only [ixF] at hinv
    simp (maxSteps := 4000000) [hd0, hfr, hout, hcl, hcd, delA_none, a0, a0_n, a0_d, a0_m, a1, a1_n, a1_d, a1_m, eRow, eq_false (show ¬ (i : Int) < x.txns.length by omega), hinv.symm]
  rw [List.drop_eq_getElem_cons hi'] at hinv
  simp only [ixF] at hinv
  have w1 : IntKind.i64.wrap ((i : Int) + 1) = i + 1 := w64 (by omega) (by omega)
  by_cases he : x.txns[i].id_ = id
  · rw [if_pos (by simp [he])] at hinv
    simp (maxSteps := 4000000) [hd0, hfr, hout, hcl, hcd, delA_none, a0, a0_n, a0_d, a0_m, a1, a1_n, a1_d, a1_m, eRow, eq_true (show (i : Int) < x.txns.length by omega), hi', DTxn.enc, eq_true he, hinv.symm]
  · rw [if_neg (by simp [he])] at hinv
    simp (maxSteps := 4000000) [hd0, hfr, hout, hcl, hcd, delA_none, a0, a0_n, a0_d, a0_m, a1, a1_n, a1_d, a1_m, eRow, eq_true (show (i : Int) < x.txns.length by omega), hi', DTxn.enc, eq_false he, w1]
    refine LK.intro (m - 1) [0, 1, 5] [] (by omega) (by decide) (by simp (maxSteps := 4000000) [hd0, hfr, hout, hcl, hcd, delA_none, a0, a0_n, a0_d, a0_m, a1, a1_n, a1_d, a1_m]) ⟨i + 1, by omega, hinv, by simp⟩
theorem spec_l6Row (H : HH) {r0 q0 r1 q1 r2 q2} {x : DEngine} {k : Int} (hl : x.le 1048576) (a0 : arrAt H r0 q0 = some (4, [eRow x r1 q1 r2 q2])) (a1 : arrAt H r2 q2 = some (2, x.rows.map DRow.enc)) :
    PFun Tryz.prog 120 [.c (.pt r0 q0 4 0 0), I k] H (I (ixF (fun t : DRow => decide (t.key = k)) 0 x.rows)) := by
  obtain ⟨⟨b1, b1p⟩, b2, b2p⟩ := hl
  obtain ⟨R, hR⟩ : ∃ R, R = ixF (fun t : DRow => decide (t.key = k)) 0 x.rows := ⟨_, rfl⟩
  rw [← hR]
  refine PFun.of [0, 1, 4, 5, 12, 24] Tryz.func120 rfl (by simp [Tryz.f120]) ?_
  intro d hd0 hfr hcl hout
  have hcd : ∀ n q, CleanH (hit [((d, n), q)]) H := fun n q => hcl.at
  have a0_n : ∀ n, ¬ (d, n) = r0 := fun n => nm_ne (ne_of_arr hfr a0)
  have a0_d : ¬ r0.1 = d := ne_of_arr hfr a0
  have a0_m : ∀ n, ¬ r0 = (d, n) := fun n => nm_ne' (ne_of_arr hfr a0)
  have a1_n : ∀ n, ¬ (d, n) = r2 := fun n => nm_ne (ne_of_arr hfr a1)
  have a1_d : ¬ r2.1 = d := ne_of_arr hfr a1
  have a1_m : ∀ n, ¬ r2 = (d, n) := fun n => nm_ne' (ne_of_arr hfr a1)
  simp (maxSteps := 4000000) [hd0, hfr, hout, hcl, hcd, delA_none, a0, a0_n, a0_d, a0_m, a1, a1_n, a1_d, a1_m, Tryz.f120]
  refine LoopK.intro (fun m s => ∃ i : Nat, i + m = x.rows.length ∧ ixF (fun t : DRow => decide (t.key = k)) i (x.rows.drop i) = R ∧ s = ⟨[(0, .c (.pt r0 q0 4 0 0)), (1, I k), (5, I i)], H, []⟩) (x.rows.length + 1)
    (LK.intro x.rows.length [0, 1, 5] [] (by omega) (by decide) (by simp (maxSteps := 4000000) [hd0, hfr, hout, hcl, hcd, delA_none, a0, a0_n, a0_d, a0_m, a1, a1_n, a1_d, a1_m]) ⟨0, by simp [hR]⟩) ?_
  rintro m s ⟨i, him, hinv, rfl⟩
  by_cases hi' : i < x.rows.length
  case neg =>
    rw [List.drop_eq_nil_of_le (by omega)] at hinv
    simp only [ixF] at hinv
    simp (maxSteps := 4000000) [hd0, hfr, hout, hcl, hcd, delA_none, a0, a0_n, a0_d, a0_m, a1, a1_n, a1_d, a1_m, eRow, eq_false (show ¬ (i : Int) < x.rows.length by omega), hinv.symm]
  rw [List.drop_eq_getElem_cons hi'] at hinv
  simp only [ixF] at hinv
  have w1 : IntKind.i64.wrap ((i : Int) + 1) = i + 1 := w64 (by omega) (by omega)
  by_cases he : x.rows[i].key = k
  · rw [if_pos (by simp [he])] at hinv
    simp (maxSteps := 4000000) [hd0, hfr, hout, hcl, hcd, delA_none, a0, a0_n, a0_d, a0_m, a1, a1_n, a1_d, a1_m, eRow, eq_true (show (i : Int) < x.rows.length by omega), hi', DRow.enc, eq_true he, hinv.symm]
  · rw [if_neg (by simp [he])] at hinv
    simp (maxSteps := 4000000) [hd0, hfr, hout, hcl, hcd, delA_none, a0, a0_n, a0_d, a0_m, a1, a1_n, a1_d, a1_m, eRow, eq_true (show (i : Int) < x.rows.length by omega), hi', DRow.enc, eq_false he, w1]
    refine LK.intro (m - 1) [0, 1, 5] [] (by omega) (by decide) (by simp (maxSteps := 4000000) [hd0, hfr, hout, hcl, hcd, delA_none, a0, a0_n, a0_d, a0_m, a1, a1_n, a1_d, a1_m]) ⟨i + 1, by omega, hinv, by simp⟩
theorem spec_l6Wrote (H : HH) {r q ix} {ts : List DTxn} {k : Int} (hix : ix < ts.length) (hb : ts[ix].undos.length ≤ 1048576) (ha : arrAt H r q = some (5, ts.map DTxn.enc)) :
    PFun Tryz.prog 207 [.c (.pt r q 5 ix 0), I k] H (B (wroteF ts[ix].undos k)) := by
  have hsub := arrAt_sub ha (i := ix) (f := 4) (row := ts[ix].enc) (by simp [hix]) rfl
  generalize hl : ts[ix].undos = l at *
  obtain ⟨R, hR⟩ : ∃ R, R = wroteF l k := ⟨_, rfl⟩
  rw [← hR]
  refine PFun.of [0, 1, 4, 5, 12, 24] Tryz.func207 rfl (by simp [Tryz.f207]) ?_
  intro d hd0 hfr hcl hout
  have hcd : ∀ n q, CleanH (hit [((d, n), q)]) H := fun n q => hcl.at
  have ha_n : ∀ n, ¬ (d, n) = r := fun n => nm_ne (ne_of_arr hfr ha)
  have ha_d : ¬ r.1 = d := ne_of_arr hfr ha
  have ha_m : ∀ n, ¬ r = (d, n) := fun n => nm_ne' (ne_of_arr hfr ha)
  simp (maxSteps := 4000000) [hd0, hfr, hout, hcl, hcd, delA_none, ha, ha_n, ha_d, ha_m, Tryz.f207]
  refine LoopK.intro (fun m s => ∃ i : Nat, i + m = l.length ∧ wroteF (l.drop i) k = R ∧ s = ⟨[(0, .c (.pt r q 5 ix 0)), (1, I k), (5, I i)], H, []⟩) (l.length + 1) (LK.intro l.length [0, 1, 5] [] (by omega) (by decide) (by simp (maxSteps := 4000000) [hd0, hfr, hout, hcl, hcd, delA_none, ha, ha_n, ha_d, ha_m]) ⟨0, by simp [hR]⟩) ?_
  rintro m s ⟨i, him, hinv, rfl⟩
  by_cases hi' : i < l.length
  case neg =>
    rw [List.drop_eq_nil_of_le (by omega)] at hinv
    simp only [wroteF, List.any_nil] at hinv
    simp (maxSteps := 4000000) [hd0, hfr, hout, hcl, hcd, delA_none, ha, ha_n, ha_d, ha_m, hix, DTxn.enc, hl, eq_false (show ¬ (i : Int) < l.length by omega), hinv.symm]
  rw [List.drop_eq_getElem_cons hi'] at hinv
  simp only [wroteF, List.any_cons] at hinv
  have w1 : IntKind.i64.wrap ((i : Int) + 1) = i + 1 := w64 (by omega) (by omega)
  by_cases he : l[i].key = k
  · simp only [he, decide_true, Bool.true_or] at hinv
    simp (maxSteps := 4000000) [hd0, hfr, hout, hcl, hcd, delA_none, ha, ha_n, ha_d, ha_m, hix, DTxn.enc, hl, hsub, eq_true (show (i : Int) < l.length by omega), hi', DUndo.enc, eq_true he, hinv.symm]
  · simp only [he, decide_false, Bool.false_or] at hinv
    simp (maxSteps := 4000000) [hd0, hfr, hout, hcl, hcd, delA_none, ha, ha_n, ha_d, ha_m, hix, DTxn.enc, hl, hsub, eq_true (show (i : Int) < l.length by omega), hi', DUndo.enc, eq_false he, w1]
    refine LK.intro (m - 1) [0, 1, 5] [] (by omega) (by decide) (by simp (maxSteps := 4000000) [hd0, hfr, hout, hcl, hcd, delA_none, ha, ha_n, ha_d, ha_m]) ⟨i + 1, by omega, hinv, by simp⟩
theorem txsF_rise {next clock : Int} : ∀ {l : List DTxn} {p}, txsF next clock p l = 0 → (∀ b, p = some b → ∀ t ∈ l, b < t.id_) ∧ (∀ t ∈ l, 1 ≤ t.id_) ∧ ∀ (i j : Nat) (hi : i < l.length) (hj : j < l.length), i < j → l[i].id_ < l[j].id_
  | [], _, _ => ⟨by simp, by simp, fun i j hi => by simp at hi⟩
  | t0 :: l, p, h => by
    simp only [txsF] at h
    split at h
    · omega
    · rename_i h1
      split at h
      · omega
      · rename_i h2
        split at h
        · rename_i h3; exact absurd h h3
        · obtain ⟨k1, k2, k3⟩ := txsF_rise h
          have hk : 1 ≤ t0.id_ := by
            simp only [Bool.not_eq_false] at h1
            unfold tRange inR at h1
            simp only [Bool.and_eq_true, decide_eq_true_eq] at h1
            omega
          have hp : ∀ b, p = some b → b < t0.id_ := by
            intro b hb
            subst hb
            simp only [Bool.not_eq_false] at h2
            simp only [tForm, nab, Bool.and_eq_true, Bool.not_eq_true', decide_eq_false_iff_not] at h2
            omega
          refine ⟨fun b hb x hx => ?_, fun x hx => ?_, fun i j hi hj hij => ?_⟩
          · rcases List.mem_cons.1 hx with rfl | hx
            · exact hp b hb
            · have := hp b hb; have := k1 t0.id_ rfl x hx; omega
          · rcases List.mem_cons.1 hx with rfl | hx
            · exact hk
            · exact k2 x hx
          · cases j with
            | zero => omega
            | succ j =>
              cases i with
              | zero => simpa using k1 t0.id_ rfl _ (List.getElem_mem (by simpa using hj))
              | succ i => simpa using k3 i j (by simpa using hi) (by simpa using hj) (by omega)
theorem any_at {next clock id k : Int} {l : List DTxn} {i : Nat} (h : txsF next clock none l = 0) (hi : i < l.length) (he : l[i].id_ = id) :
    (l.any fun t => decide (t.id_ = id) && undoesF t k) = undoesF l[i] k := by
  obtain ⟨-, -, h3⟩ := txsF_rise h
  rw [Bool.eq_iff_iff, List.any_eq_true]
  constructor
  · rintro ⟨t, ht, h4⟩
    obtain ⟨j, hj, rfl⟩ := List.getElem_of_mem ht
    simp only [Bool.and_eq_true, decide_eq_true_eq] at h4
    have : i = j := by
      rcases Nat.lt_trichotomy i j with h5 | h5 | h5
      · have := h3 i j hi hj h5; omega
      · exact h5
      · have := h3 j i hj hi h5; omega
    subst this
    exact h4.2
  · intro h4
    exact ⟨l[i], List.getElem_mem hi, by simp [he, h4]⟩
end Go.Proofs.YtnlbjfdmjlnlgaaGreat

namespace Go.Proofs.YtnlbjfdmjlnlgaaGreat
open Go Go.Px Go.RowKit Go.Proofs
set_option linter.unnecessarySimpa false
set_option linter.unusedVariables false
set_option linter.unusedSimpArgs false
set_option maxRecDepth 100000
set_option maxHeartbeats 1000000
attribute [-simp] Int.not_le Int.not_lt
theorem rowOpen_zero {txns : List DTxn} {r : DRow} (hv : ∀ v ∈ r.chain, v.txn ≠ 0) (h : writF r.chain = 0) : rowOpenF txns r = true := by
  unfold rowOpenF
  cases hc : r.chain with
  | nil => rfl
  | cons v l =>
    rw [hc] at h
    have h1 := hv v (by rw [hc]; simp)
    simp only [writF] at h
    split at h
    · exact absurd h h1
    · rename_i h2; simp [h2]
theorem rowOpen_some {txns : List DTxn} {r : DRow} (h : writF r.chain ≠ 0) : rowOpenF txns r = txns.any fun t => decide (t.id_ = writF r.chain) && undoesF t r.key := by
  unfold rowOpenF
  cases hc : r.chain with
  | nil => rw [hc] at h; simp [writF] at h
  | cons v l =>
    rw [hc] at h
    simp only [writF] at h ⊢
    split at h
    · rename_i h2; simp [h2]
    · simp at h
theorem spec_l6Open (H : HH) {r0 q0 r1 q1 r2 q2 ix} {x : DEngine} (hix : ix < x.rows.length) (hl : x.le 1048576) (ht : txsF x.next x.clock none x.txns = 0) (hv : ∀ v ∈ x.rows[ix].chain, v.txn ≠ 0)
    (a0 : arrAt H r0 q0 = some (4, [eRow x r1 q1 r2 q2])) (a1 : arrAt H r1 q1 = some (5, x.txns.map DTxn.enc)) (a2 : arrAt H r2 q2 = some (2, x.rows.map DRow.enc)) :
    PFun Tryz.prog 182 [.c (.pt r0 q0 4 0 0), .c (.pt r2 q2 2 ix 0)] H (B (rowOpenF x.txns x.rows[ix])) := by
  have hsub := arrAt_sub a2 (i := ix) (f := 1) (row := x.rows[ix].enc) (by simp [hix]) rfl
  refine PFun.of [0, 1, 4, 5, 6, 13] Tryz.func182 rfl (by simp [Tryz.f182]) ?_
  intro d hd0 hfr hcl hout
  have hcd : ∀ n q, CleanH (hit [((d, n), q)]) H := fun n q => hcl.at
  have a0_n : ∀ n, ¬ (d, n) = r0 := fun n => nm_ne (ne_of_arr hfr a0)
  have a0_d : ¬ r0.1 = d := ne_of_arr hfr a0
  have a0_m : ∀ n, ¬ r0 = (d, n) := fun n => nm_ne' (ne_of_arr hfr a0)
  have a1_n : ∀ n, ¬ (d, n) = r1 := fun n => nm_ne (ne_of_arr hfr a1)
  have a1_d : ¬ r1.1 = d := ne_of_arr hfr a1
  have a1_m : ∀ n, ¬ r1 = (d, n) := fun n => nm_ne' (ne_of_arr hfr a1)
  have a2_n : ∀ n, ¬ (d, n) = r2 := fun n => nm_ne (ne_of_arr hfr a2)
  have a2_d : ¬ r2.1 = d := ne_of_arr hfr a2
  have a2_m : ∀ n, ¬ r2 = (d, n) := fun n => nm_ne' (ne_of_arr hfr a2)
  simp (maxSteps := 4000000) [hd0, hfr, hout, hcl, hcd, delA_none, a0, a0_n, a0_d, a0_m, a1, a1_n, a1_d, a1_m, a2, a2_n, a2_d, a2_m, Tryz.f182]
  simp (maxSteps := 4000000) [hd0, hfr, hout, hcl, hcd, delA_none, a0, a0_n, a0_d, a0_m, a1, a1_n, a1_d, a1_m, a2, a2_n, a2_d, a2_m, hix, DRow.enc]
  refine (spec_l5Writer _ (l := x.rows[ix].chain) (by simp (maxSteps := 4000000) [hd0, hfr, hout, hcl, hcd, delA_none, a0, a0_n, a0_d, a0_m, a1, a1_n, a1_d, a1_m, a2, a2_n, a2_d, a2_m, hsub])).useCK ?_
  have hz := rowOpen_zero (txns := x.txns) hv
  have hs := rowOpen_some (txns := x.txns) (r := x.rows[ix])
  obtain ⟨b1, b1p⟩ := hl.1
  generalize writF x.rows[ix].chain = w at *
  generalize rowOpenF x.txns x.rows[ix] = R at *
  by_cases hw : w = 0
  case pos => simp (maxSteps := 4000000) [hd0, hfr, hout, hcl, hcd, delA_none, a0, a0_n, a0_d, a0_m, a1, a1_n, a1_d, a1_m, a2, a2_n, a2_d, a2_m, eq_true hw, hz hw]
  simp (maxSteps := 4000000) [hd0, hfr, hout, hcl, hcd, delA_none, a0, a0_n, a0_d, a0_m, a1, a1_n, a1_d, a1_m, a2, a2_n, a2_d, a2_m, eq_false hw]
  refine (spec_l6Txn _ (r1 := r1) (q1 := q1) (r2 := r2) (q2 := q2) hl (by simp (maxSteps := 4000000) [hd0, hfr, hout, hcl, hcd, delA_none, a0, a0_n, a0_d, a0_m, a1, a1_n, a1_d, a1_m, a2, a2_n, a2_d, a2_m]) (by simp (maxSteps := 4000000) [hd0, hfr, hout, hcl, hcd, delA_none, a0, a0_n, a0_d, a0_m, a1, a1_n, a1_d, a1_m, a2, a2_n, a2_d, a2_m])).useCK ?_
  have hR := hs hw
  clear hs hz
  simp (maxSteps := 4000000) [hd0, hfr, hout, hcl, hcd, delA_none, a0, a0_n, a0_d, a0_m, a1, a1_n, a1_d, a1_m, a2, a2_n, a2_d, a2_m]
  refine DrawK.intro 27 [4] rfl (by kernel_rfl) (by decide) ?_
  rcases ixF_some (p := fun t : DTxn => decide (t.id_ = w)) (l := x.txns) (n := 0) with ⟨h2, h3⟩ | ⟨i, hi, h2, h3⟩
  · have hR0 : R = false := by
      rw [hR, List.any_eq_false]
      intro t htm
      have := h3 t htm
      simp only [decide_eq_false_iff_not] at this
      simp [this]
    rw [h2]
    simp (maxSteps := 4000000) [hd0, hfr, hout, hcl, hcd, delA_none, a0, a0_n, a0_d, a0_m, a1, a1_n, a1_d, a1_m, a2, a2_n, a2_d, a2_m, hR0]
  · rw [h2]
    simp only [decide_eq_true_eq] at h3
    rw [any_at ht hi h3] at hR
    subst hR
    by_cases h5 : x.txns[i].state = 1
    · simp (maxSteps := 4000000) [hd0, hfr, hout, hcl, hcd, delA_none, a0, a0_n, a0_d, a0_m, a1, a1_n, a1_d, a1_m, a2, a2_n, a2_d, a2_m, eRow, hi, DTxn.enc, eq_true h5, hix, DRow.enc, eq_true (show (0 : Int) ≤ (i : Int) by omega), eq_true (show (0 : Int) ≤ 0 + (i : Int) by omega), Int.zero_add]
      refine ⟨_, spec_l6Wrote _ hi (b1p _ (List.getElem_mem hi)) (by simp (maxSteps := 4000000) [hd0, hfr, hout, hcl, hcd, delA_none, a0, a0_n, a0_d, a0_m, a1, a1_n, a1_d, a1_m, a2, a2_n, a2_d, a2_m]), ?_⟩
      simp (maxSteps := 4000000) [hd0, hfr, hout, hcl, hcd, delA_none, a0, a0_n, a0_d, a0_m, a1, a1_n, a1_d, a1_m, a2, a2_n, a2_d, a2_m, undoesF, eq_true h5]
    · simp (maxSteps := 4000000) [hd0, hfr, hout, hcl, hcd, delA_none, a0, a0_n, a0_d, a0_m, a1, a1_n, a1_d, a1_m, a2, a2_n, a2_d, a2_m, eRow, hi, DTxn.enc, eq_false h5, undoesF, eq_true (show (0 : Int) ≤ (i : Int) by omega), eq_true (show (0 : Int) ≤ 0 + (i : Int) by omega), Int.zero_add]
end Go.Proofs.YtnlbjfdmjlnlgaaGreat

namespace Go.Proofs.YtnlbjfdmjlnlgaaGreat
open Go Go.Px Go.RowKit Go.Proofs
set_option linter.unnecessarySimpa false
set_option linter.unusedVariables false
set_option linter.unusedSimpArgs false
set_option maxRecDepth 100000
set_option maxHeartbeats 1000000
attribute [-simp] Int.not_le Int.not_lt
theorem foundR_none {l : List DRow} {k : Int} (h : ∀ r ∈ l, r.key ≠ k) : foundR l k = false := by
  unfold foundR
  by_cases h1 : rowP l k < l.length
  · simp only [List.getElem?_eq_getElem h1]
    simpa using h _ (List.getElem_mem h1)
  · simp [List.getElem?_eq_none (show l.length ≤ rowP l k by omega)]
theorem rowP_at {l : List DRow} {k : Int} {j : Nat} (hs : sortedR l) (hj : j < l.length) (he : l[j].key = k) : rowP l k = j := by
  obtain ⟨p1, p2, p3⟩ := rowP_spec (k := k) l
  have h1 : rowP l k ≤ j := by
    apply Nat.le_of_not_lt
    intro h
    have := p2 j hj h
    omega
  have h2 : ¬ rowP l k < j := by
    intro h
    have := p3 (by omega)
    have := hs (rowP l k) j h hj
    omega
  omega
theorem chainR_at {l : List DRow} {k : Int} {j : Nat} (hs : sortedR l) (hj : j < l.length) (he : l[j].key = k) : chainR l k = l[j].chain := by
  have hp := rowP_at hs hj he
  have hf : foundR l k = true := by unfold foundR; simp [hp, List.getElem?_eq_getElem hj, he]
  unfold chainR
  simp [hf, hp, List.getD_eq_getElem?_getD, List.getElem?_eq_getElem hj]
theorem chainR_none {l : List DRow} {k : Int} (h : ∀ r ∈ l, r.key ≠ k) : chainR l k = [] := by
  unfold chainR; simp [foundR_none h]
theorem openF_writ {l : List DVersion} {id : Int} (h : id ≠ 0) : openF l id = decide (writF l = id) := by
  cases l with
  | nil => have h0 : ¬ (0 : Int) = id := fun e => h e.symm
           simp [openF, writF, h0]
  | cons v l =>
    simp only [openF, writF]
    by_cases h1 : v.at_ = 0
    · simp [h1]
    · have h0 : ¬ (0 : Int) = id := fun e => h e.symm
      simp [h1, h0]
theorem take_any_succ {l : List DUndo} {k : Int} {j : Nat} (hj : j < l.length) : ((l.take (j + 1)).any fun x => decide (x.key = k)) = (((l.take j).any fun x => decide (x.key = k)) || decide (l[j].key = k)) := by
  rw [List.take_succ_eq_append_getElem hj, List.any_append]; simp
set_option maxHeartbeats 8000000 in
theorem spec_l6Owns (H : HH) {r0 q0 r1 q1 r2 q2 ti} {x : DEngine} (hti : ti < x.txns.length) (hl : x.le 1048576) (hid : x.txns[ti].id_ ≠ 0) (hs : sortedR x.rows)
    (a0 : arrAt H r0 q0 = some (4, [eRow x r1 q1 r2 q2])) (a1 : arrAt H r1 q1 = some (5, x.txns.map DTxn.enc)) (a2 : arrAt H r2 q2 = some (2, x.rows.map DRow.enc)) :
    PFun Tryz.prog 138 [.c (.pt r0 q0 4 0 0), .c (.pt r1 q1 5 ti 0)] H (B (ownsF x.rows x.txns[ti])) := by
  have hsub := arrAt_sub a1 (i := ti) (f := 4) (row := x.txns[ti].enc) (by simp [hti]) rfl
  have hbu : x.txns[ti].undos.length ≤ 1048576 := hl.1.2 _ (List.getElem_mem hti)
  have hF : (∀ j, j < x.txns[ti].undos.length → ownI x.rows x.txns[ti].id_ x.txns[ti].undos j = true) → ownsF x.rows x.txns[ti] = true := fun h => by
    unfold ownsF; rw [List.all_eq_true]; intro j hj; exact h j (List.mem_range.1 hj)
  have hE : ∀ j, j < x.txns[ti].undos.length → ownI x.rows x.txns[ti].id_ x.txns[ti].undos j = false → ownsF x.rows x.txns[ti] = false := fun j hj h => by
    cases hw : ownsF x.rows x.txns[ti] with
    | false => rfl
    | true =>
      unfold ownsF at hw
      rw [List.all_eq_true] at hw
      have := hw j (List.mem_range.2 hj)
      rw [h] at this; exact absurd this (by simp)
  generalize ownsF x.rows x.txns[ti] = R at *
  generalize hu : x.txns[ti].undos = us at *
  generalize hd' : x.txns[ti].id_ = id at *
  refine PFun.of [0, 1, 4, 5, 6, 7, 8, 9, 16, 47, 50, 70] Tryz.func138 rfl (by simp [Tryz.f138]) ?_
  intro d hd0 hfr hcl hout
  have hcd : ∀ n q, CleanH (hit [((d, n), q)]) H := fun n q => hcl.at
  have a0_n : ∀ n, ¬ (d, n) = r0 := fun n => nm_ne (ne_of_arr hfr a0)
  have a0_d : ¬ r0.1 = d := ne_of_arr hfr a0
  have a0_m : ∀ n, ¬ r0 = (d, n) := fun n => nm_ne' (ne_of_arr hfr a0)
  have a1_n : ∀ n, ¬ (d, n) = r1 := fun n => nm_ne (ne_of_arr hfr a1)
  have a1_d : ¬ r1.1 = d := ne_of_arr hfr a1
  have a1_m : ∀ n, ¬ r1 = (d, n) := fun n => nm_ne' (ne_of_arr hfr a1)
  have a2_n : ∀ n, ¬ (d, n) = r2 := fun n => nm_ne (ne_of_arr hfr a2)
  have a2_d : ¬ r2.1 = d := ne_of_arr hfr a2
  have a2_m : ∀ n, ¬ r2 = (d, n) := fun n => nm_ne' (ne_of_arr hfr a2)
  simp (maxSteps := 4000000) [hd0, hfr, hout, hcl, hcd, delA_none, a0, a0_n, a0_d, a0_m, a1, a1_n, a1_d, a1_m, a2, a2_n, a2_d, a2_m, Tryz.f138]
  refine LoopK.intro (fun m s => ∃ i : Nat, i + m = us.length ∧ (∀ j, j < i → ownI x.rows id us j = true) ∧ s = ⟨[(0, .c (.pt r0 q0 4 0 0)), (1, .c (.pt r1 q1 5 ti 0)), (5, I i)], H, []⟩) (us.length + 1)
    (LK.intro us.length [0, 1, 5] [] (by omega) (by decide) (by simp (maxSteps := 4000000) [hd0, hfr, hout, hcl, hcd, delA_none, a0, a0_n, a0_d, a0_m, a1, a1_n, a1_d, a1_m, a2, a2_n, a2_d, a2_m]) ⟨0, by simp⟩) ?_
  rintro m s ⟨i, him, hinv, rfl⟩
  by_cases hi' : i < us.length
  case neg =>
    simp (maxSteps := 4000000) [hd0, hfr, hout, hcl, hcd, delA_none, a0, a0_n, a0_d, a0_m, a1, a1_n, a1_d, a1_m, a2, a2_n, a2_d, a2_m, hti, DTxn.enc, hu, eq_false (show ¬ (i : Int) < us.length by omega), hF (fun j hj => hinv j (by omega))]
  have w1 : IntKind.i64.wrap ((i : Int) + 1) = i + 1 := w64 (by omega) (by omega)
  have hO : ownI x.rows id us i = (openF (chainR x.rows us[i].key) id && ((us.take i).any (fun x => decide (x.key = us[i].key)) == us[i].had)) := by
    unfold ownI; rw [List.getElem?_eq_getElem hi']
  rw [openF_writ hid] at hO
  simp (maxSteps := 4000000) [hd0, hfr, hout, hcl, hcd, delA_none, a0, a0_n, a0_d, a0_m, a1, a1_n, a1_d, a1_m, a2, a2_n, a2_d, a2_m, hti, DTxn.enc, hu, hsub, hi', DUndo.enc, eq_true (show (i : Int) < us.length by omega)]
  refine (spec_l6Row _ (x := x) (r1 := r1) (q1 := q1) (r2 := r2) (q2 := q2) hl (by simp (maxSteps := 4000000) [hd0, hfr, hout, hcl, hcd, delA_none, a0, a0_n, a0_d, a0_m, a1, a1_n, a1_d, a1_m, a2, a2_n, a2_d, a2_m]) (by simp (maxSteps := 4000000) [hd0, hfr, hout, hcl, hcd, delA_none, a0, a0_n, a0_d, a0_m, a1, a1_n, a1_d, a1_m, a2, a2_n, a2_d, a2_m])).useCK ?_
  rcases ixF_some (p := fun t : DRow => decide (t.key = us[i].key)) (l := x.rows) (n := 0) with ⟨h2, h3⟩ | ⟨k, hk, h2, h3⟩
  · rw [h2]
    rw [chainR_none (by intro r hr; simpa using h3 r hr)] at hO
    have hR := hE i hi' (by rw [hO]; simp [writF, show ¬ (0 : Int) = id from fun e => hid e.symm])
    simp (maxSteps := 4000000) [hd0, hfr, hout, hcl, hcd, delA_none, a0, a0_n, a0_d, a0_m, a1, a1_n, a1_d, a1_m, a2, a2_n, a2_d, a2_m]
    refine DrawK.intro 18 [0, 1, 5, 6, 47] rfl (by kernel_rfl) (by decide) ?_
    simp (maxSteps := 4000000) [hd0, hfr, hout, hcl, hcd, delA_none, a0, a0_n, a0_d, a0_m, a1, a1_n, a1_d, a1_m, a2, a2_n, a2_d, a2_m, hR]
  simp only [decide_eq_true_eq] at h3
  rw [chainR_at hs hk h3] at hO
  rw [h2]
  have hsub2 := arrAt_sub a2 (i := k) (f := 1) (row := x.rows[k].enc) (by simp [hk]) rfl
  simp (maxSteps := 4000000) [hd0, hfr, hout, hcl, hcd, delA_none, a0, a0_n, a0_d, a0_m, a1, a1_n, a1_d, a1_m, a2, a2_n, a2_d, a2_m, Int.zero_add]
  refine DrawK.intro 18 [0, 1, 5, 6, 47] rfl (by kernel_rfl) (by decide) ?_
  simp (maxSteps := 4000000) [hd0, hfr, hout, hcl, hcd, delA_none, a0, a0_n, a0_d, a0_m, a1, a1_n, a1_d, a1_m, a2, a2_n, a2_d, a2_m, eRow, hk, DRow.enc, eq_false (show ¬ (k : Int) < 0 by omega), hti, DTxn.enc]
  refine ⟨_, spec_l5Writer _ (l := x.rows[k].chain) (by simp (maxSteps := 4000000) [hd0, hfr, hout, hcl, hcd, delA_none, a0, a0_n, a0_d, a0_m, a1, a1_n, a1_d, a1_m, a2, a2_n, a2_d, a2_m, hsub2]), ?_⟩
  by_cases e1 : writF x.rows[k].chain = id
  case neg =>
    have hR := hE i hi' (by rw [hO]; simp [e1])
    simp (maxSteps := 4000000) [hd0, hfr, hout, hcl, hcd, delA_none, a0, a0_n, a0_d, a0_m, a1, a1_n, a1_d, a1_m, a2, a2_n, a2_d, a2_m, eq_false e1, hR, hd', hti, DTxn.enc]
  simp (maxSteps := 4000000) [hd0, hfr, hout, hcl, hcd, delA_none, a0, a0_n, a0_d, a0_m, a1, a1_n, a1_d, a1_m, a2, a2_n, a2_d, a2_m, eq_true e1, hd', hti, DTxn.enc]
  refine LoopK.intro (fun m s => ∃ j : Nat, j + m = i ∧ s = ⟨[(0, .c (.pt r0 q0 4 0 0)), (1, .c (.pt r1 q1 5 ti 0)), (5, I i), (6, .c (.pt (d, 6) [] 4 0 0)), (8, B ((us.take j).any fun x => decide (x.key = us[i].key))), (9, I j)], ((d, 6), .own 4 [us[i].enc]) :: H, []⟩) (i + 1)
    (LK.intro i [0, 1, 5, 6, 8, 9] [] (by omega) (by decide) (by simp (maxSteps := 4000000) [hd0, hfr, hout, hcl, hcd, delA_none, a0, a0_n, a0_d, a0_m, a1, a1_n, a1_d, a1_m, a2, a2_n, a2_d, a2_m]) ⟨0, by simp [DUndo.enc]⟩) ?_
  rintro m2 s ⟨j, hjm, rfl⟩
  by_cases hj' : j < i
  · have w2 : IntKind.i64.wrap ((j : Int) + 1) = j + 1 := w64 (by omega) (by omega)
    have hju : j < us.length := by omega
    have hts := take_any_succ (k := us[i].key) hju
    simp (maxSteps := 4000000) [hd0, hfr, hout, hcl, hcd, delA_none, a0, a0_n, a0_d, a0_m, a1, a1_n, a1_d, a1_m, a2, a2_n, a2_d, a2_m, eq_true (show (j : Int) < (i : Int) by omega)]
    refine DrawK.intro 14 [0, 1, 5, 6, 9, 66] rfl (by kernel_rfl) (by decide) ?_
    generalize ((us.take j).any fun x => decide (x.key = us[i].key)) = b at *
    cases b
    · simp (maxSteps := 4000000) [hd0, hfr, hout, hcl, hcd, delA_none, a0, a0_n, a0_d, a0_m, a1, a1_n, a1_d, a1_m, a2, a2_n, a2_d, a2_m, hti, DTxn.enc, hu, hsub, hju, DUndo.enc, w2]
      refine LK.intro (m2 - 1) [0, 1, 5, 6, 8, 9] [] (by omega) (by decide) (by simp (maxSteps := 4000000) [hd0, hfr, hout, hcl, hcd, delA_none, a0, a0_n, a0_d, a0_m, a1, a1_n, a1_d, a1_m, a2, a2_n, a2_d, a2_m]) ⟨j + 1, by omega, by rw [hts]; simp⟩
    · simp (maxSteps := 4000000) [hd0, hfr, hout, hcl, hcd, delA_none, a0, a0_n, a0_d, a0_m, a1, a1_n, a1_d, a1_m, a2, a2_n, a2_d, a2_m, w2]
      refine LK.intro (m2 - 1) [0, 1, 5, 6, 8, 9] [] (by omega) (by decide) (by simp (maxSteps := 4000000) [hd0, hfr, hout, hcl, hcd, delA_none, a0, a0_n, a0_d, a0_m, a1, a1_n, a1_d, a1_m, a2, a2_n, a2_d, a2_m]) ⟨j + 1, by omega, by rw [hts]; simp⟩
  have hji : j = i := by omega
  subst hji
  rw [show decide (writF x.rows[k].chain = id) = true by simp [e1], Bool.true_and] at hO
  generalize ((us.take j).any fun x => decide (x.key = us[j].key)) = b at *
  have hx : b = us[j].had → ownI x.rows id us j = true := fun h => by rw [hO, h]; simp
  have hy : b ≠ us[j].had → R = false := fun h => hE j hi' (by rw [hO]; simpa using h)
  by_cases hb2 : us[j].had = b
  · simp (maxSteps := 4000000) [hd0, hfr, hout, hcl, hcd, delA_none, a0, a0_n, a0_d, a0_m, a1, a1_n, a1_d, a1_m, a2, a2_n, a2_d, a2_m, eq_false (show ¬ (j : Int) < (j : Int) by omega), DUndo.enc, hb2, w1]
    refine LK.intro (m - 1) [0, 1, 5] [6] (by omega) (by decide) (by simp (maxSteps := 4000000) [hd0, hfr, hout, hcl, hcd, delA_none, a0, a0_n, a0_d, a0_m, a1, a1_n, a1_d, a1_m, a2, a2_n, a2_d, a2_m]) ⟨j + 1, by omega, fun k hk => ?_, by simp⟩
    by_cases hkj : k = j
    · subst hkj; exact hx hb2.symm
    · exact hinv k (by omega)
  · simp (maxSteps := 4000000) [hd0, hfr, hout, hcl, hcd, delA_none, a0, a0_n, a0_d, a0_m, a1, a1_n, a1_d, a1_m, a2, a2_n, a2_d, a2_m, eq_false (show ¬ (j : Int) < (j : Int) by omega), DUndo.enc, eq_false hb2, eq_false (fun h => hb2 h.symm : ¬ b = us[j].had), hy (fun h => hb2 h.symm)]
end Go.Proofs.YtnlbjfdmjlnlgaaGreat

namespace Go.Proofs.YtnlbjfdmjlnlgaaGreat
open Go Go.Px Go.RowKit Go.Proofs
set_option linter.unnecessarySimpa false
set_option linter.unusedVariables false
set_option linter.unusedSimpArgs false
set_option maxRecDepth 100000
set_option maxHeartbeats 1000000
attribute [-simp] Int.not_le Int.not_lt
theorem chF_get : ∀ {l : List DVersion} {p}, chF p l = 0 → ∀ v ∈ l, vRange v = true
  | [], _, _ => by simp
  | v0 :: l, p, h => by
    simp only [chF] at h
    split at h
    · omega
    · rename_i h1
      split at h
      · omega
      · intro v hv
        rcases List.mem_cons.1 hv with rfl | hv
        · simpa using h1
        · exact chF_get h v hv
theorem chF_fall : ∀ {l : List DVersion} {b : Int}, chF (some b) l = 0 → b ≠ 0 → ∀ v ∈ l, v.at_ < b
  | [], _, _, _ => by simp
  | v0 :: l, b, h, hb => by
    simp only [chF] at h
    split at h
    · omega
    · split at h
      · omega
      · rename_i h2
        simp only [Bool.or_eq_true, Bool.and_eq_true, badP, decide_eq_true_eq, not_or, not_and] at h2
        have h3 : v0.at_ ≠ 0 := h2.2.1
        have h4 : v0.at_ < b := by have := h2.2.2 hb; omega
        intro v hv
        rcases List.mem_cons.1 hv with rfl | hv
        · exact h4
        · have := chF_fall h h3 v hv; omega
theorem chain_any {c : Int} {v0 v1 : DVersion} {l : List DVersion} (hc : 0 ≤ c) (h : chF none (v0 :: v1 :: l) = 0) :
    ((v0 :: v1 :: l).any fun v => decide (c < v.at_)) = (decide (c < v0.at_) || decide (c < v1.at_)) := by
  have hf : ∀ v ∈ l, v.at_ < v1.at_ := by
    simp only [chF] at h
    split at h
    · omega
    · split at h
      · omega
      · split at h
        · omega
        · split at h
          · omega
          · rename_i h2
            simp only [Bool.or_eq_true, Bool.and_eq_true, badP, decide_eq_true_eq, not_or, not_and] at h2
            exact chF_fall h h2.2.1
  rw [Bool.eq_iff_iff, List.any_eq_true]
  simp only [decide_eq_true_eq, Bool.or_eq_true]
  constructor
  · rintro ⟨v, hv, h1⟩
    rcases List.mem_cons.1 hv with rfl | hv
    · exact .inl h1
    · rcases List.mem_cons.1 hv with rfl | hv
      · exact .inr h1
      · have := hf v hv; exact .inr (by omega)
  · rintro (h1 | h1)
    · exact ⟨v0, by simp, h1⟩
    · exact ⟨v1, by simp, h1⟩
theorem chain_txn {l : List DVersion} (h : chainF l = 0) : ∀ v ∈ l, v.txn ≠ 0 := by
  unfold chainF at h
  split at h
  · omega
  · intro v hv
    have := chF_get h v hv
    unfold vRange inR at this
    simp only [Bool.and_eq_true, decide_eq_true_eq] at this
    omega
theorem chainF_chF {l : List DVersion} (h : chainF l = 0) : chF none l = 0 := by
  unfold chainF at h
  split at h
  · omega
  · exact h
set_option maxHeartbeats 8000000 in
theorem spec_l6Rows (H : HH) {r0 q0 r1 q1 r2 q2} {x : DEngine} (hc : 0 ≤ x.clock) (hl : x.le 1048576) (ht : txsF x.next x.clock none x.txns = 0)
    (a0 : arrAt H r0 q0 = some (4, [eRow x r1 q1 r2 q2])) (a1 : arrAt H r1 q1 = some (5, x.txns.map DTxn.enc)) (a2 : arrAt H r2 q2 = some (2, x.rows.map DRow.enc)) :
    PFun Tryz.prog 137 [.c (.pt r0 q0 4 0 0)] H (I (rowsF x.clock x.txns none x.rows)) := by
  have hl' := hl
  obtain ⟨⟨b1, b1p⟩, b2, b2p⟩ := hl'
  obtain ⟨R, hR⟩ : ∃ R, R = rowsF x.clock x.txns none x.rows := ⟨_, rfl⟩
  rw [← hR]
  refine PFun.of [0, 2, 3, 4, 5, 12, 26, 52, 59, 100] Tryz.func137 rfl (by simp [Tryz.f137]) ?_
  intro d hd0 hfr hcl hout
  have hcd : ∀ n q, CleanH (hit [((d, n), q)]) H := fun n q => hcl.at
  have a0_n : ∀ n, ¬ (d, n) = r0 := fun n => nm_ne (ne_of_arr hfr a0)
  have a0_d : ¬ r0.1 = d := ne_of_arr hfr a0
  have a0_m : ∀ n, ¬ r0 = (d, n) := fun n => nm_ne' (ne_of_arr hfr a0)
  have a1_n : ∀ n, ¬ (d, n) = r1 := fun n => nm_ne (ne_of_arr hfr a1)
  have a1_d : ¬ r1.1 = d := ne_of_arr hfr a1
  have a1_m : ∀ n, ¬ r1 = (d, n) := fun n => nm_ne' (ne_of_arr hfr a1)
  have a2_n : ∀ n, ¬ (d, n) = r2 := fun n => nm_ne (ne_of_arr hfr a2)
  have a2_d : ¬ r2.1 = d := ne_of_arr hfr a2
  have a2_m : ∀ n, ¬ r2 = (d, n) := fun n => nm_ne' (ne_of_arr hfr a2)
  simp (maxSteps := 4000000) [hd0, hfr, hout, hcl, hcd, delA_none, a0, a0_n, a0_d, a0_m, a1, a1_n, a1_d, a1_m, a2, a2_n, a2_d, a2_m, Tryz.f137]
  refine LoopK.intro (fun m s => ∃ i : Nat, i + m = x.rows.length ∧ rowsF x.clock x.txns (prv DRow.key x.rows i) (x.rows.drop i) = R ∧ s = ⟨[(0, .c (.pt r0 q0 4 0 0)), (3, I i)], H, []⟩) (x.rows.length + 1)
    (LK.intro x.rows.length [0, 3] [] (by omega) (by decide) (by simp (maxSteps := 4000000) [hd0, hfr, hout, hcl, hcd, delA_none, a0, a0_n, a0_d, a0_m, a1, a1_n, a1_d, a1_m, a2, a2_n, a2_d, a2_m]) ⟨0, by simp [prv, hR]⟩) ?_
  rintro m s ⟨i, him, hinv, rfl⟩
  by_cases hi' : i < x.rows.length
  case neg =>
    rw [List.drop_eq_nil_of_le (by omega)] at hinv
    simp only [rowsF] at hinv
    simp (maxSteps := 4000000) [hd0, hfr, hout, hcl, hcd, delA_none, a0, a0_n, a0_d, a0_m, a1, a1_n, a1_d, a1_m, a2, a2_n, a2_d, a2_m, eRow, eq_false (show ¬ (i : Int) < x.rows.length by omega), hinv.symm]
  rw [List.drop_eq_getElem_cons hi'] at hinv
  simp only [rowsF] at hinv
  have w1 : IntKind.i64.wrap ((i : Int) + 1) = i + 1 := w64 (by omega) (by omega)
  have w2 : i ≠ 0 → IntKind.i64.wrap ((i : Int) - 1) = (i - 1 : Nat) := fun h => by rw [w64 (by omega) (by omega)]; omega
  have hend := prv_succ (f := DRow.key) hi'
  have hbc := b2p _ (List.getElem_mem hi')
  have hsub := arrAt_sub a2 (i := i) (f := 1) (row := x.rows[i].enc) (by simp [hi']) rfl
  simp (maxSteps := 4000000) [hd0, hfr, hout, hcl, hcd, delA_none, a0, a0_n, a0_d, a0_m, a1, a1_n, a1_d, a1_m, a2, a2_n, a2_d, a2_m, eRow, eq_true (show (i : Int) < x.rows.length by omega), hi', DRow.enc]
  refine (spec_l1Key _ _).useCK ?_
  by_cases d1 : inR x.rows[i].key 0 31 = true
  case neg => simp only [Bool.not_eq_true] at d1; simp [d1] at hinv; simp (maxSteps := 4000000) [hd0, hfr, hout, hcl, hcd, delA_none, a0, a0_n, a0_d, a0_m, a1, a1_n, a1_d, a1_m, a2, a2_n, a2_d, a2_m, d1, hinv.symm]
  rw [d1, if_neg (by simp)] at hinv
  simp (maxSteps := 4000000) [hd0, hfr, hout, hcl, hcd, delA_none, a0, a0_n, a0_d, a0_m, a1, a1_n, a1_d, a1_m, a2, a2_n, a2_d, a2_m, d1]
  refine DrawK.intro 26 [0, 3, 4, 52] rfl (by kernel_rfl) (by decide) ?_
  have hone : (nab (prv DRow.key x.rows i) x.rows[i].key || decide (x.rows[i].chain.length = 0)) = true → R = 1 := fun h => by rw [if_pos h] at hinv; exact hinv.symm
  by_cases e0 : x.rows[i].chain.length = 0
  case pos =>
    have h1 := hone (by simp [e0])
    have e0' : x.rows[i].chain = [] := List.eq_nil_of_length_eq_zero e0
    by_cases hi0 : i = 0
    · simp (maxSteps := 4000000) [hd0, hfr, hout, hcl, hcd, delA_none, a0, a0_n, a0_d, a0_m, a1, a1_n, a1_d, a1_m, a2, a2_n, a2_d, a2_m, eq_false (show ¬ (0 : Int) < (i : Int) by omega), eq_false (show ¬ 0 < i by omega), eq_true hi0, hi', DRow.enc, e0', h1]
    · have h3 : i - 1 < x.rows.length := by omega
      by_cases h4 : x.rows[i].key ≤ x.rows[i-1].key
      · simp (maxSteps := 4000000) [hd0, hfr, hout, hcl, hcd, delA_none, a0, a0_n, a0_d, a0_m, a1, a1_n, a1_d, a1_m, a2, a2_n, a2_d, a2_m, eRow, eq_true (show (0 : Int) < (i : Int) by omega), eq_true (show 0 < i by omega), hi0, w2 hi0, h3, hi', DRow.enc, eq_true h4, e0', h1]
      · simp (maxSteps := 4000000) [hd0, hfr, hout, hcl, hcd, delA_none, a0, a0_n, a0_d, a0_m, a1, a1_n, a1_d, a1_m, a2, a2_n, a2_d, a2_m, eRow, eq_true (show (0 : Int) < (i : Int) by omega), eq_true (show 0 < i by omega), hi0, w2 hi0, h3, hi', DRow.enc, eq_false h4, e0', h1]
  have e0' : ¬ x.rows[i].chain = [] := fun h => e0 (by rw [h]; rfl)
  by_cases hi0 : i = 0
  case' pos =>
    have hnab : nab (prv DRow.key x.rows i) x.rows[i].key = false := by simp [hi0, prv, nab]
    simp (maxSteps := 4000000) [hd0, hfr, hout, hcl, hcd, delA_none, a0, a0_n, a0_d, a0_m, a1, a1_n, a1_d, a1_m, a2, a2_n, a2_d, a2_m, eq_false (show ¬ (0 : Int) < (i : Int) by omega), eq_false (show ¬ 0 < i by omega), eq_true hi0, hi', DRow.enc, eq_false e0']
  case' neg =>
    have h3 : i - 1 < x.rows.length := by omega
    have hp := prv_pos (f := DRow.key) hi0 h3
    by_cases h4 : x.rows[i].key ≤ x.rows[i-1].key
    case pos =>
      have h1 := hone (by simp [hp, nab, h4])
      simp (maxSteps := 4000000) [hd0, hfr, hout, hcl, hcd, delA_none, a0, a0_n, a0_d, a0_m, a1, a1_n, a1_d, a1_m, a2, a2_n, a2_d, a2_m, eRow, eq_true (show (0 : Int) < (i : Int) by omega), eq_true (show 0 < i by omega), hi0, w2 hi0, h3, hi', DRow.enc, eq_true h4, h1]
    have hnab : nab (prv DRow.key x.rows i) x.rows[i].key = false := by rw [hp]; simp [nab]; omega
    simp (maxSteps := 4000000) [hd0, hfr, hout, hcl, hcd, delA_none, a0, a0_n, a0_d, a0_m, a1, a1_n, a1_d, a1_m, a2, a2_n, a2_d, a2_m, eRow, eq_true (show (0 : Int) < (i : Int) by omega), eq_true (show 0 < i by omega), hi0, w2 hi0, h3, hi', DRow.enc, eq_false h4, eq_false e0']
  all_goals
    rw [if_neg (by simp [hnab, e0])] at hinv
    refine (spec_ChainFault _ hbc (by simp (maxSteps := 4000000) [hd0, hfr, hout, hcl, hcd, delA_none, a0, a0_n, a0_d, a0_m, a1, a1_n, a1_d, a1_m, a2, a2_n, a2_d, a2_m, hsub])).useCK ?_
    by_cases e1 : chainF x.rows[i].chain = 0
    case neg =>
      rw [if_pos e1] at hinv
      have hRne : ¬ R = 0 := by rw [← hinv]; exact e1
      simp (maxSteps := 4000000) [hd0, hfr, hout, hcl, hcd, delA_none, a0, a0_n, a0_d, a0_m, a1, a1_n, a1_d, a1_m, a2, a2_n, a2_d, a2_m, hinv, eq_false hRne]
    rw [if_neg (by simp [e1])] at hinv
    rw [e1]
    simp (maxSteps := 4000000) [hd0, hfr, hout, hcl, hcd, delA_none, a0, a0_n, a0_d, a0_m, a1, a1_n, a1_d, a1_m, a2, a2_n, a2_d, a2_m]
    refine DrawK.intro 40 [0, 3, 100] rfl (by kernel_rfl) (by decide) ?_
    have hone2 : ((x.rows[i].chain.any fun v => decide (x.clock < v.at_)) || !rowOpenF x.txns x.rows[i]) = true → R = 1 := fun h => by rw [if_pos h] at hinv; exact hinv.symm
    have hfin2 : (x.rows[i].chain.any fun v => decide (x.clock < v.at_)) = false → rowOpenF x.txns x.rows[i] = true → rowsF x.clock x.txns (some x.rows[i].key) (x.rows.drop (i + 1)) = R := fun h1 h2 => by rw [if_neg (by simp [h1, h2])] at hinv; exact hinv
    clear hinv
    have hO := fun H' h1 h2 h3 => spec_l6Open H' (x := x) (r0 := r0) (q0 := q0) (r1 := r1) (q1 := q1) (r2 := r2) (q2 := q2) hi' hl ht (chain_txn e1) h1 h2 h3
    generalize rowOpenF x.txns x.rows[i] = op at *
    have e2 := chainF_chF e1
    have h0l : 0 < x.rows[i].chain.length := by omega
    by_cases h1l : 1 < x.rows[i].chain.length
    case' pos =>
      obtain ⟨v0, v1, rest, hcf⟩ : ∃ v0 v1 rest, x.rows[i].chain = v0 :: v1 :: rest := by
        cases hcc : x.rows[i].chain with
        | nil => exact absurd hcc e0'
        | cons a l => cases l with
          | nil => rw [hcc] at h1l; simp at h1l
          | cons b l => exact ⟨a, b, l, rfl⟩
      have hg0 : x.rows[i].chain[0] = v0 := by simp [hcf]
      have hg1 : x.rows[i].chain[1] = v1 := by simp [hcf]
      have hany : (x.rows[i].chain.any fun v => decide (x.clock < v.at_)) = (decide (x.clock < v0.at_) || decide (x.clock < v1.at_)) := by rw [hcf] at e2 ⊢; exact chain_any hc e2
      rw [hany] at hone2 hfin2
      by_cases k0 : x.clock < v0.at_
      case pos =>
        have hR := hone2 (by simp [k0])
        simp (maxSteps := 4000000) [hd0, hfr, hout, hcl, hcd, delA_none, a0, a0_n, a0_d, a0_m, a1, a1_n, a1_d, a1_m, a2, a2_n, a2_d, a2_m, eRow, hi', DRow.enc, hsub, h0l, hg0, DVersion.enc, eq_true k0, hR]
      by_cases k1 : x.clock < v1.at_
      case pos =>
        have hR := hone2 (by simp [k1])
        simp (maxSteps := 4000000) [hd0, hfr, hout, hcl, hcd, delA_none, a0, a0_n, a0_d, a0_m, a1, a1_n, a1_d, a1_m, a2, a2_n, a2_d, a2_m, eRow, hi', DRow.enc, hsub, h0l, h1l, hg0, hg1, DVersion.enc, eq_false k0, eq_true (show (1 : Int) < (x.rows[i].chain.length : Int) by omega), eq_true k1, hR]
      simp (maxSteps := 4000000) [hd0, hfr, hout, hcl, hcd, delA_none, a0, a0_n, a0_d, a0_m, a1, a1_n, a1_d, a1_m, a2, a2_n, a2_d, a2_m, eRow, hi', DRow.enc, hsub, h0l, h1l, hg0, hg1, DVersion.enc, eq_false k0, eq_true (show (1 : Int) < (x.rows[i].chain.length : Int) by omega), eq_false k1]
    case' neg =>
      obtain ⟨v0, hcf⟩ : ∃ v0, x.rows[i].chain = [v0] := by
        cases hcc : x.rows[i].chain with
        | nil => exact absurd hcc e0'
        | cons a l => cases l with
          | nil => exact ⟨a, rfl⟩
          | cons b l => rw [hcc] at h1l; simp at h1l
      have hg0 : x.rows[i].chain[0] = v0 := by simp [hcf]
      have hany : (x.rows[i].chain.any fun v => decide (x.clock < v.at_)) = decide (x.clock < v0.at_) := by rw [hcf]; simp
      rw [hany] at hone2 hfin2
      by_cases k0 : x.clock < v0.at_
      case pos =>
        have hR := hone2 (by simp [k0])
        simp (maxSteps := 4000000) [hd0, hfr, hout, hcl, hcd, delA_none, a0, a0_n, a0_d, a0_m, a1, a1_n, a1_d, a1_m, a2, a2_n, a2_d, a2_m, eRow, hi', DRow.enc, hsub, h0l, hg0, DVersion.enc, eq_true k0, hR]
      have k1 := k0
      simp (maxSteps := 4000000) [hd0, hfr, hout, hcl, hcd, delA_none, a0, a0_n, a0_d, a0_m, a1, a1_n, a1_d, a1_m, a2, a2_n, a2_d, a2_m, eRow, hi', DRow.enc, hsub, h0l, hg0, DVersion.enc, eq_false k0, eq_false (show ¬ (1 : Int) < (x.rows[i].chain.length : Int) by omega)]
    all_goals
      refine ⟨_, hO _ (by simp (maxSteps := 4000000) [hd0, hfr, hout, hcl, hcd, delA_none, a0, a0_n, a0_d, a0_m, a1, a1_n, a1_d, a1_m, a2, a2_n, a2_d, a2_m]) (by simp (maxSteps := 4000000) [hd0, hfr, hout, hcl, hcd, delA_none, a0, a0_n, a0_d, a0_m, a1, a1_n, a1_d, a1_m, a2, a2_n, a2_d, a2_m]) (by simp (maxSteps := 4000000) [hd0, hfr, hout, hcl, hcd, delA_none, a0, a0_n, a0_d, a0_m, a1, a1_n, a1_d, a1_m, a2, a2_n, a2_d, a2_m]), ?_⟩
      cases op
      · have hR := hone2 (by simp)
        simp (maxSteps := 4000000) [hd0, hfr, hout, hcl, hcd, delA_none, a0, a0_n, a0_d, a0_m, a1, a1_n, a1_d, a1_m, a2, a2_n, a2_d, a2_m, hR]
      · have hf := hfin2 (by simp [k0, k1]) rfl
        simp (maxSteps := 4000000) [hd0, hfr, hout, hcl, hcd, delA_none, a0, a0_n, a0_d, a0_m, a1, a1_n, a1_d, a1_m, a2, a2_n, a2_d, a2_m, w1]
        refine LK.intro (m - 1) [0, 3] [] (by omega) (by decide) (by simp (maxSteps := 4000000) [hd0, hfr, hout, hcl, hcd, delA_none, a0, a0_n, a0_d, a0_m, a1, a1_n, a1_d, a1_m, a2, a2_n, a2_d, a2_m]) ⟨i + 1, by omega, by rw [hend]; exact hf, by simp⟩
end Go.Proofs.YtnlbjfdmjlnlgaaGreat

namespace Go.Proofs.YtnlbjfdmjlnlgaaGreat
open Go Go.Px Go.RowKit Go.Proofs
set_option linter.unnecessarySimpa false
set_option linter.unusedVariables false
set_option linter.unusedSimpArgs false
set_option maxRecDepth 100000
set_option maxHeartbeats 1000000
attribute [-simp] Int.not_le Int.not_lt
set_option maxHeartbeats 8000000 in
theorem spec_l6Fault (H : HH) {r0 q0 r1 q1 r2 q2} {x : DEngine} (hl : x.le 1048576)
    (a0 : arrAt H r0 q0 = some (4, [eRow x r1 q1 r2 q2])) (a1 : arrAt H r1 q1 = some (5, x.txns.map DTxn.enc)) (a2 : arrAt H r2 q2 = some (2, x.rows.map DRow.enc)) :
    PFun Tryz.prog 70 [.c (.pt r0 q0 4 0 0)] H (I (engF x)) := by
  obtain ⟨⟨b1, b1p⟩, b2, b2p⟩ := id hl
  refine PFun.of [0, 2, 3, 4, 5, 19, 33, 37, 42, 50, 61] Tryz.func70 rfl (by simp [Tryz.f70]) ?_
  intro d hd0 hfr hcl hout
  have hcd : ∀ n q, CleanH (hit [((d, n), q)]) H := fun n q => hcl.at
  have a0_n : ∀ n, ¬ (d, n) = r0 := fun n => nm_ne (ne_of_arr hfr a0)
  have a0_d : ¬ r0.1 = d := ne_of_arr hfr a0
  have a0_m : ∀ n, ¬ r0 = (d, n) := fun n => nm_ne' (ne_of_arr hfr a0)
  have a1_n : ∀ n, ¬ (d, n) = r1 := fun n => nm_ne (ne_of_arr hfr a1)
  have a1_d : ¬ r1.1 = d := ne_of_arr hfr a1
  have a1_m : ∀ n, ¬ r1 = (d, n) := fun n => nm_ne' (ne_of_arr hfr a1)
  have a2_n : ∀ n, ¬ (d, n) = r2 := fun n => nm_ne (ne_of_arr hfr a2)
  have a2_d : ¬ r2.1 = d := ne_of_arr hfr a2
  have a2_m : ∀ n, ¬ r2 = (d, n) := fun n => nm_ne' (ne_of_arr hfr a2)
  simp (maxSteps := 4000000) [hd0, hfr, hout, hcl, hcd, delA_none, a0, a0_n, a0_d, a0_m, a1, a1_n, a1_d, a1_m, a2, a2_n, a2_d, a2_m, Tryz.f70]
  simp (maxSteps := 4000000) [hd0, hfr, hout, hcl, hcd, delA_none, a0, a0_n, a0_d, a0_m, a1, a1_n, a1_d, a1_m, a2, a2_n, a2_d, a2_m, eRow]
  refine (spec_l5Txn _ _).useCK ?_
  by_cases c1 : inR x.next 1 999 = true
  case neg => simp only [Bool.not_eq_true] at c1; simp (maxSteps := 4000000) [hd0, hfr, hout, hcl, hcd, delA_none, a0, a0_n, a0_d, a0_m, a1, a1_n, a1_d, a1_m, a2, a2_n, a2_d, a2_m, c1, engF]
  simp (maxSteps := 4000000) [hd0, hfr, hout, hcl, hcd, delA_none, a0, a0_n, a0_d, a0_m, a1, a1_n, a1_d, a1_m, a2, a2_n, a2_d, a2_m, c1, eRow]
  refine (spec_l1In _ _ _ _).useCK ?_
  by_cases c2 : inR x.clock 0 1000000 = true
  case neg => simp only [Bool.not_eq_true] at c2; simp (maxSteps := 4000000) [hd0, hfr, hout, hcl, hcd, delA_none, a0, a0_n, a0_d, a0_m, a1, a1_n, a1_d, a1_m, a2, a2_n, a2_d, a2_m, c1, c2, engF]
  by_cases g1 : 20 < x.txns.length
  case pos => simp (maxSteps := 4000000) [hd0, hfr, hout, hcl, hcd, delA_none, a0, a0_n, a0_d, a0_m, a1, a1_n, a1_d, a1_m, a2, a2_n, a2_d, a2_m, eRow, eq_true (show 20 < (x.txns.length : Int) by omega), c1, c2, eq_true g1, engF]
  by_cases g2 : 32 < x.rows.length
  case pos => simp (maxSteps := 4000000) [hd0, hfr, hout, hcl, hcd, delA_none, a0, a0_n, a0_d, a0_m, a1, a1_n, a1_d, a1_m, a2, a2_n, a2_d, a2_m, eRow, eq_false (show ¬ 20 < (x.txns.length : Int) by omega), eq_true (show 32 < (x.rows.length : Int) by omega), c1, c2, eq_true g2, engF]
  have hF : engF x = if txsF x.next x.clock none x.txns ≠ 0 then txsF x.next x.clock none x.txns
      else if rowsF x.clock x.txns none x.rows ≠ 0 then rowsF x.clock x.txns none x.rows
      else if (x.txns.all fun t => ownsF x.rows t) = false then 1 else 0 := by
    conv => lhs; unfold engF
    rw [if_neg (by simp [c1, c2]), if_neg (by omega)]
  generalize engF x = R at *
  have hnx : 1 ≤ x.next ∧ x.next ≤ 999 := by simpa [inR] using c1
  have hck : 0 ≤ x.clock ∧ x.clock ≤ 1000000 := by simpa [inR] using c2
  have hT1 := fun H' h1 h2 => spec_l6Txns H' (r0 := r0) (q0 := q0) (r1 := r1) (q1 := q1) (r2 := r2) (q2 := q2) hnx hl h1 h2
  have hR1 := fun ht H' h1 h2 h3 => spec_l6Rows H' (r0 := r0) (q0 := q0) (r1 := r1) (q1 := q1) (r2 := r2) (q2 := q2) hck.1 hl ht h1 h2 h3
  simp (maxSteps := 4000000) [hd0, hfr, hout, hcl, hcd, delA_none, a0, a0_n, a0_d, a0_m, a1, a1_n, a1_d, a1_m, a2, a2_n, a2_d, a2_m, eRow, c2, eq_false (show ¬ 20 < (x.txns.length : Int) by omega), eq_false (show ¬ 32 < (x.rows.length : Int) by omega)]
  refine (hT1 _ (by simp (maxSteps := 4000000) [hd0, hfr, hout, hcl, hcd, delA_none, a0, a0_n, a0_d, a0_m, a1, a1_n, a1_d, a1_m, a2, a2_n, a2_d, a2_m]) (by simp (maxSteps := 4000000) [hd0, hfr, hout, hcl, hcd, delA_none, a0, a0_n, a0_d, a0_m, a1, a1_n, a1_d, a1_m, a2, a2_n, a2_d, a2_m])).useCK ?_
  by_cases c3 : txsF x.next x.clock none x.txns = 0
  case neg =>
    rw [if_pos c3] at hF
    have hRne : ¬ R = 0 := by rw [hF]; exact c3
    simp (maxSteps := 4000000) [hd0, hfr, hout, hcl, hcd, delA_none, a0, a0_n, a0_d, a0_m, a1, a1_n, a1_d, a1_m, a2, a2_n, a2_d, a2_m, ← hF, eq_false hRne]
  rw [if_neg (by simp [c3])] at hF
  rw [c3]
  simp (maxSteps := 4000000) [hd0, hfr, hout, hcl, hcd, delA_none, a0, a0_n, a0_d, a0_m, a1, a1_n, a1_d, a1_m, a2, a2_n, a2_d, a2_m]
  refine (hR1 c3 _ (by simp (maxSteps := 4000000) [hd0, hfr, hout, hcl, hcd, delA_none, a0, a0_n, a0_d, a0_m, a1, a1_n, a1_d, a1_m, a2, a2_n, a2_d, a2_m]) (by simp (maxSteps := 4000000) [hd0, hfr, hout, hcl, hcd, delA_none, a0, a0_n, a0_d, a0_m, a1, a1_n, a1_d, a1_m, a2, a2_n, a2_d, a2_m]) (by simp (maxSteps := 4000000) [hd0, hfr, hout, hcl, hcd, delA_none, a0, a0_n, a0_d, a0_m, a1, a1_n, a1_d, a1_m, a2, a2_n, a2_d, a2_m])).useCK ?_
  by_cases c4 : rowsF x.clock x.txns none x.rows = 0
  case neg =>
    rw [if_pos c4] at hF
    have hRne : ¬ R = 0 := by rw [hF]; exact c4
    simp (maxSteps := 4000000) [hd0, hfr, hout, hcl, hcd, delA_none, a0, a0_n, a0_d, a0_m, a1, a1_n, a1_d, a1_m, a2, a2_n, a2_d, a2_m, ← hF, eq_false hRne]
  rw [if_neg (by simp [c4])] at hF
  rw [c4]
  have hO1 := fun H' ti hti h1 h2 h3 => spec_l6Owns H' (ti := ti) (r0 := r0) (q0 := q0) (r1 := r1) (q1 := q1) (r2 := r2) (q2 := q2) hti hl (by have := (txsF_rise c3).2.1 _ (List.getElem_mem hti); omega) (rowsF_sorted c4).2.1 h1 h2 h3
  clear hT1 hR1
  simp (maxSteps := 4000000) [hd0, hfr, hout, hcl, hcd, delA_none, a0, a0_n, a0_d, a0_m, a1, a1_n, a1_d, a1_m, a2, a2_n, a2_d, a2_m]
  refine LoopK.intro (fun m s => ∃ i : Nat, i + m = x.txns.length ∧ (∀ j (hj : j < x.txns.length), j < i → ownsF x.rows x.txns[j] = true) ∧ s = ⟨[(0, .c (.pt r0 q0 4 0 0)), (5, I i)], H, []⟩) (x.txns.length + 1)
    (LK.intro x.txns.length [0, 5] [] (by omega) (by decide) (by simp (maxSteps := 4000000) [hd0, hfr, hout, hcl, hcd, delA_none, a0, a0_n, a0_d, a0_m, a1, a1_n, a1_d, a1_m, a2, a2_n, a2_d, a2_m]) ⟨0, by simp⟩) ?_
  rintro m s ⟨i, him, hinv, rfl⟩
  by_cases hi' : i < x.txns.length
  case neg =>
    have hR0 : R = 0 := by
      rw [hF, if_neg]
      simp only [Bool.not_eq_false, List.all_eq_true]
      intro t ht
      obtain ⟨j, hj, rfl⟩ := List.getElem_of_mem ht
      exact hinv j hj (by omega)
    simp (maxSteps := 4000000) [hd0, hfr, hout, hcl, hcd, delA_none, a0, a0_n, a0_d, a0_m, a1, a1_n, a1_d, a1_m, a2, a2_n, a2_d, a2_m, eRow, eq_false (show ¬ (i : Int) < x.txns.length by omega), hR0]
  have w1 : IntKind.i64.wrap ((i : Int) + 1) = i + 1 := w64 (by omega) (by omega)
  simp (maxSteps := 4000000) [hd0, hfr, hout, hcl, hcd, delA_none, a0, a0_n, a0_d, a0_m, a1, a1_n, a1_d, a1_m, a2, a2_n, a2_d, a2_m, eRow, eq_true (show (i : Int) < x.txns.length by omega), hi']
  refine (hO1 _ i hi' (by simp (maxSteps := 4000000) [hd0, hfr, hout, hcl, hcd, delA_none, a0, a0_n, a0_d, a0_m, a1, a1_n, a1_d, a1_m, a2, a2_n, a2_d, a2_m]) (by simp (maxSteps := 4000000) [hd0, hfr, hout, hcl, hcd, delA_none, a0, a0_n, a0_d, a0_m, a1, a1_n, a1_d, a1_m, a2, a2_n, a2_d, a2_m]) (by simp (maxSteps := 4000000) [hd0, hfr, hout, hcl, hcd, delA_none, a0, a0_n, a0_d, a0_m, a1, a1_n, a1_d, a1_m, a2, a2_n, a2_d, a2_m])).useCK ?_
  cases ho : ownsF x.rows x.txns[i]
  · have hR0 : R = 1 := by
      rw [hF, if_pos]
      rw [List.all_eq_false]
      exact ⟨x.txns[i], List.getElem_mem hi', by simp [ho]⟩
    simp (maxSteps := 4000000) [hd0, hfr, hout, hcl, hcd, delA_none, a0, a0_n, a0_d, a0_m, a1, a1_n, a1_d, a1_m, a2, a2_n, a2_d, a2_m, hR0]
  · simp (maxSteps := 4000000) [hd0, hfr, hout, hcl, hcd, delA_none, a0, a0_n, a0_d, a0_m, a1, a1_n, a1_d, a1_m, a2, a2_n, a2_d, a2_m, w1]
    refine LK.intro (m - 1) [0, 5] [] (by omega) (by decide) (by simp (maxSteps := 4000000) [hd0, hfr, hout, hcl, hcd, delA_none, a0, a0_n, a0_d, a0_m, a1, a1_n, a1_d, a1_m, a2, a2_n, a2_d, a2_m]) ⟨i + 1, by omega, fun j hj h => ?_, by simp⟩
    by_cases hji : j = i
    · subst hji; exact ho
    · exact hinv j hj (by omega)
end Go.Proofs.YtnlbjfdmjlnlgaaGreat

namespace Go.Proofs.YtnlbjfdmjlnlgaaGreat
open Go Go.Px Go.RowKit Go.Proofs
set_option linter.unnecessarySimpa false
set_option linter.unusedVariables false
set_option linter.unusedSimpArgs false
set_option maxRecDepth 100000
set_option maxHeartbeats 1000000
attribute [-simp] Int.not_le Int.not_lt
theorem Undo_clean {l : List DUndo} : ∀ K, CleanRows K (l.map DUndo.enc) := by intro K; simp [DUndo.enc, Clean.v]
theorem Version_clean {l : List DVersion} : ∀ K, CleanRows K (l.map DVersion.enc) := by intro K; simp [DVersion.enc, Clean.v]
theorem slices_Clone_Undo (H : HH) {r q n} {l : List DUndo} (hb : l.length ≤ 1048576) (hn : n = l.length) (ha : arrAt H r q = some (4, l.map DUndo.enc)) : PFun Tryz.prog 173 [.c (.sl r q 4 0 n)] H (.c (.own 4 (l.map DUndo.enc))) := by
  subst hn
  refine PFun.of [0, 2, 4] Tryz.func173 rfl (by simp [Tryz.f173]) ?_
  intro d hd0 hfr hcl hout
  have hcd : ∀ n q, CleanH (hit [((d, n), q)]) H := fun n q => hcl.at
  have ha_n : ∀ n, ¬ (d, n) = r := fun n => nm_ne (ne_of_arr hfr ha)
  have ha_d : ¬ r.1 = d := ne_of_arr hfr ha
  have ha_m : ∀ n, ¬ r = (d, n) := fun n => nm_ne' (ne_of_arr hfr ha)
  simp (maxSteps := 4000000) [hd0, hfr, hout, hcl, hcd, delA_none, ha, ha_n, ha_d, ha_m, Tryz.f173]
  simp (maxSteps := 4000000) [hd0, hfr, hout, hcl, hcd, delA_none, ha, ha_n, ha_d, ha_m, DUndo.enc]
  omega
theorem slices_Clone_Version (H : HH) {r q n} {l : List DVersion} (hb : l.length ≤ 1048576) (hn : n = l.length) (ha : arrAt H r q = some (4, l.map DVersion.enc)) : PFun Tryz.prog 127 [.c (.sl r q 4 0 n)] H (.c (.own 4 (l.map DVersion.enc))) := by
  subst hn
  refine PFun.of [0, 2, 4] Tryz.func127 rfl (by simp [Tryz.f127]) ?_
  intro d hd0 hfr hcl hout
  have hcd : ∀ n q, CleanH (hit [((d, n), q)]) H := fun n q => hcl.at
  have ha_n : ∀ n, ¬ (d, n) = r := fun n => nm_ne (ne_of_arr hfr ha)
  have ha_d : ¬ r.1 = d := ne_of_arr hfr ha
  have ha_m : ∀ n, ¬ r = (d, n) := fun n => nm_ne' (ne_of_arr hfr ha)
  simp (maxSteps := 4000000) [hd0, hfr, hout, hcl, hcd, delA_none, ha, ha_n, ha_d, ha_m, Tryz.f127]
  simp (maxSteps := 4000000) [hd0, hfr, hout, hcl, hcd, delA_none, ha, ha_n, ha_d, ha_m, DVersion.enc]
  omega
theorem spec_l5Copy (H : HH) {r q n} {l : List DVersion} (hb : l.length ≤ 1048576) (hn : n = l.length) (ha : arrAt H r q = some (4, l.map DVersion.enc)) : PFun Tryz.prog 119 [.c (.sl r q 4 0 n)] H (.c (.own 4 (l.map DVersion.enc))) := by
  subst hn
  refine PFun.of [0, 2] Tryz.func119 rfl (by simp [Tryz.f119]) ?_
  intro d hd0 hfr hcl hout
  have hcd : ∀ n q, CleanH (hit [((d, n), q)]) H := fun n q => hcl.at
  have ha_n : ∀ n, ¬ (d, n) = r := fun n => nm_ne (ne_of_arr hfr ha)
  have ha_d : ¬ r.1 = d := ne_of_arr hfr ha
  have ha_m : ∀ n, ¬ r = (d, n) := fun n => nm_ne' (ne_of_arr hfr ha)
  simp (maxSteps := 4000000) [hd0, hfr, hout, hcl, hcd, delA_none, ha, ha_n, ha_d, ha_m, Tryz.f119]
  simp (maxSteps := 4000000) [hd0, hfr, hout, hcl, hcd, delA_none, ha, ha_n, ha_d, ha_m, DVersion.enc]
  omega
set_option maxHeartbeats 4000000 in
theorem impl_Engine_copied (H : HH) {r1 q1 r2 q2} {x : DEngine} (hl : x.le 1048576) (a1 : arrAt H r1 q1 = some (5, x.txns.map DTxn.enc)) (a2 : arrAt H r2 q2 = some (2, x.rows.map DRow.enc)) :
    PFun Tryz.prog 124 [.a (eRow x r1 q1 r2 q2)] H (.a x.enc) := by
  obtain ⟨⟨b1, b1p⟩, b2, b2p⟩ := hl
  refine PFun.of [1, 2, 3, 5, 7, 14, 15, 16, 17, 32, 33, 34, 35] Tryz.func124 rfl (by simp [Tryz.f124]) ?_
  intro d hd0 hfr hcl hout
  have hcd : ∀ n q, CleanH (hit [((d, n), q)]) H := fun n q => hcl.at
  have a1_n : ∀ n, ¬ (d, n) = r1 := fun n => nm_ne (ne_of_arr hfr a1)
  have a1_d : ¬ r1.1 = d := ne_of_arr hfr a1
  have a1_m : ∀ n, ¬ r1 = (d, n) := fun n => nm_ne' (ne_of_arr hfr a1)
  have a2_n : ∀ n, ¬ (d, n) = r2 := fun n => nm_ne (ne_of_arr hfr a2)
  have a2_d : ¬ r2.1 = d := ne_of_arr hfr a2
  have a2_m : ∀ n, ¬ r2 = (d, n) := fun n => nm_ne' (ne_of_arr hfr a2)
  simp (maxSteps := 4000000) [hd0, hfr, hout, hcl, hcd, delA_none, a1, a1_n, a1_d, a1_m, a2, a2_n, a2_d, a2_m, Tryz.f124, eRow]
  refine LoopK.intro (fun m s => ∃ i : Nat, i + m = x.txns.length ∧ s = ⟨[(1, .c (.pt (d, 1) [] 4 0 0)), (2, .c (.pt (d, 2) [] 4 0 0)), (3, .c (.pt (d, 3) [] 4 0 0)), (14, .c (.sl r1 q1 5 0 x.txns.length)), (15, I x.txns.length), (16, I i)],
      ((d, 3), .own 4 [[.v (.int .i64 x.next), .v (.int .i64 x.clock), .own 5 ((x.txns.take i).map DTxn.enc), .own 2 []]]) :: ((d, 2), .own 4 [[.v (.int .i64 0), .v (.int .i64 0), .own 5 [], .own 2 []]]) :: ((d, 1), .own 4 [[.v (.int .i64 x.next), .v (.int .i64 x.clock), .sl r1 q1 5 0 x.txns.length, .sl r2 q2 2 0 x.rows.length]]) :: H, []⟩) (x.txns.length + 1)
    (LK.intro x.txns.length [1, 2, 3, 14, 15, 16] [] (by omega) (by decide) (by simp (maxSteps := 4000000) [hd0, hfr, hout, hcl, hcd, delA_none, a1, a1_n, a1_d, a1_m, a2, a2_n, a2_d, a2_m]) ⟨0, by simp⟩) ?_
  rintro m s ⟨i, him, rfl⟩
  by_cases hi' : i < x.txns.length
  · have w1 : IntKind.i64.wrap ((i : Int) + 1) = i + 1 := w64 (by omega) (by omega)
    have hpl : x.txns[i].undos.length ≤ 1048576 := b1p _ (List.getElem_mem hi')
    have hsub := arrAt_sub a1 (i := i) (f := 4) (row := x.txns[i].enc) (by simp [hi']) rfl
    have hn := take_next (f := DTxn.enc) hi'
    simp only [DTxn.enc] at hn
    simp (maxSteps := 4000000) [hd0, hfr, hout, hcl, hcd, delA_none, a1, a1_n, a1_d, a1_m, a2, a2_n, a2_d, a2_m, eq_true (show (i : Int) < x.txns.length by omega), hi', DTxn.enc]
    refine (slices_Clone_Undo _ hpl rfl (by simp (maxSteps := 4000000) [hd0, hfr, hout, hcl, hcd, delA_none, a1, a1_n, a1_d, a1_m, a2, a2_n, a2_d, a2_m, hsub])).useCK ?_
    simp (maxSteps := 4000000) [hd0, hfr, hout, hcl, hcd, delA_none, a1, a1_n, a1_d, a1_m, a2, a2_n, a2_d, a2_m, DTxn.enc, Undo_clean, w1]
    refine ⟨by omega, ?_⟩
    refine LK.intro (m - 1) [1, 2, 3, 14, 15, 16] [5] (by omega) (by decide) (by simp (maxSteps := 4000000) [hd0, hfr, hout, hcl, hcd, delA_none, a1, a1_n, a1_d, a1_m, a2, a2_n, a2_d, a2_m, DTxn.enc]) ⟨i + 1, by omega, by simp [DTxn.enc, hn]⟩
  simp (maxSteps := 4000000) [hd0, hfr, hout, hcl, hcd, delA_none, a1, a1_n, a1_d, a1_m, a2, a2_n, a2_d, a2_m, eq_false (show ¬ (i : Int) < x.txns.length by omega)]
  refine LoopK.intro (fun m s => ∃ i : Nat, i + m = x.rows.length ∧ s = ⟨[(2, .c (.pt (d, 2) [] 4 0 0)), (3, .c (.pt (d, 3) [] 4 0 0)), (32, .c (.sl r2 q2 2 0 x.rows.length)), (33, I x.rows.length), (34, I i)],
      ((d, 3), .own 4 [[.v (.int .i64 x.next), .v (.int .i64 x.clock), .own 5 (x.txns.map DTxn.enc), .own 2 ((x.rows.take i).map DRow.enc)]]) :: ((d, 2), .own 4 [[.v (.int .i64 0), .v (.int .i64 0), .own 5 [], .own 2 []]]) :: H, []⟩) (x.rows.length + 1)
    (LK.intro x.rows.length [2, 3, 32, 33, 34] [1] (by omega) (by decide) (by simp (maxSteps := 4000000) [hd0, hfr, hout, hcl, hcd, delA_none, a1, a1_n, a1_d, a1_m, a2, a2_n, a2_d, a2_m]) ⟨0, by simp [List.take_of_length_le (show (x.txns.map DTxn.enc).length ≤ i by simp; omega)]⟩) ?_
  clear him hi' m i
  rintro m s ⟨i, him, rfl⟩
  by_cases hi' : i < x.rows.length
  · have w1 : IntKind.i64.wrap ((i : Int) + 1) = i + 1 := w64 (by omega) (by omega)
    have hpl : x.rows[i].chain.length ≤ 1048576 := b2p _ (List.getElem_mem hi')
    have hsub := arrAt_sub a2 (i := i) (f := 1) (row := x.rows[i].enc) (by simp [hi']) rfl
    have hn := take_next (f := DRow.enc) hi'
    simp only [DRow.enc] at hn
    simp (maxSteps := 4000000) [hd0, hfr, hout, hcl, hcd, delA_none, a1, a1_n, a1_d, a1_m, a2, a2_n, a2_d, a2_m, eq_true (show (i : Int) < x.rows.length by omega), hi', DRow.enc]
    refine DrawK.intro 9 [2, 3, 32, 33, 34, 39, 46] rfl (by kernel_rfl) (by decide) ?_
    simp (maxSteps := 4000000) [hd0, hfr, hout, hcl, hcd, delA_none, a1, a1_n, a1_d, a1_m, a2, a2_n, a2_d, a2_m]
    refine ⟨_, slices_Clone_Version _ hpl rfl (by simp (maxSteps := 4000000) [hd0, hfr, hout, hcl, hcd, delA_none, a1, a1_n, a1_d, a1_m, a2, a2_n, a2_d, a2_m, hsub]), ?_⟩
    simp (maxSteps := 4000000) [hd0, hfr, hout, hcl, hcd, delA_none, a1, a1_n, a1_d, a1_m, a2, a2_n, a2_d, a2_m, DRow.enc, Version_clean, w1]
    refine ⟨by kernel_rfl, by kernel_rfl, by omega, ?_⟩
    refine LK.intro (m - 1) [2, 3, 32, 33, 34] [7] (by omega) (by decide) (by simp (maxSteps := 4000000) [hd0, hfr, hout, hcl, hcd, delA_none, a1, a1_n, a1_d, a1_m, a2, a2_n, a2_d, a2_m, DRow.enc]) ⟨i + 1, by omega, by simp [DRow.enc, hn]⟩
  simp (maxSteps := 4000000) [hd0, hfr, hout, hcl, hcd, delA_none, a1, a1_n, a1_d, a1_m, a2, a2_n, a2_d, a2_m, DEngine.enc, eq_false (show ¬ (i : Int) < x.rows.length by omega), List.take_of_length_le (show (x.rows.map DRow.enc).length ≤ i by simp; omega)]
set_option maxHeartbeats 4000000 in
theorem spec_l6Copy (H : HH) {r1 q1 r2 q2} {x : DEngine} (hl : x.le 1048576) (a1 : arrAt H r1 q1 = some (5, x.txns.map DTxn.enc)) (a2 : arrAt H r2 q2 = some (2, x.rows.map DRow.enc)) :
    PFun Tryz.prog 54 [.a (eRow x r1 q1 r2 q2)] H (.a x.enc) := by
  obtain ⟨⟨b1, b1p⟩, b2, b2p⟩ := hl
  refine PFun.of [1, 2, 3, 4, 5, 6, 16, 39] Tryz.func54 rfl (by simp [Tryz.f54]) ?_
  intro d hd0 hfr hcl hout
  have hcd : ∀ n q, CleanH (hit [((d, n), q)]) H := fun n q => hcl.at
  have a1_n : ∀ n, ¬ (d, n) = r1 := fun n => nm_ne (ne_of_arr hfr a1)
  have a1_d : ¬ r1.1 = d := ne_of_arr hfr a1
  have a1_m : ∀ n, ¬ r1 = (d, n) := fun n => nm_ne' (ne_of_arr hfr a1)
  have a2_n : ∀ n, ¬ (d, n) = r2 := fun n => nm_ne (ne_of_arr hfr a2)
  have a2_d : ¬ r2.1 = d := ne_of_arr hfr a2
  have a2_m : ∀ n, ¬ r2 = (d, n) := fun n => nm_ne' (ne_of_arr hfr a2)
  simp (maxSteps := 4000000) [hd0, hfr, hout, hcl, hcd, delA_none, a1, a1_n, a1_d, a1_m, a2, a2_n, a2_d, a2_m, Tryz.f54, eRow]
  refine LoopK.intro (fun m s => ∃ i : Nat, i + m = x.txns.length ∧ s = ⟨[(1, .c (.pt (d, 1) [] 4 0 0)), (2, .c (.pt (d, 2) [] 4 0 0)), (3, .c (.pt (d, 3) [] 4 0 0)), (4, I i)],
      ((d, 3), .own 4 [[.v (.int .i64 x.next), .v (.int .i64 x.clock), .own 5 ((x.txns.take i).map DTxn.enc), .own 2 []]]) :: ((d, 2), .own 4 [[.v (.int .i64 0), .v (.int .i64 0), .own 5 [], .own 2 []]]) :: ((d, 1), .own 4 [[.v (.int .i64 x.next), .v (.int .i64 x.clock), .sl r1 q1 5 0 x.txns.length, .sl r2 q2 2 0 x.rows.length]]) :: H, []⟩) (x.txns.length + 1)
    (LK.intro x.txns.length [1, 2, 3, 4] [] (by omega) (by decide) (by simp (maxSteps := 4000000) [hd0, hfr, hout, hcl, hcd, delA_none, a1, a1_n, a1_d, a1_m, a2, a2_n, a2_d, a2_m]) ⟨0, by simp⟩) ?_
  rintro m s ⟨i, him, rfl⟩
  by_cases hi' : i < x.txns.length
  · have w1 : IntKind.i64.wrap ((i : Int) + 1) = i + 1 := w64 (by omega) (by omega)
    have hpl : x.txns[i].undos.length ≤ 1048576 := b1p _ (List.getElem_mem hi')
    have hsub := arrAt_sub a1 (i := i) (f := 4) (row := x.txns[i].enc) (by simp [hi']) rfl
    have hn := take_next (f := DTxn.enc) hi'
    simp only [DTxn.enc] at hn
    simp (maxSteps := 4000000) [hd0, hfr, hout, hcl, hcd, delA_none, a1, a1_n, a1_d, a1_m, a2, a2_n, a2_d, a2_m, eq_true (show (i : Int) < x.txns.length by omega), hi', DTxn.enc, hsub, DUndo.enc, w1]
    refine ⟨by omega, by omega, ?_⟩
    refine LK.intro (m - 1) [1, 2, 3, 4] [5] (by omega) (by decide) (by simp (maxSteps := 4000000) [hd0, hfr, hout, hcl, hcd, delA_none, a1, a1_n, a1_d, a1_m, a2, a2_n, a2_d, a2_m, DTxn.enc]) ⟨i + 1, by omega, by simp [DTxn.enc, DUndo.enc, hn]⟩
  simp (maxSteps := 4000000) [hd0, hfr, hout, hcl, hcd, delA_none, a1, a1_n, a1_d, a1_m, a2, a2_n, a2_d, a2_m, eq_false (show ¬ (i : Int) < x.txns.length by omega)]
  refine LoopK.intro (fun m s => ∃ i : Nat, i + m = x.rows.length ∧ s = ⟨[(1, .c (.pt (d, 1) [] 4 0 0)), (2, .c (.pt (d, 2) [] 4 0 0)), (3, .c (.pt (d, 3) [] 4 0 0)), (6, I i)],
      ((d, 3), .own 4 [[.v (.int .i64 x.next), .v (.int .i64 x.clock), .own 5 (x.txns.map DTxn.enc), .own 2 ((x.rows.take i).map DRow.enc)]]) :: ((d, 2), .own 4 [[.v (.int .i64 0), .v (.int .i64 0), .own 5 [], .own 2 []]]) :: ((d, 1), .own 4 [[.v (.int .i64 x.next), .v (.int .i64 x.clock), .sl r1 q1 5 0 x.txns.length, .sl r2 q2 2 0 x.rows.length]]) :: H, []⟩) (x.rows.length + 1)
    (LK.intro x.rows.length [1, 2, 3, 6] [] (by omega) (by decide) (by simp (maxSteps := 4000000) [hd0, hfr, hout, hcl, hcd, delA_none, a1, a1_n, a1_d, a1_m, a2, a2_n, a2_d, a2_m]) ⟨0, by simp [List.take_of_length_le (show (x.txns.map DTxn.enc).length ≤ i by simp; omega)]⟩) ?_
  clear him hi' m i
  rintro m s ⟨i, him, rfl⟩
  by_cases hi' : i < x.rows.length
  · have w1 : IntKind.i64.wrap ((i : Int) + 1) = i + 1 := w64 (by omega) (by omega)
    have hpl : x.rows[i].chain.length ≤ 1048576 := b2p _ (List.getElem_mem hi')
    have hsub := arrAt_sub a2 (i := i) (f := 1) (row := x.rows[i].enc) (by simp [hi']) rfl
    have hn := take_next (f := DRow.enc) hi'
    simp only [DRow.enc] at hn
    simp (maxSteps := 4000000) [hd0, hfr, hout, hcl, hcd, delA_none, a1, a1_n, a1_d, a1_m, a2, a2_n, a2_d, a2_m, eq_true (show (i : Int) < x.rows.length by omega)]
    refine DrawK.intro 17 [1, 2, 3, 6, 43, 58] rfl (by kernel_rfl) (by decide) ?_
    simp (maxSteps := 4000000) [hd0, hfr, hout, hcl, hcd, delA_none, a1, a1_n, a1_d, a1_m, a2, a2_n, a2_d, a2_m, hi', DRow.enc]
    refine ⟨_, spec_l5Copy _ hpl rfl (by simp (maxSteps := 4000000) [hd0, hfr, hout, hcl, hcd, delA_none, a1, a1_n, a1_d, a1_m, a2, a2_n, a2_d, a2_m, hsub]), ?_⟩
    simp (maxSteps := 4000000) [hd0, hfr, hout, hcl, hcd, delA_none, a1, a1_n, a1_d, a1_m, a2, a2_n, a2_d, a2_m, DRow.enc, Version_clean, w1]
    refine ⟨by kernel_rfl, by kernel_rfl, by omega, ?_⟩
    refine LK.intro (m - 1) [1, 2, 3, 6] [] (by omega) (by decide) (by simp (maxSteps := 4000000) [hd0, hfr, hout, hcl, hcd, delA_none, a1, a1_n, a1_d, a1_m, a2, a2_n, a2_d, a2_m, DRow.enc]) ⟨i + 1, by omega, by simp [DRow.enc, hn]⟩
  simp (maxSteps := 4000000) [hd0, hfr, hout, hcl, hcd, delA_none, a1, a1_n, a1_d, a1_m, a2, a2_n, a2_d, a2_m, DEngine.enc, eq_false (show ¬ (i : Int) < x.rows.length by omega), List.take_of_length_le (show (x.rows.map DRow.enc).length ≤ i by simp; omega)]
end Go.Proofs.YtnlbjfdmjlnlgaaGreat

namespace Go.Proofs.YtnlbjfdmjlnlgaaGreat
open Go Go.Px Go.RowKit Go.Proofs
set_option linter.unnecessarySimpa false
set_option linter.unusedVariables false
set_option linter.unusedSimpArgs false
set_option maxRecDepth 100000
set_option maxHeartbeats 1000000
attribute [-simp] Int.not_le Int.not_lt
set_option maxHeartbeats 8000000 in
theorem impl_EngineFault (H : HH) {r1 q1 r2 q2} {x : DEngine} (hl : x.le 1048576) (a1 : arrAt H r1 q1 = some (5, x.txns.map DTxn.enc)) (a2 : arrAt H r2 q2 = some (2, x.rows.map DRow.enc)) :
    PFun Tryz.prog 48 [.a [.v (.int .i64 x.next), .v (.int .i64 x.clock), .sl r1 q1 5 0 x.txns.length, .sl r2 q2 2 0 x.rows.length]] H (I (engF x)) := by
  obtain ⟨⟨b1, b1p⟩, b2, b2p⟩ := hl
  refine PFun.of [1, 2, 3, 4, 5, 6, 7, 8, 9, 11, 12, 13, 14, 15, 26, 38, 39, 40, 41, 45, 75, 118, 122, 123, 124, 125, 129, 134, 159, 180, 183, 184, 185, 186, 190, 191, 192, 193, 217] Tryz.func48 rfl (by simp [Tryz.f48]) ?_
  intro d hd0 hfr hcl hout
  have hcd : ∀ n q, CleanH (hit [((d, n), q)]) H := fun n q => hcl.at
  have a1_n : ∀ n, ¬ (d, n) = r1 := fun n => nm_ne (ne_of_arr hfr a1)
  have a1_d : ¬ r1.1 = d := ne_of_arr hfr a1
  have a1_m : ∀ n, ¬ r1 = (d, n) := fun n => nm_ne' (ne_of_arr hfr a1)
  have a2_n : ∀ n, ¬ (d, n) = r2 := fun n => nm_ne (ne_of_arr hfr a2)
  have a2_d : ¬ r2.1 = d := ne_of_arr hfr a2
  have a2_m : ∀ n, ¬ r2 = (d, n) := fun n => nm_ne' (ne_of_arr hfr a2)
  simp (maxSteps := 4000000) [hd0, hfr, hout, hcl, hcd, delA_none, a1, a1_n, a1_d, a1_m, a2, a2_n, a2_d, a2_m, Tryz.f48]
  refine (impl_isTxn _ _).useCK ?_
  by_cases c1 : inR x.next 1 999 = true
  case neg => simp only [Bool.not_eq_true] at c1; simp (maxSteps := 4000000) [hd0, hfr, hout, hcl, hcd, delA_none, a1, a1_n, a1_d, a1_m, a2, a2_n, a2_d, a2_m, c1, engF]
  simp (maxSteps := 4000000) [hd0, hfr, hout, hcl, hcd, delA_none, a1, a1_n, a1_d, a1_m, a2, a2_n, a2_d, a2_m, c1]
  refine (impl_isLsn _ _).useCK ?_
  by_cases c2 : inR x.clock 0 1000000 = true
  case neg => simp only [Bool.not_eq_true] at c2; simp (maxSteps := 4000000) [hd0, hfr, hout, hcl, hcd, delA_none, a1, a1_n, a1_d, a1_m, a2, a2_n, a2_d, a2_m, c1, c2, engF]
  by_cases g1 : 20 < x.txns.length
  case pos => simp (maxSteps := 4000000) [hd0, hfr, hout, hcl, hcd, delA_none, a1, a1_n, a1_d, a1_m, a2, a2_n, a2_d, a2_m, eq_true (show 20 < (x.txns.length : Int) by omega), c1, c2, eq_true g1, engF]
  by_cases g2 : 32 < x.rows.length
  case pos => simp (maxSteps := 4000000) [hd0, hfr, hout, hcl, hcd, delA_none, a1, a1_n, a1_d, a1_m, a2, a2_n, a2_d, a2_m, eq_false (show ¬ 20 < (x.txns.length : Int) by omega), eq_true (show 32 < (x.rows.length : Int) by omega), c1, c2, eq_true g2, engF]
  have hF : engF x = if txsF x.next x.clock none x.txns ≠ 0 then txsF x.next x.clock none x.txns
      else if rowsF x.clock x.txns none x.rows ≠ 0 then rowsF x.clock x.txns none x.rows
      else if (x.txns.all fun t => ownsF x.rows t) = false then 1 else 0 := by
    conv => lhs; unfold engF
    rw [if_neg (by simp [c1, c2]), if_neg (by omega)]
  have hE1 : ∀ c, c ≠ 0 → c = txsF x.next x.clock none x.txns → engF x = c := fun c h1 h2 => by rw [hF, ← h2, if_pos h1]
  have hE2 : txsF x.next x.clock none x.txns = 0 → ∀ c, c ≠ 0 → c = rowsF x.clock x.txns none x.rows → engF x = c := fun h0 c h1 h2 => by rw [hF, if_neg (by simp [h0]), ← h2, if_pos h1]
  have hE3 : txsF x.next x.clock none x.txns = 0 → rowsF x.clock x.txns none x.rows = 0 → engF x = if (x.txns.all fun t => ownsF x.rows t) = false then 1 else 0 := fun h0 h1 => by rw [hF, if_neg (by simp [h0]), if_neg (by simp [h1])]
  clear hF
  generalize engF x = R at *
  have hnx : 1 ≤ x.next ∧ x.next ≤ 999 := by simpa [inR] using c1
  have wn : IntKind.i64.wrap (x.next - 1) = x.next - 1 := w64 (by omega) (by omega)
  simp (maxSteps := 4000000) [hd0, hfr, hout, hcl, hcd, delA_none, a1, a1_n, a1_d, a1_m, a2, a2_n, a2_d, a2_m, c2, eq_false (show ¬ 20 < (x.txns.length : Int) by omega), eq_false (show ¬ 32 < (x.rows.length : Int) by omega)]
  refine LoopK.intro (fun m s => ∃ i : Nat, i + m = x.txns.length ∧ txsF x.next x.clock (prv DTxn.id_ x.txns i) (x.txns.drop i) = txsF x.next x.clock none x.txns ∧ s = ⟨[(1, .c (.pt (d, 1) [] 4 0 0)), (38, .c (.sl r1 q1 5 0 x.txns.length)), (39, I x.txns.length), (40, I i)],
      ((d, 1), .own 4 [[.v (.int .i64 x.next), .v (.int .i64 x.clock), .sl r1 q1 5 0 x.txns.length, .sl r2 q2 2 0 x.rows.length]]) :: H, []⟩) (x.txns.length + 1)
    (LK.intro x.txns.length [1, 38, 39, 40] [] (by omega) (by decide) (by simp (maxSteps := 4000000) [hd0, hfr, hout, hcl, hcd, delA_none, a1, a1_n, a1_d, a1_m, a2, a2_n, a2_d, a2_m]) ⟨0, by simp [prv]⟩) ?_
  rintro m s ⟨i, him, hinv, rfl⟩
  by_cases hi' : i < x.txns.length
  · rw [List.drop_eq_getElem_cons hi'] at hinv
    simp only [txsF] at hinv
    have w1 : IntKind.i64.wrap ((i : Int) + 1) = i + 1 := w64 (by omega) (by omega)
    have hend := prv_succ (f := DTxn.id_) hi'
    have hbu := b1p _ (List.getElem_mem hi')
    have hsub := arrAt_sub a1 (i := i) (f := 4) (row := x.txns[i].enc) (by simp [hi']) rfl
    simp (maxSteps := 4000000) [hd0, hfr, hout, hcl, hcd, delA_none, a1, a1_n, a1_d, a1_m, a2, a2_n, a2_d, a2_m, eq_true (show (i : Int) < x.txns.length by omega), hi', DTxn.enc, wn]
    refine (impl_within _ _ _ _).useCK ?_
    by_cases d1 : inR x.txns[i].id_ 1 (x.next - 1) = true
    case neg => simp only [Bool.not_eq_true] at d1; simp [tRange, d1] at hinv; simp (maxSteps := 4000000) [hd0, hfr, hout, hcl, hcd, delA_none, a1, a1_n, a1_d, a1_m, a2, a2_n, a2_d, a2_m, d1, hE1 3 (by omega) hinv]
    simp (maxSteps := 4000000) [hd0, hfr, hout, hcl, hcd, delA_none, a1, a1_n, a1_d, a1_m, a2, a2_n, a2_d, a2_m, d1]
    refine (impl_within _ _ _ _).useCK ?_
    by_cases d2 : inR x.txns[i].at_ 0 x.clock = true
    case neg => simp only [Bool.not_eq_true] at d2; simp [tRange, d2] at hinv; simp (maxSteps := 4000000) [hd0, hfr, hout, hcl, hcd, delA_none, a1, a1_n, a1_d, a1_m, a2, a2_n, a2_d, a2_m, d2, hE1 3 (by omega) hinv]
    simp (maxSteps := 4000000) [hd0, hfr, hout, hcl, hcd, delA_none, a1, a1_n, a1_d, a1_m, a2, a2_n, a2_d, a2_m, d2]
    refine (impl_within _ _ _ _).useCK ?_
    by_cases d3 : inR x.txns[i].state 1 3 = true
    case neg => simp only [Bool.not_eq_true] at d3; simp [tRange, d3] at hinv; simp (maxSteps := 4000000) [hd0, hfr, hout, hcl, hcd, delA_none, a1, a1_n, a1_d, a1_m, a2, a2_n, a2_d, a2_m, d3, hE1 3 (by omega) hinv]
    simp (maxSteps := 4000000) [hd0, hfr, hout, hcl, hcd, delA_none, a1, a1_n, a1_d, a1_m, a2, a2_n, a2_d, a2_m, d3]
    refine (impl_within _ _ _ _).useCK ?_
    by_cases d4 : inR x.txns[i].done 0 x.clock = true
    case neg => simp only [Bool.not_eq_true] at d4; simp [tRange, d4] at hinv; simp (maxSteps := 4000000) [hd0, hfr, hout, hcl, hcd, delA_none, a1, a1_n, a1_d, a1_m, a2, a2_n, a2_d, a2_m, d4, hE1 3 (by omega) hinv]
    have hv : tRange x.next x.clock x.txns[i] = true := by simp [tRange, d1, d2, d3, d4]
    rw [hv, if_neg (by simp)] at hinv
    simp (maxSteps := 4000000) [hd0, hfr, hout, hcl, hcd, delA_none, a1, a1_n, a1_d, a1_m, a2, a2_n, a2_d, a2_m, d4]
    refine DrawK.intro 15 [1, 4, 38, 39, 40, 75] rfl (by kernel_rfl) (by decide) ?_
    have w2 : i ≠ 0 → IntKind.i64.wrap ((i : Int) - 1) = (i - 1 : Nat) := fun h => by rw [w64 (by omega) (by omega)]; omega
    have hone : tForm (prv DTxn.id_ x.txns i) x.txns[i] = false → R = 1 := fun h => by rw [if_pos h] at hinv; exact hE1 1 (by omega) hinv
    have hfin : tForm (prv DTxn.id_ x.txns i) x.txns[i] = true → (if undosF x.txns[i].undos ≠ 0 then undosF x.txns[i].undos else txsF x.next x.clock (some x.txns[i].id_) (x.txns.drop (i + 1))) = txsF x.next x.clock none x.txns := fun h => by rw [h] at hinv; simpa using hinv
    clear hinv
    by_cases hi0 : i = 0
    case' pos =>
      have hnab : nab (prv DTxn.id_ x.txns i) x.txns[i].id_ = false := by simp [hi0, prv, nab]
      simp (maxSteps := 4000000) [hd0, hfr, hout, hcl, hcd, delA_none, a1, a1_n, a1_d, a1_m, a2, a2_n, a2_d, a2_m, eq_false (show ¬ (0 : Int) < (i : Int) by omega), eq_false (show ¬ 0 < i by omega), eq_true hi0]
    case' neg =>
      have h3 : i - 1 < x.txns.length := by omega
      have hp := prv_pos (f := DTxn.id_) hi0 h3
      by_cases h4 : x.txns[i].id_ ≤ x.txns[i-1].id_
      case pos =>
        have h1 := hone (by simp [tForm, hp, nab, h4])
        simp (maxSteps := 4000000) [hd0, hfr, hout, hcl, hcd, delA_none, a1, a1_n, a1_d, a1_m, a2, a2_n, a2_d, a2_m, eq_true (show (0 : Int) < (i : Int) by omega), eq_true (show 0 < i by omega), hi0, w2 hi0, h3, hi', DTxn.enc, eq_true h4, h1]
      have hnab : nab (prv DTxn.id_ x.txns i) x.txns[i].id_ = false := by rw [hp]; simp [nab]; omega
      simp (maxSteps := 4000000) [hd0, hfr, hout, hcl, hcd, delA_none, a1, a1_n, a1_d, a1_m, a2, a2_n, a2_d, a2_m, eq_true (show (0 : Int) < (i : Int) by omega), eq_true (show 0 < i by omega), hi0, w2 hi0, h3, hi', DTxn.enc, eq_false h4]
    all_goals
      by_cases e1 : x.txns[i].done = 0
      case' pos =>
        have hdn : (decide (x.txns[i].done = 0) || (decide (x.txns[i].state = 2) && decide (x.txns[i].at_ < x.txns[i].done))) = true := by simp [e1]
        simp (maxSteps := 4000000) [hd0, hfr, hout, hcl, hcd, delA_none, a1, a1_n, a1_d, a1_m, a2, a2_n, a2_d, a2_m, eq_true e1]
      case' neg =>
        by_cases e2 : x.txns[i].state = 2
        case neg =>
          have h1 := hone (by simp [tForm, e1, e2])
          simp (maxSteps := 4000000) [hd0, hfr, hout, hcl, hcd, delA_none, a1, a1_n, a1_d, a1_m, a2, a2_n, a2_d, a2_m, eq_false e1, eq_false e2, h1]
        by_cases e3 : x.txns[i].done ≤ x.txns[i].at_
        case pos =>
          have h1 := hone (by simp [tForm, e1, show ¬ x.txns[i].at_ < x.txns[i].done by omega])
          simp (maxSteps := 4000000) [hd0, hfr, hout, hcl, hcd, delA_none, a1, a1_n, a1_d, a1_m, a2, a2_n, a2_d, a2_m, eq_false e1, eq_true e2, eq_true e3, h1]
        have hdn : (decide (x.txns[i].done = 0) || (decide (x.txns[i].state = 2) && decide (x.txns[i].at_ < x.txns[i].done))) = true := by simp [e2, show x.txns[i].at_ < x.txns[i].done by omega]
        simp (maxSteps := 4000000) [hd0, hfr, hout, hcl, hcd, delA_none, a1, a1_n, a1_d, a1_m, a2, a2_n, a2_d, a2_m, eq_false e1, eq_true e2, eq_false e3]
      all_goals
        by_cases e4 : x.txns[i].undos.length = 0
        case' pos =>
          have hun : (decide (x.txns[i].undos.length = 0) || decide (x.txns[i].state = 1)) = true := by simp [e4]
          simp (maxSteps := 4000000) [hd0, hfr, hout, hcl, hcd, delA_none, a1, a1_n, a1_d, a1_m, a2, a2_n, a2_d, a2_m, eq_false (show ¬ (0 : Int) < (x.txns[i].undos.length : Int) by omega), eq_false (show ¬ 0 < x.txns[i].undos.length by omega), eq_true (show x.txns[i].undos = [] from List.eq_nil_of_length_eq_zero e4)]
        case' neg =>
          by_cases e5 : x.txns[i].state = 1
          case neg =>
            have h1 := hone (by simp [tForm, e4, e5])
            simp (maxSteps := 4000000) [hd0, hfr, hout, hcl, hcd, delA_none, a1, a1_n, a1_d, a1_m, a2, a2_n, a2_d, a2_m, eq_true (show (0 : Int) < (x.txns[i].undos.length : Int) by omega), eq_true (show 0 < x.txns[i].undos.length by omega), eq_false (show ¬ x.txns[i].undos = [] from fun h => e4 (by rw [h]; rfl)), eq_false e5, h1]
          have hun : (decide (x.txns[i].undos.length = 0) || decide (x.txns[i].state = 1)) = true := by simp [e5]
          simp (maxSteps := 4000000) [hd0, hfr, hout, hcl, hcd, delA_none, a1, a1_n, a1_d, a1_m, a2, a2_n, a2_d, a2_m, eq_true (show (0 : Int) < (x.txns[i].undos.length : Int) by omega), eq_true (show 0 < x.txns[i].undos.length by omega), eq_false (show ¬ x.txns[i].undos = [] from fun h => e4 (by rw [h]; rfl)), eq_true e5]
        all_goals
          have hf := hfin (by unfold tForm; rw [hnab, hdn, hun]; rfl)
          refine (impl_undosFault _ hbu (by simp (maxSteps := 4000000) [hd0, hfr, hout, hcl, hcd, delA_none, a1, a1_n, a1_d, a1_m, a2, a2_n, a2_d, a2_m, hsub])).useCK ?_
          by_cases e6 : undosF x.txns[i].undos = 0
          · rw [if_neg (by simp [e6])] at hf
            simp (maxSteps := 4000000) [hd0, hfr, hout, hcl, hcd, delA_none, a1, a1_n, a1_d, a1_m, a2, a2_n, a2_d, a2_m, e6, w1]
            refine LK.intro (m - 1) [1, 38, 39, 40] [4] (by omega) (by decide) (by simp (maxSteps := 4000000) [hd0, hfr, hout, hcl, hcd, delA_none, a1, a1_n, a1_d, a1_m, a2, a2_n, a2_d, a2_m]) ⟨i + 1, by omega, by rw [hend]; exact hf, by simp⟩
          · rw [if_pos e6] at hf
            simp (maxSteps := 4000000) [hd0, hfr, hout, hcl, hcd, delA_none, a1, a1_n, a1_d, a1_m, a2, a2_n, a2_d, a2_m, e6, hE1 _ e6 hf]
  rw [List.drop_eq_nil_of_le (by omega)] at hinv
  simp only [txsF] at hinv
  have hT : txsF x.next x.clock none x.txns = 0 := hinv.symm
  have hE2 := hE2 hT
  have hE3 := hE3 hT
  clear hinv hE1
  simp (maxSteps := 4000000) [hd0, hfr, hout, hcl, hcd, delA_none, a1, a1_n, a1_d, a1_m, a2, a2_n, a2_d, a2_m, eq_false (show ¬ (i : Int) < x.txns.length by omega)]
  refine LoopK.intro (fun m s => ∃ i : Nat, i + m = x.rows.length ∧ rowsF x.clock x.txns (prv DRow.key x.rows i) (x.rows.drop i) = rowsF x.clock x.txns none x.rows ∧ s = ⟨[(1, .c (.pt (d, 1) [] 4 0 0)), (122, .c (.sl r2 q2 2 0 x.rows.length)), (123, I x.rows.length), (124, I i)],
      ((d, 1), .own 4 [[.v (.int .i64 x.next), .v (.int .i64 x.clock), .sl r1 q1 5 0 x.txns.length, .sl r2 q2 2 0 x.rows.length]]) :: H, []⟩) (x.rows.length + 1)
    (LK.intro x.rows.length [1, 122, 123, 124] [] (by omega) (by decide) (by simp (maxSteps := 4000000) [hd0, hfr, hout, hcl, hcd, delA_none, a1, a1_n, a1_d, a1_m, a2, a2_n, a2_d, a2_m]) ⟨0, by simp [prv]⟩) ?_
  clear him hi' i m
  rintro m s ⟨i, him, hinv, rfl⟩
  by_cases hi' : i < x.rows.length
  · rw [List.drop_eq_getElem_cons hi'] at hinv
    simp only [rowsF] at hinv
    have w1 : IntKind.i64.wrap ((i : Int) + 1) = i + 1 := w64 (by omega) (by omega)
    have w2 : i ≠ 0 → IntKind.i64.wrap ((i : Int) - 1) = (i - 1 : Nat) := fun h => by rw [w64 (by omega) (by omega)]; omega
    have hend := prv_succ (f := DRow.key) hi'
    have hbc := b2p _ (List.getElem_mem hi')
    have hsub := arrAt_sub a2 (i := i) (f := 1) (row := x.rows[i].enc) (by simp [hi']) rfl
    simp (maxSteps := 4000000) [hd0, hfr, hout, hcl, hcd, delA_none, a1, a1_n, a1_d, a1_m, a2, a2_n, a2_d, a2_m, eq_true (show (i : Int) < x.rows.length by omega), hi', DRow.enc]
    refine (impl_isKey _ _).useCK ?_
    by_cases d1 : inR x.rows[i].key 0 31 = true
    case neg => simp only [Bool.not_eq_true] at d1; simp [d1] at hinv; simp (maxSteps := 4000000) [hd0, hfr, hout, hcl, hcd, delA_none, a1, a1_n, a1_d, a1_m, a2, a2_n, a2_d, a2_m, d1, hE2 3 (by omega) hinv]
    rw [d1, if_neg (by simp)] at hinv
    simp (maxSteps := 4000000) [hd0, hfr, hout, hcl, hcd, delA_none, a1, a1_n, a1_d, a1_m, a2, a2_n, a2_d, a2_m, d1]
    refine DrawK.intro 21 [1, 7, 122, 123, 124, 134] rfl (by kernel_rfl) (by decide) ?_
    have hone : (nab (prv DRow.key x.rows i) x.rows[i].key || decide (x.rows[i].chain.length = 0)) = true → R = 1 := fun h => by rw [if_pos h] at hinv; exact hE2 1 (by omega) hinv
    by_cases e0 : x.rows[i].chain.length = 0
    case pos =>
      have h1 := hone (by simp [e0])
      have e0' : x.rows[i].chain = [] := List.eq_nil_of_length_eq_zero e0
      by_cases hi0 : i = 0
      · simp (maxSteps := 4000000) [hd0, hfr, hout, hcl, hcd, delA_none, a1, a1_n, a1_d, a1_m, a2, a2_n, a2_d, a2_m, eq_false (show ¬ (0 : Int) < (i : Int) by omega), eq_false (show ¬ 0 < i by omega), eq_true hi0, e0', h1]
      · have h3 : i - 1 < x.rows.length := by omega
        by_cases h4 : x.rows[i].key ≤ x.rows[i-1].key
        · simp (maxSteps := 4000000) [hd0, hfr, hout, hcl, hcd, delA_none, a1, a1_n, a1_d, a1_m, a2, a2_n, a2_d, a2_m, eq_true (show (0 : Int) < (i : Int) by omega), eq_true (show 0 < i by omega), hi0, w2 hi0, h3, hi', DRow.enc, eq_true h4, e0', h1]
        · simp (maxSteps := 4000000) [hd0, hfr, hout, hcl, hcd, delA_none, a1, a1_n, a1_d, a1_m, a2, a2_n, a2_d, a2_m, eq_true (show (0 : Int) < (i : Int) by omega), eq_true (show 0 < i by omega), hi0, w2 hi0, h3, hi', DRow.enc, eq_false h4, e0', h1]
    have e0' : ¬ x.rows[i].chain = [] := fun h => e0 (by rw [h]; rfl)
    by_cases hi0 : i = 0
    case' pos =>
      have hnab : nab (prv DRow.key x.rows i) x.rows[i].key = false := by simp [hi0, prv, nab]
      simp (maxSteps := 4000000) [hd0, hfr, hout, hcl, hcd, delA_none, a1, a1_n, a1_d, a1_m, a2, a2_n, a2_d, a2_m, eq_false (show ¬ (0 : Int) < (i : Int) by omega), eq_false (show ¬ 0 < i by omega), eq_true hi0, eq_false e0']
    case' neg =>
      have h3 : i - 1 < x.rows.length := by omega
      have hp := prv_pos (f := DRow.key) hi0 h3
      by_cases h4 : x.rows[i].key ≤ x.rows[i-1].key
      case pos =>
        have h1 := hone (by simp [hp, nab, h4])
        simp (maxSteps := 4000000) [hd0, hfr, hout, hcl, hcd, delA_none, a1, a1_n, a1_d, a1_m, a2, a2_n, a2_d, a2_m, eq_true (show (0 : Int) < (i : Int) by omega), eq_true (show 0 < i by omega), hi0, w2 hi0, h3, hi', DRow.enc, eq_true h4, h1]
      have hnab : nab (prv DRow.key x.rows i) x.rows[i].key = false := by rw [hp]; simp [nab]; omega
      simp (maxSteps := 4000000) [hd0, hfr, hout, hcl, hcd, delA_none, a1, a1_n, a1_d, a1_m, a2, a2_n, a2_d, a2_m, eq_true (show (0 : Int) < (i : Int) by omega), eq_true (show 0 < i by omega), hi0, w2 hi0, h3, hi', DRow.enc, eq_false h4, eq_false e0']
    all_goals
      rw [if_neg (by simp [hnab, e0])] at hinv
      refine (impl_ChainFault _ hbc (by simp (maxSteps := 4000000) [hd0, hfr, hout, hcl, hcd, delA_none, a1, a1_n, a1_d, a1_m, a2, a2_n, a2_d, a2_m, hsub])).useCK ?_
      by_cases e1 : chainF x.rows[i].chain = 0
      case neg => rw [if_pos e1] at hinv; simp (maxSteps := 4000000) [hd0, hfr, hout, hcl, hcd, delA_none, a1, a1_n, a1_d, a1_m, a2, a2_n, a2_d, a2_m, e1, hE2 _ e1 hinv]
      rw [if_neg (by simp [e1])] at hinv
      obtain ⟨f, rest, hcf⟩ : ∃ f rest, x.rows[i].chain = f :: rest := by
        cases hc : x.rows[i].chain with
        | nil => exact absurd hc e0'
        | cons f rest => exact ⟨f, rest, rfl⟩
      have hC1 : ∀ H', arrAt H' (d, 1) [] = some (4, [[.v (.int .i64 x.next), .v (.int .i64 x.clock), .sl r1 q1 5 0 x.txns.length, .sl r2 q2 2 0 x.rows.length]]) → arrAt H' r2 (q2 ++ [(i, 1)]) = some (4, x.rows[i].chain.map DVersion.enc) →
          PFun Tryz.prog 109 [.c (.sl r2 (q2 ++ [(i, 1)]) 4 0 x.rows[i].chain.length), .c (.fn 110 [.pt (d, 1) [] 4 0 0])] H' (B (x.rows[i].chain.any fun v => decide (x.clock < v.at_))) := fun H' h1 h2 => by
        have := slices_ContainsFunc_Version H' (P := fun v => decide (x.clock < v.at_)) (g := 110) (caps := [.pt (d, 1) [] 4 0 0]) hbc (Nat.le_refl _) h2 (by simp [isRef]) (by simp) (fun i hi => impl_EngineFault_1 H' h1)
        simpa using this
      have hC2 : ∀ H', arrAt H' (d, 9) [] = some (4, [f.enc]) → arrAt H' (d, 7) [] = some (2, [[.v (.int .i64 x.rows[i].key), .sl r2 (q2 ++ [(i, 1)]) 4 0 x.rows[i].chain.length]]) → arrAt H' r1 q1 = some (5, x.txns.map DTxn.enc) →
          PFun Tryz.prog 111 [.c (.sl r1 q1 5 0 x.txns.length), .c (.fn 112 [.pt (d, 9) [] 4 0 0, .pt (d, 7) [] 2 0 0])] H' (B (x.txns.any fun t => decide (t.id_ = f.txn) && undoesF t x.rows[i].key)) := fun H' h1 h2 h3 => by
        have := slices_ContainsFunc_Txn H' (P := fun t => decide (t.id_ = f.txn) && undoesF t x.rows[i].key) (g := 112) (caps := [.pt (d, 9) [] 4 0 0, .pt (d, 7) [] 2 0 0]) b1 (Nat.le_refl _) h3 (by simp [isRef]) (by simp) (fun j hj => impl_EngineFault_2 H' (b1p _ (List.getElem_mem hj)) (arrAt_sub h3 (i := j) (f := 4) (row := x.txns[j].enc) (by simp [hj]) rfl) h1 h2)
        simpa using this
      have hro : rowOpenF x.txns x.rows[i] = (decide (f.at_ ≠ 0) || x.txns.any fun t => decide (t.id_ = f.txn) && undoesF t x.rows[i].key) := by unfold rowOpenF; rw [hcf]
      have h0l : 0 < x.rows[i].chain.length := by omega
      have hg0 : x.rows[i].chain[0] = f := by simp [hcf]
      simp (maxSteps := 4000000) [hd0, hfr, hout, hcl, hcd, delA_none, a1, a1_n, a1_d, a1_m, a2, a2_n, a2_d, a2_m, e1, hsub, h0l, hg0, DVersion.enc]
      refine (hC1 _ (by simp (maxSteps := 4000000) [hd0, hfr, hout, hcl, hcd, delA_none, a1, a1_n, a1_d, a1_m, a2, a2_n, a2_d, a2_m]) (by simp (maxSteps := 4000000) [hd0, hfr, hout, hcl, hcd, delA_none, a1, a1_n, a1_d, a1_m, a2, a2_n, a2_d, a2_m, hsub])).useCK ?_
      have hone2 : ((x.rows[i].chain.any fun v => decide (x.clock < v.at_)) || !rowOpenF x.txns x.rows[i]) = true → R = 1 := fun h => by rw [if_pos h] at hinv; exact hE2 1 (by omega) hinv
      have hfin2 : (x.rows[i].chain.any fun v => decide (x.clock < v.at_)) = false → rowOpenF x.txns x.rows[i] = true → rowsF x.clock x.txns (some x.rows[i].key) (x.rows.drop (i + 1)) = rowsF x.clock x.txns none x.rows := fun h1 h2 => by rw [if_neg (by simp [h1, h2])] at hinv; exact hinv
      by_cases k5 : (x.rows[i].chain.any fun v => decide (x.clock < v.at_)) = true
      case pos =>
        have hR := hone2 (by rw [k5]; rfl)
        rw [k5]
        simp (maxSteps := 4000000) [hd0, hfr, hout, hcl, hcd, delA_none, a1, a1_n, a1_d, a1_m, a2, a2_n, a2_d, a2_m, hR]
      simp only [Bool.not_eq_true] at k5
      rw [k5]
      by_cases k6 : f.at_ = 0
      · simp (maxSteps := 4000000) [hd0, hfr, hout, hcl, hcd, delA_none, a1, a1_n, a1_d, a1_m, a2, a2_n, a2_d, a2_m, eq_true k6]
        refine (hC2 _ (by simp (maxSteps := 4000000) [hd0, hfr, hout, hcl, hcd, delA_none, a1, a1_n, a1_d, a1_m, a2, a2_n, a2_d, a2_m, DVersion.enc]) (by simp (maxSteps := 4000000) [hd0, hfr, hout, hcl, hcd, delA_none, a1, a1_n, a1_d, a1_m, a2, a2_n, a2_d, a2_m]) (by simp (maxSteps := 4000000) [hd0, hfr, hout, hcl, hcd, delA_none, a1, a1_n, a1_d, a1_m, a2, a2_n, a2_d, a2_m])).useCK ?_
        by_cases k7 : (x.txns.any fun t => decide (t.id_ = f.txn) && undoesF t x.rows[i].key) = true
        · have hf := hfin2 k5 (by rw [hro, k7]; simp)
          rw [k7]
          simp (maxSteps := 4000000) [hd0, hfr, hout, hcl, hcd, delA_none, a1, a1_n, a1_d, a1_m, a2, a2_n, a2_d, a2_m, w1]
          refine LK.intro (m - 1) [1, 122, 123, 124] [7, 9] (by omega) (by decide) (by simp (maxSteps := 4000000) [hd0, hfr, hout, hcl, hcd, delA_none, a1, a1_n, a1_d, a1_m, a2, a2_n, a2_d, a2_m]) ⟨i + 1, by omega, by rw [hend]; exact hf, by simp⟩
        · simp only [Bool.not_eq_true] at k7
          have hR := hone2 (by rw [hro, k7]; simp [k6])
          rw [k7]
          simp (maxSteps := 4000000) [hd0, hfr, hout, hcl, hcd, delA_none, a1, a1_n, a1_d, a1_m, a2, a2_n, a2_d, a2_m, hR]
      · have hf := hfin2 k5 (by rw [hro]; simp [k6])
        simp (maxSteps := 4000000) [hd0, hfr, hout, hcl, hcd, delA_none, a1, a1_n, a1_d, a1_m, a2, a2_n, a2_d, a2_m, eq_false k6, w1]
        refine LK.intro (m - 1) [1, 122, 123, 124] [7, 9] (by omega) (by decide) (by simp (maxSteps := 4000000) [hd0, hfr, hout, hcl, hcd, delA_none, a1, a1_n, a1_d, a1_m, a2, a2_n, a2_d, a2_m]) ⟨i + 1, by omega, by rw [hend]; exact hf, by simp⟩
  rw [List.drop_eq_nil_of_le (by omega)] at hinv
  simp only [rowsF] at hinv
  have hRw : rowsF x.clock x.txns none x.rows = 0 := hinv.symm
  have hE3 := hE3 hRw
  clear hinv hE2
  obtain ⟨hks, hso, -⟩ := rowsF_sorted hRw
  have hget := txsF_get hT
  simp (maxSteps := 4000000) [hd0, hfr, hout, hcl, hcd, delA_none, a1, a1_n, a1_d, a1_m, a2, a2_n, a2_d, a2_m, eq_false (show ¬ (i : Int) < x.rows.length by omega)]
  refine LoopK.intro (fun m s => ∃ i : Nat, i + m = x.txns.length ∧ ((x.txns.take i).all fun t => ownsF x.rows t) = true ∧ s = ⟨[(1, .c (.pt (d, 1) [] 4 0 0)), (183, .c (.sl r1 q1 5 0 x.txns.length)), (184, I x.txns.length), (185, I i)],
      ((d, 1), .own 4 [[.v (.int .i64 x.next), .v (.int .i64 x.clock), .sl r1 q1 5 0 x.txns.length, .sl r2 q2 2 0 x.rows.length]]) :: H, []⟩) (x.txns.length + 1)
    (LK.intro x.txns.length [1, 183, 184, 185] [] (by omega) (by decide) (by simp (maxSteps := 4000000) [hd0, hfr, hout, hcl, hcd, delA_none, a1, a1_n, a1_d, a1_m, a2, a2_n, a2_d, a2_m]) ⟨0, by simp⟩) ?_
  clear him hi' i m
  rintro m s ⟨i, him, hinv, rfl⟩
  by_cases hi' : i < x.txns.length
  · have w1 : IntKind.i64.wrap ((i : Int) + 1) = i + 1 := w64 (by omega) (by omega)
    have hbu : x.txns[i].undos.length ≤ 1048576 := b1p _ (List.getElem_mem hi')
    have hsub := arrAt_sub a1 (i := i) (f := 4) (row := x.txns[i].enc) (by simp [hi']) rfl
    obtain ⟨-, hu0, -⟩ := hget _ (List.getElem_mem hi')
    have huk := undosF_key hu0
    have hbad : ownsF x.rows x.txns[i] = false → R = 1 := fun h => by
      rw [hE3, if_pos]
      rw [List.all_eq_false]
      exact ⟨_, List.getElem_mem hi', by simp [h]⟩
    have hnx2 : ownsF x.rows x.txns[i] = true → ((x.txns.take (i + 1)).all fun t => ownsF x.rows t) = true := fun h => by
      rw [List.take_succ_eq_append_getElem hi', List.all_append, hinv]; simp [h]
    simp (maxSteps := 4000000) [hd0, hfr, hout, hcl, hcd, delA_none, a1, a1_n, a1_d, a1_m, a2, a2_n, a2_d, a2_m, eq_true (show (i : Int) < x.txns.length by omega), hi', DTxn.enc]
    refine LoopK.intro (fun m2 s => ∃ j : Nat, j + m2 = x.txns[i].undos.length ∧ ((List.range j).all fun k => ownI x.rows x.txns[i].id_ x.txns[i].undos k) = true ∧ s = ⟨[(1, .c (.pt (d, 1) [] 4 0 0)), (11, .c (.pt (d, 11) [] 5 0 0)), (183, .c (.sl r1 q1 5 0 x.txns.length)), (184, I x.txns.length), (185, I i), (190, .c (.sl r1 (q1 ++ [(i, 4)]) 4 0 x.txns[i].undos.length)), (191, I x.txns[i].undos.length), (192, I j)],
        ((d, 11), .own 5 [[.v (.int .i64 x.txns[i].id_), .v (.int .i64 x.txns[i].at_), .v (.int .i64 x.txns[i].state), .v (.int .i64 x.txns[i].done), .sl r1 (q1 ++ [(i, 4)]) 4 0 x.txns[i].undos.length]]) :: ((d, 1), .own 4 [[.v (.int .i64 x.next), .v (.int .i64 x.clock), .sl r1 q1 5 0 x.txns.length, .sl r2 q2 2 0 x.rows.length]]) :: H, []⟩) (x.txns[i].undos.length + 1)
      (LK.intro x.txns[i].undos.length [1, 11, 183, 184, 185, 190, 191, 192] [] (by omega) (by decide) (by simp (maxSteps := 4000000) [hd0, hfr, hout, hcl, hcd, delA_none, a1, a1_n, a1_d, a1_m, a2, a2_n, a2_d, a2_m]) ⟨0, by simp⟩) ?_
    rintro m2 s ⟨j, hjm, hinv2, rfl⟩
    by_cases hj : j < x.txns[i].undos.length
    · have w3 : IntKind.i64.wrap ((j : Int) + 1) = j + 1 := w64 (by omega) (by omega)
      generalize hus : x.txns[i].undos = us at *
      have hoj : ownI x.rows x.txns[i].id_ us j = (openF (chainR x.rows us[j].key) x.txns[i].id_ && ((us.take j).any (fun y => decide (y.key = us[j].key)) == us[j].had)) := by simp [ownI, hj]
      have hko := huk _ (List.getElem_mem hj)
      have hnx3 : ownI x.rows x.txns[i].id_ us j = true → ((List.range (j + 1)).all fun k => ownI x.rows x.txns[i].id_ us k) = true := fun h => by
        rw [List.range_succ, List.all_append, hinv2]; simp [h]
      have hbad2 : ownI x.rows x.txns[i].id_ us j = false → R = 1 := fun h => hbad (by
        unfold ownsF
        rw [hus, List.all_eq_false]
        exact ⟨j, by simpa using hj, by simp [h]⟩)
      have hC3 : ∀ H', arrAt H' (d, 13) [] = some (4, [us[j].enc]) → arrAt H' r1 (q1 ++ [(i, 4)]) = some (4, us.map DUndo.enc) →
          PFun Tryz.prog 114 [.c (.sl r1 (q1 ++ [(i, 4)]) 4 0 j), .c (.fn 115 [.pt (d, 13) [] 4 0 0])] H' (B ((us.take j).any fun y => decide (y.key = us[j].key))) := fun H' h1 h2 =>
        slices_ContainsFunc_Undo H' (P := fun y => decide (y.key = us[j].key)) (g := 115) (caps := [.pt (d, 13) [] 4 0 0]) hbu (by omega) h2 (by simp [isRef]) (by simp) (fun k hk => impl_EngineFault_3 H' h1)
      simp (maxSteps := 4000000) [hd0, hfr, hout, hcl, hcd, delA_none, a1, a1_n, a1_d, a1_m, a2, a2_n, a2_d, a2_m, eq_true (show (j : Int) < us.length by omega), hj, hsub, DUndo.enc]
      refine ⟨by omega, ?_⟩
      refine (hC3 _ (by simp (maxSteps := 4000000) [hd0, hfr, hout, hcl, hcd, delA_none, a1, a1_n, a1_d, a1_m, a2, a2_n, a2_d, a2_m, DUndo.enc]) (by simp (maxSteps := 4000000) [hd0, hfr, hout, hcl, hcd, delA_none, a1, a1_n, a1_d, a1_m, a2, a2_n, a2_d, a2_m, hsub])).useCK ?_
      simp (maxSteps := 4000000) [hd0, hfr, hout, hcl, hcd, delA_none, a1, a1_n, a1_d, a1_m, a2, a2_n, a2_d, a2_m]
      refine DrawK.intro 14 [1, 11, 183, 184, 185, 190, 191, 192, 217] rfl (by kernel_rfl) (by decide) ?_
      simp (maxSteps := 4000000) [hd0, hfr, hout, hcl, hcd, delA_none, a1, a1_n, a1_d, a1_m, a2, a2_n, a2_d, a2_m]
      refine ⟨_, impl_Engine_chain _ (rows2 := x.txns.map DTxn.enc) b2 hso hko hks (by simp (maxSteps := 4000000) [hd0, hfr, hout, hcl, hcd, delA_none, a1, a1_n, a1_d, a1_m, a2, a2_n, a2_d, a2_m]) (by simp (maxSteps := 4000000) [hd0, hfr, hout, hcl, hcd, delA_none, a1, a1_n, a1_d, a1_m, a2, a2_n, a2_d, a2_m]), ?_⟩
      by_cases hf : foundR x.rows us[j].key = true
      · have hlt := foundR_lt hf
        have hcr : chainR x.rows us[j].key = x.rows[rowP x.rows us[j].key].chain := by simp [chainR, hf, List.getD_eq_getElem?_getD, hlt]
        have hsubc : arrAt H r2 (q2 ++ [(rowP x.rows us[j].key, 1)]) = some (4, (chainR x.rows us[j].key).map DVersion.enc) := by
          rw [hcr]
          exact arrAt_sub a2 (i := rowP x.rows us[j].key) (f := 1) (row := x.rows[rowP x.rows us[j].key].enc) (by simp [hlt]) rfl
        have hTc : chainT r2 q2 x.rows us[j].key = .c (.sl r2 (q2 ++ [(rowP x.rows us[j].key, 1)]) 4 0 (chainR x.rows us[j].key).length) := by simp [chainT, hf]
        rw [hTc]
        generalize rowP x.rows us[j].key = p at *
        generalize chainR x.rows us[j].key = ch at *
        simp (maxSteps := 4000000) [hd0, hfr, hout, hcl, hcd, delA_none, a1, a1_n, a1_d, a1_m, a2, a2_n, a2_d, a2_m]
        refine ⟨_, impl_isOpenOf _ (l := ch) (by simp (maxSteps := 4000000) [hd0, hfr, hout, hcl, hcd, delA_none, a1, a1_n, a1_d, a1_m, a2, a2_n, a2_d, a2_m, hsubc]), ?_⟩
        by_cases ho : openF ch x.txns[i].id_ = true
        case neg =>
          simp only [Bool.not_eq_true] at ho
          have hR := hbad2 (by rw [hoj, ho]; rfl)
          rw [ho]
          simp (maxSteps := 4000000) [hd0, hfr, hout, hcl, hcd, delA_none, a1, a1_n, a1_d, a1_m, a2, a2_n, a2_d, a2_m, hR]
        rw [ho]
        by_cases hah : ((us.take j).any fun y => decide (y.key = us[j].key)) = us[j].had
        · have hok : ownI x.rows x.txns[i].id_ us j = true := by rw [hoj, ho, hah]; simp
          rw [hah]
          cases hhad : us[j].had <;> simp (maxSteps := 4000000) [hd0, hfr, hout, hcl, hcd, delA_none, a1, a1_n, a1_d, a1_m, a2, a2_n, a2_d, a2_m, hhad, w3]
          all_goals refine LK.intro (m2 - 1) [1, 11, 183, 184, 185, 190, 191, 192] [13] (by omega) (by decide) (by simp (maxSteps := 4000000) [hd0, hfr, hout, hcl, hcd, delA_none, a1, a1_n, a1_d, a1_m, a2, a2_n, a2_d, a2_m]) ⟨j + 1, by omega, by simpa using hnx3 hok, by simp⟩
        · have hbd : ownI x.rows x.txns[i].id_ us j = false := by rw [hoj, ho]; simpa using hah
          have hR := hbad2 hbd
          have hna : ((us.take j).any fun y => decide (y.key = us[j].key)) = !us[j].had := by
            revert hah
            cases ((us.take j).any fun y => decide (y.key = us[j].key)) <;> cases us[j].had <;> simp
          rw [hna]
          cases hhad : us[j].had <;> simp (maxSteps := 4000000) [hd0, hfr, hout, hcl, hcd, delA_none, a1, a1_n, a1_d, a1_m, a2, a2_n, a2_d, a2_m, hhad, hR]
      · simp only [Bool.not_eq_true] at hf
        have hTc : chainT r2 q2 x.rows us[j].key = .c (.own 4 []) := by simp [chainT, hf]
        have hcr : chainR x.rows us[j].key = [] := by simp [chainR, hf]
        have hR := hbad2 (by rw [hoj, hcr]; rfl)
        rw [hTc]
        simp (maxSteps := 4000000) [hd0, hfr, hout, hcl, hcd, delA_none, a1, a1_n, a1_d, a1_m, a2, a2_n, a2_d, a2_m]
        repeat (first | (refine And.intro (by kernel_rfl) ?_) | (refine And.intro (by omega) ?_))
        refine ⟨_, impl_isOpenOf_own _, ?_⟩
        simp (maxSteps := 4000000) [hd0, hfr, hout, hcl, hcd, delA_none, a1, a1_n, a1_d, a1_m, a2, a2_n, a2_d, a2_m, hR]
    · have : j = x.txns[i].undos.length := by omega
      subst this
      have hown : ownsF x.rows x.txns[i] = true := hinv2
      simp (maxSteps := 4000000) [hd0, hfr, hout, hcl, hcd, delA_none, a1, a1_n, a1_d, a1_m, a2, a2_n, a2_d, a2_m, w1]
      refine LK.intro (m - 1) [1, 183, 184, 185] [11] (by omega) (by decide) (by simp (maxSteps := 4000000) [hd0, hfr, hout, hcl, hcd, delA_none, a1, a1_n, a1_d, a1_m, a2, a2_n, a2_d, a2_m]) ⟨i + 1, by omega, by simpa using hnx2 hown, by simp⟩
  · rw [List.take_of_length_le (by omega)] at hinv
    rw [hE3, hinv]
    simp (maxSteps := 4000000) [hd0, hfr, hout, hcl, hcd, delA_none, a1, a1_n, a1_d, a1_m, a2, a2_n, a2_d, a2_m, eq_false (show ¬ (i : Int) < x.txns.length by omega)]
end Go.Proofs.YtnlbjfdmjlnlgaaGreat

namespace Go.Px
open Go.RowKit
set_option linter.unusedVariables false
set_option linter.unusedSimpArgs false
set_option linter.constructorNameAsVariable false

/-- A call that hands back x, leaves H', and overwrote arrays only below the root of the object r. -/
def PUpdR (P : Program) (f : FuncId) (args : List T) (H : HH) (x : T) (H' : HH) (r : Nm) : Prop := PCalls P f args H (fun T H1 lg => T = x ∧ H1 = H' ∧ ∀ e ∈ lg, e.1 = r ∧ ¬ e.2 = [])
theorem PUpd.updR {P f args H x H' r} (h : PUpd P f args H x H') : PUpdR P f args H x H' r := h.mono (by rintro T1 H1 lg ⟨rfl, rfl, rfl⟩; exact ⟨rfl, rfl, by simp⟩)
theorem PUpdR.useCK {P f args H x H' d r} {KP : St → Prop} {t' o lg0} (h : PUpdR P f args H x H' r) (hr : r.1 = d) (ho : ∀ a q, OcleanT (hit [(r, a :: q)]) t') (hk : ∀ a q, ∀ en ∈ t', en.2.keep r (a :: q) = true) (hq : KP ⟨putD t' o x, H', lg0⟩) : PCalls P f args H (CK d KP t' o lg0) :=
  h.mono (by
    rintro T1 H1 lg ⟨rfl, rfl, hlg⟩
    have hform : ∀ e ∈ lg, ∃ a q, e = (r, a :: q) := fun e he => by
      obtain ⟨h1, h2⟩ := hlg e he
      obtain ⟨e1, e2⟩ := e
      cases e2 with
      | nil => exact absurd rfl h2
      | cons a q => exact ⟨a, q, by simp at h1; rw [h1]⟩
    refine ⟨fun e he => ?_, ?_⟩
    · obtain ⟨a, q, rfl⟩ := hform e he
      exact ho a q
    · have e1 : (t'.filter fun en => keepL lg en.2) = t' := by
        rw [List.filter_eq_self]
        intro en hen
        unfold keepL
        rw [List.all_eq_true]
        intro e he
        obtain ⟨a, q, rfl⟩ := hform e he
        exact hk a q en hen
      have e2 : lg.filter (fun e => decide (e.1.1 ≠ d)) = [] := by
        rw [List.filter_eq_nil_iff]
        intro e he
        simp [(hlg e he).1, hr]
      rw [e1, e2]
      exact hq)
/-- entry, for code that is looked at by PCode -/
theorem PUpdR.of {P : Program} {f : FuncId} {fn : Func} {c : Code} {args : List T} {H H' : HH} {x : T} {r : Nm} (kv : List Nat) (hf : P.funcs[f]? = some fn) (hb : fn.body = some c) (hN : args.length ≤ fn.ntmps)
    (h : ∀ d, d ≠ 0 → (∀ n, look H (d, n) = none) → CleanH (atD d) H → outH d H = H → PCode ⟨P, d, fn.ntmps⟩ kv c { t := enumT 0 args, H := H, lg := [] } (retK P d fn.results.toList (fun T H1 lg => T = x ∧ H1 = H' ∧ ∀ e ∈ lg, e.1 = r ∧ ¬ e.2 = []))) : PUpdR P f args H x H' r := by
  refine PCalls.of_code hf hb hN (fun d hd hfr hcl => PCode.sound (h d hd (fun n => ?_) hcl ?_))
  · cases hl : look H (d, n) with
    | none => rfl
    | some c => exact absurd rfl (hfr _ (look_mem hl))
  · unfold outH
    rw [List.filter_eq_self]
    intro e he
    simpa using hfr e he
end Go.Px

namespace Go.Proofs.YtnlbjfdmjlnlgaaGreat
open Go Go.Px Go.RowKit Go.Proofs
set_option linter.unnecessarySimpa false
set_option linter.unusedVariables false
set_option linter.unusedSimpArgs false
set_option maxRecDepth 100000
set_option maxHeartbeats 1000000
attribute [-simp] Int.not_le Int.not_lt
def badE (c : Int) : DEngineResult := ⟨c, 0, ⟨0, 0, [], []⟩⟩
theorem spec_l6Bad (H : HH) {c : Int} : PFun Tryz.prog 53 [I c] H (.a (badE c).enc) := by
  refine PFun.of [0, 2] Tryz.func53 rfl (by simp [Tryz.f53]) ?_
  intro d hd0 hfr hcl hout
  have hcd : ∀ n q, CleanH (hit [((d, n), q)]) H := fun n q => hcl.at
  simp (maxSteps := 4000000) [hd0, hfr, hout, hcl, hcd, delA_none, Tryz.f53, badE, DEngineResult.enc]
def resF (x y : DEngine) (v c : Int) : DEngineResult := if engF x ≠ 0 then badE (engF x) else if c ≠ 0 then badE c else ⟨0, v, y⟩
set_option maxHeartbeats 2000000 in
theorem impl_changed0 (H : HH) {r1 q1 r2 q2 g v c} {x y : DEngine} (hl : x.le 1048576) (hg : tfunc Tryz.prog g = true)
    (hdo : engF x = 0 → ∀ (r : Nm) (H0 : HH), r.1 ≠ 0 → (∀ q, CleanH (hit [(r, q)]) H0) → PUpdR Tryz.prog g (T.c (.pt r [] 4 0 0) :: [].map T.c) ((r, .own 4 [x.enc]) :: H0) (.t [I v, I c]) ((r, .own 4 [y.enc]) :: H0) r)
    (a1 : arrAt H r1 q1 = some (5, x.txns.map DTxn.enc)) (a2 : arrAt H r2 q2 = some (2, x.rows.map DRow.enc)) :
    PFun Tryz.prog 58 [.a (eRow x r1 q1 r2 q2), .c (.fn g [])] H (.a (resF x y v c).enc) := by
  refine PFun.of [1, 2, 4, 5, 6, 7, 8, 12, 23] Tryz.func58 rfl (by simp [Tryz.f58]) ?_
  intro d hd0 hfr hcl hout
  have hcd : ∀ n q, CleanH (hit [((d, n), q)]) H := fun n q => hcl.at
  have a1_n : ∀ n, ¬ (d, n) = r1 := fun n => nm_ne (ne_of_arr hfr a1)
  have a1_d : ¬ r1.1 = d := ne_of_arr hfr a1
  have a1_m : ∀ n, ¬ r1 = (d, n) := fun n => nm_ne' (ne_of_arr hfr a1)
  have a2_n : ∀ n, ¬ (d, n) = r2 := fun n => nm_ne (ne_of_arr hfr a2)
  have a2_d : ¬ r2.1 = d := ne_of_arr hfr a2
  have a2_m : ∀ n, ¬ r2 = (d, n) := fun n => nm_ne' (ne_of_arr hfr a2)
  simp (maxSteps := 4000000) [hd0, hfr, hout, hcl, hcd, delA_none, a1, a1_n, a1_d, a1_m, a2, a2_n, a2_d, a2_m, Tryz.f58, eRow]
  refine (impl_EngineFault _ hl (by simp (maxSteps := 4000000) [hd0, hfr, hout, hcl, hcd, delA_none, a1, a1_n, a1_d, a1_m, a2, a2_n, a2_d, a2_m]) (by simp (maxSteps := 4000000) [hd0, hfr, hout, hcl, hcd, delA_none, a1, a1_n, a1_d, a1_m, a2, a2_n, a2_d, a2_m])).useCK ?_
  by_cases e0 : engF x = 0
  case neg => simp (maxSteps := 4000000) [hd0, hfr, hout, hcl, hcd, delA_none, a1, a1_n, a1_d, a1_m, a2, a2_n, a2_d, a2_m, eq_false e0, resF, badE, DEngineResult.enc]
  rw [e0]
  simp (maxSteps := 4000000) [hd0, hfr, hout, hcl, hcd, delA_none, a1, a1_n, a1_d, a1_m, a2, a2_n, a2_d, a2_m]
  refine (impl_Engine_copied _ (r1 := r1) (q1 := q1) (r2 := r2) (q2 := q2) hl (by simp (maxSteps := 4000000) [hd0, hfr, hout, hcl, hcd, delA_none, a1, a1_n, a1_d, a1_m, a2, a2_n, a2_d, a2_m]) (by simp (maxSteps := 4000000) [hd0, hfr, hout, hcl, hcd, delA_none, a1, a1_n, a1_d, a1_m, a2, a2_n, a2_d, a2_m])).useCK ?_
  have hF : resF x y v c = if c ≠ 0 then badE c else ⟨0, v, y⟩ := by unfold resF; rw [if_neg (by simp [e0])]
  generalize resF x y v c = R at *
  have hdo' := hdo e0 (d, 6)
  simp only [DEngine.enc, List.map_cons, List.map_nil] at hdo'
  clear hdo
  simp (maxSteps := 4000000) [hd0, hfr, hout, hcl, hcd, delA_none, a1, a1_n, a1_d, a1_m, a2, a2_n, a2_d, a2_m, DEngine.enc, hg]
  refine (hdo' _ hd0 (fun q => by simp (maxSteps := 4000000) [hd0, hfr, hout, hcl, hcd, delA_none, a1, a1_n, a1_d, a1_m, a2, a2_n, a2_d, a2_m])).useCK rfl (by intro a q; simp (maxSteps := 4000000) [hd0, hfr, hout, hcl, hcd, delA_none, a1, a1_n, a1_d, a1_m, a2, a2_n, a2_d, a2_m]) (by intro a q; simp (maxSteps := 4000000) [hd0, hfr, hout, hcl, hcd, delA_none, a1, a1_n, a1_d, a1_m, a2, a2_n, a2_d, a2_m, T.keep, keepC2, keepC]) ?_
  by_cases hc : c = 0
  · rw [if_neg (by simp [hc])] at hF
    simp (maxSteps := 4000000) [hd0, hfr, hout, hcl, hcd, delA_none, a1, a1_n, a1_d, a1_m, a2, a2_n, a2_d, a2_m, hc, hF, DEngineResult.enc]
  · rw [if_pos hc] at hF
    simp (maxSteps := 4000000) [hd0, hfr, hout, hcl, hcd, delA_none, a1, a1_n, a1_d, a1_m, a2, a2_n, a2_d, a2_m, eq_false hc, hF, badE, DEngineResult.enc]
set_option maxHeartbeats 2000000 in
theorem impl_changed1 (H : HH) {r1 q1 r2 q2 g v c rc id} {x y : DEngine} (hl : x.le 1048576) (hg : tfunc Tryz.prog g = true)
    (hdo : engF x = 0 → ∀ (r : Nm) (H0 : HH), r.1 ≠ 0 → (∀ q, CleanH (hit [(r, q)]) H0) → arrAt H0 rc [] = some (1, [[.v (.int .i64 id)]]) → ¬ rc = r → PUpdR Tryz.prog g (T.c (.pt r [] 4 0 0) :: [.pt rc [] 1 0 0].map T.c) ((r, .own 4 [x.enc]) :: H0) (.t [I v, I c]) ((r, .own 4 [y.enc]) :: H0) r)
    (a1 : arrAt H r1 q1 = some (5, x.txns.map DTxn.enc)) (a2 : arrAt H r2 q2 = some (2, x.rows.map DRow.enc)) (ac : arrAt H rc [] = some (1, [[.v (.int .i64 id)]])) :
    PFun Tryz.prog 58 [.a (eRow x r1 q1 r2 q2), .c (.fn g [.pt rc [] 1 0 0])] H (.a (resF x y v c).enc) := by
  refine PFun.of [1, 2, 4, 5, 6, 7, 8, 12, 23] Tryz.func58 rfl (by simp [Tryz.f58]) ?_
  intro d hd0 hfr hcl hout
  have hcd : ∀ n q, CleanH (hit [((d, n), q)]) H := fun n q => hcl.at
  have a1_n : ∀ n, ¬ (d, n) = r1 := fun n => nm_ne (ne_of_arr hfr a1)
  have a1_d : ¬ r1.1 = d := ne_of_arr hfr a1
  have a1_m : ∀ n, ¬ r1 = (d, n) := fun n => nm_ne' (ne_of_arr hfr a1)
  have a2_n : ∀ n, ¬ (d, n) = r2 := fun n => nm_ne (ne_of_arr hfr a2)
  have a2_d : ¬ r2.1 = d := ne_of_arr hfr a2
  have a2_m : ∀ n, ¬ r2 = (d, n) := fun n => nm_ne' (ne_of_arr hfr a2)
  have ac_n : ∀ n, ¬ (d, n) = rc := fun n => nm_ne (ne_of_arr hfr ac)
  have ac_d : ¬ rc.1 = d := ne_of_arr hfr ac
  have ac_m : ∀ n, ¬ rc = (d, n) := fun n => nm_ne' (ne_of_arr hfr ac)
  simp (maxSteps := 4000000) [hd0, hfr, hout, hcl, hcd, delA_none, a1, a1_n, a1_d, a1_m, a2, a2_n, a2_d, a2_m, ac, ac_n, ac_d, ac_m, Tryz.f58, eRow]
  refine (impl_EngineFault _ hl (by simp (maxSteps := 4000000) [hd0, hfr, hout, hcl, hcd, delA_none, a1, a1_n, a1_d, a1_m, a2, a2_n, a2_d, a2_m, ac, ac_n, ac_d, ac_m]) (by simp (maxSteps := 4000000) [hd0, hfr, hout, hcl, hcd, delA_none, a1, a1_n, a1_d, a1_m, a2, a2_n, a2_d, a2_m, ac, ac_n, ac_d, ac_m])).useCK ?_
  by_cases e0 : engF x = 0
  case neg => simp (maxSteps := 4000000) [hd0, hfr, hout, hcl, hcd, delA_none, a1, a1_n, a1_d, a1_m, a2, a2_n, a2_d, a2_m, ac, ac_n, ac_d, ac_m, eq_false e0, resF, badE, DEngineResult.enc]
  rw [e0]
  simp (maxSteps := 4000000) [hd0, hfr, hout, hcl, hcd, delA_none, a1, a1_n, a1_d, a1_m, a2, a2_n, a2_d, a2_m, ac, ac_n, ac_d, ac_m]
  refine (impl_Engine_copied _ (r1 := r1) (q1 := q1) (r2 := r2) (q2 := q2) hl (by simp (maxSteps := 4000000) [hd0, hfr, hout, hcl, hcd, delA_none, a1, a1_n, a1_d, a1_m, a2, a2_n, a2_d, a2_m, ac, ac_n, ac_d, ac_m]) (by simp (maxSteps := 4000000) [hd0, hfr, hout, hcl, hcd, delA_none, a1, a1_n, a1_d, a1_m, a2, a2_n, a2_d, a2_m, ac, ac_n, ac_d, ac_m])).useCK ?_
  have hF : resF x y v c = if c ≠ 0 then badE c else ⟨0, v, y⟩ := by unfold resF; rw [if_neg (by simp [e0])]
  generalize resF x y v c = R at *
  have hdo' := hdo e0 (d, 6)
  simp only [DEngine.enc, List.map_cons, List.map_nil] at hdo'
  clear hdo
  simp (maxSteps := 4000000) [hd0, hfr, hout, hcl, hcd, delA_none, a1, a1_n, a1_d, a1_m, a2, a2_n, a2_d, a2_m, ac, ac_n, ac_d, ac_m, DEngine.enc, hg]
  refine ⟨rfl, ?_⟩
  refine (hdo' _ hd0 (fun q => by simp (maxSteps := 4000000) [hd0, hfr, hout, hcl, hcd, delA_none, a1, a1_n, a1_d, a1_m, a2, a2_n, a2_d, a2_m, ac, ac_n, ac_d, ac_m]) (by simp (maxSteps := 4000000) [hd0, hfr, hout, hcl, hcd, delA_none, a1, a1_n, a1_d, a1_m, a2, a2_n, a2_d, a2_m, ac, ac_n, ac_d, ac_m]) (by simp (maxSteps := 4000000) [hd0, hfr, hout, hcl, hcd, delA_none, a1, a1_n, a1_d, a1_m, a2, a2_n, a2_d, a2_m, ac, ac_n, ac_d, ac_m])).useCK rfl (by intro a q; simp (maxSteps := 4000000) [hd0, hfr, hout, hcl, hcd, delA_none, a1, a1_n, a1_d, a1_m, a2, a2_n, a2_d, a2_m, ac, ac_n, ac_d, ac_m]) (by intro a q; simp (maxSteps := 4000000) [hd0, hfr, hout, hcl, hcd, delA_none, a1, a1_n, a1_d, a1_m, a2, a2_n, a2_d, a2_m, ac, ac_n, ac_d, ac_m, T.keep, keepC2, keepC]) ?_
  by_cases hc : c = 0
  · rw [if_neg (by simp [hc])] at hF
    simp (maxSteps := 4000000) [hd0, hfr, hout, hcl, hcd, delA_none, a1, a1_n, a1_d, a1_m, a2, a2_n, a2_d, a2_m, ac, ac_n, ac_d, ac_m, hc, hF, DEngineResult.enc]
  · rw [if_pos hc] at hF
    simp (maxSteps := 4000000) [hd0, hfr, hout, hcl, hcd, delA_none, a1, a1_n, a1_d, a1_m, a2, a2_n, a2_d, a2_m, ac, ac_n, ac_d, ac_m, eq_false hc, hF, badE, DEngineResult.enc]
end Go.Proofs.YtnlbjfdmjlnlgaaGreat

namespace Go.Proofs.YtnlbjfdmjlnlgaaGreat
open Go Go.Px Go.RowKit Go.Proofs
set_option linter.unnecessarySimpa false
set_option linter.unusedVariables false
set_option linter.unusedSimpArgs false
set_option maxRecDepth 100000
set_option maxHeartbeats 1000000
attribute [-simp] Int.not_le Int.not_lt
theorem ixF_idxF {α : Type} {p : α → Bool} : ∀ {l : List α} {n : Nat}, ixF p n l = if idxF p l < 0 then -1 else idxF p l + n
  | [], n => by simp [ixF, idxF]
  | a :: l, n => by
    have := ixF_idxF (p := p) (l := l) (n := n + 1)
    have hg := idxF_ge (P := p) (l := l)
    simp only [ixF, idxF]
    by_cases h : p a = true
    · simp [h]
    · simp only [h, if_false]
      rw [this]
      by_cases h2 : idxF p l < 0
      · simp [h2]
      · simp only [h2, if_false, if_neg (show ¬ idxF p l + 1 < 0 by omega)]
        simp; omega
theorem ix0 {α : Type} {p : α → Bool} {l : List α} : idxF p l = ixF p 0 l := by
  have := ixF_idxF (p := p) (l := l) (n := 0)
  have hg := idxF_ge (P := p) (l := l)
  rw [this]; split <;> omega
theorem impl_Engine_txn_1 (H : HH) {r q r1 q1 n} {t : DTxn} {k : Int} (ha : arrAt H r q = some (1, [[.v (.int .i64 k)]])) : PFun Tryz.prog 126 [.a [.v (.int .i64 t.id_), .v (.int .i64 t.at_), .v (.int .i64 t.state), .v (.int .i64 t.done), .sl r1 q1 4 0 n], .c (.pt r q 1 0 0)] H (B (decide (t.id_ = k))) := by
  refine PFun.of [1, 2, 3] Tryz.func126 rfl (by simp [Tryz.f126]) ?_
  intro d hd0 hfr hcl hout
  have hcd : ∀ n q, CleanH (hit [((d, n), q)]) H := fun n q => hcl.at
  have ha_n : ∀ n, ¬ (d, n) = r := fun n => nm_ne (ne_of_arr hfr ha)
  have ha_d : ¬ r.1 = d := ne_of_arr hfr ha
  have ha_m : ∀ n, ¬ r = (d, n) := fun n => nm_ne' (ne_of_arr hfr ha)
  simp (maxSteps := 4000000) [hd0, hfr, hout, hcl, hcd, delA_none, ha, ha_n, ha_d, ha_m, Tryz.f126]
theorem txns_at {H : HH} {r : Nm} {x : DEngine} : arrAt ((r, .own 4 [x.enc]) :: H) r [(0, 2)] = some (5, x.txns.map DTxn.enc) := by simp [DEngine.enc]
theorem rows_at {H : HH} {r : Nm} {x : DEngine} : arrAt ((r, .own 4 [x.enc]) :: H) r [(0, 3)] = some (2, x.rows.map DRow.enc) := by simp [DEngine.enc]
theorem impl_Engine_txn (H : HH) {r R} {x : DEngine} {id : Int} (hl : x.le 1048576) (hr0 : r.1 ≠ 0) (hrc : ∀ q, CleanH (hit [(r, q)]) H)
    (hn : (∀ t ∈ x.txns, t.id_ ≠ id) → R = .t [.c (.v (.pointer none)), I 4])
    (hs : ∀ i (hi : i < x.txns.length), ixF (fun t : DTxn => decide (t.id_ = id)) 0 x.txns = i → x.txns[i].id_ = id → R = if x.txns[i].state = 1 then .t [.c (.pt r [(0, 2)] 5 i 0), I 0] else .t [.c (.v (.pointer none)), I 10]) :
    PFun Tryz.prog 60 [.c (.pt r [] 4 0 0), I id] ((r, .own 4 [x.enc]) :: H) R := by
  have hC : ∀ d, ¬ r = (d, 3) → PFun Tryz.prog 125 [.c (.sl r [(0, 2)] 5 0 x.txns.length), .c (.fn 126 [.pt (d, 3) [] 1 0 0])] (((d, 3), .own 1 [[.v (.int .i64 id)]]) :: (r, .own 4 [x.enc]) :: H) (I (ixF (fun t : DTxn => decide (t.id_ = id)) 0 x.txns)) := fun d hd => by
    have h2 : arrAt (((d, 3), .own 1 [[.v (.int .i64 id)]]) :: (r, .own 4 [x.enc]) :: H) r [(0, 2)] = some (5, x.txns.map DTxn.enc) := by simp [DEngine.enc, show ¬ (d, 3) = r from fun e => hd e.symm]
    have h1 : arrAt (((d, 3), .own 1 [[.v (.int .i64 id)]]) :: (r, .own 4 [x.enc]) :: H) (d, 3) [] = some (1, [[.v (.int .i64 id)]]) := by simp
    have := slices_IndexFunc_Txn _ (P := fun t => decide (t.id_ = id)) (g := 126) (caps := [.pt (d, 3) [] 1 0 0]) hl.1.1 (Nat.le_refl _) h2 (by simp [isRef]) (by simp) (fun i hi => impl_Engine_txn_1 _ h1)
    rw [ix0] at this
    simpa using this
  refine PFun.of [0, 3, 4, 5, 6, 13, 16] Tryz.func60 rfl (by simp [Tryz.f60]) ?_
  intro d hd0 hfr0 hcl0 hout0
  have hrn : ∀ n, ¬ r = (d, n) := fun n h => by have := hfr0 n; rw [look_cons, if_pos h] at this; cases this
  have hrm : ∀ n, ¬ (d, n) = r := fun n h => hrn n h.symm
  have hrd : ¬ r.1 = d := fun h => hrn r.2 (by rw [← h])
  have hfr : ∀ n, Px.look H (d, n) = none := fun n => by have := hfr0 n; rwa [look_cons, if_neg (hrn n)] at this
  have hcl : CleanH (atD d) H := ((CleanH_cons _ _ _ _).1 hcl0).2
  have hout : outH d H = H := by have := hout0; rw [outH_cons, if_neg hrd] at this; exact (List.cons.inj this).2
  have hcd : ∀ n q, CleanH (hit [((d, n), q)]) H := fun n q => hcl.at
  clear hfr0 hcl0 hout0
  simp (maxSteps := 4000000) [hd0, hfr, hout, hcl, hcd, delA_none, hrn, hrm, hrd, hr0, hrc, Tryz.f60, DEngine.enc]
  have hC := hC d
  simp only [DEngine.enc] at hC
  refine (hC (hrn 3)).useCK ?_
  rcases ixF_some (p := fun t : DTxn => decide (t.id_ = id)) (l := x.txns) (n := 0) with ⟨h2, h3⟩ | ⟨i, hi, h2, h3⟩
  · have hR := hn (fun t ht => by simpa using h3 t ht)
    rw [h2]
    simp (maxSteps := 4000000) [hd0, hfr, hout, hcl, hcd, delA_none, hrn, hrm, hrd, hr0, hrc, hR]
  · have h2' : ixF (fun t : DTxn => decide (t.id_ = id)) 0 x.txns = i := by rw [h2]; omega
    have hR := hs i hi h2' (by simpa using h3)
    rw [h2']
    by_cases h5 : x.txns[i].state = 1
    · rw [if_pos h5] at hR
      simp (maxSteps := 4000000) [hd0, hfr, hout, hcl, hcd, delA_none, hrn, hrm, hrd, hr0, hrc, eq_false (show ¬ (i : Int) < 0 by omega), hi, DTxn.enc, h5, hR]
    · rw [if_neg h5] at hR
      simp (maxSteps := 4000000) [hd0, hfr, hout, hcl, hcd, delA_none, hrn, hrm, hrd, hr0, hrc, eq_false (show ¬ (i : Int) < 0 by omega), hi, DTxn.enc, h5, hR]
def setAt0 (l : List DVersion) (c : Int) : List DVersion := match l with | [] => [] | v :: l => { v with at_ := c } :: l
def comRow (id c : Int) (r : DRow) : DRow := if openF r.chain id = true then { r with chain := setAt0 r.chain c } else r
def comF (x : DEngine) (ix : Nat) (t : DTxn) : DEngine :=
  if t.undos.length = 0 then { x with txns := x.txns.set ix { t with state := 2, undos := [] } }
  else { x with clock := x.clock + 1, txns := x.txns.set ix { t with state := 2, done := x.clock + 1, undos := [] }, rows := x.rows.map (comRow t.id_ (x.clock + 1)) }
def comC (x : DEngine) (id : Int) : Int := match x.txns.find? (fun t => decide (t.id_ = id)) with
  | none => 4
  | some t => if t.state ≠ 1 then 10 else if t.undos.length ≠ 0 ∧ x.clock = 1000000 then 3 else 0
end Go.Proofs.YtnlbjfdmjlnlgaaGreat

namespace Go.Proofs.YtnlbjfdmjlnlgaaGreat
open Go Go.Px Go.RowKit Go.Proofs
set_option linter.unnecessarySimpa false
set_option linter.unusedVariables false
set_option linter.unusedSimpArgs false
set_option maxRecDepth 100000
set_option maxHeartbeats 1000000
attribute [-simp] Int.not_le Int.not_lt
def stepL {α : Type} (f : α → α) (l : List α) (i : Nat) : List α := (l.take i).map f ++ l.drop i
theorem stepL_len {α : Type} {f : α → α} {l : List α} {i : Nat} : (stepL f l i).length = l.length := by simp [stepL]; omega
theorem stepL_get {α : Type} {f : α → α} {l : List α} {i : Nat} (h : i < l.length) : (stepL f l i)[i]? = some l[i] := by
  unfold stepL
  rw [List.getElem?_append_right (by simp; omega)]
  simp [Nat.min_eq_left (Nat.le_of_lt h), h]
theorem stepL_succ {α : Type} {f : α → α} {l : List α} {i : Nat} (h : i < l.length) : stepL f l (i + 1) = (stepL f l i).set i (f l[i]) := by
  unfold stepL
  rw [List.take_succ_eq_append_getElem h, List.set_append_right _ _ (by simp; omega), List.drop_eq_getElem_cons h]
  simp only [List.length_map, List.length_take, Nat.min_eq_left (Nat.le_of_lt h), Nat.sub_self, List.set_cons_zero, List.map_append, List.map_cons, List.map_nil, List.append_assoc, List.cons_append, List.nil_append]
theorem stepL_zero {α : Type} {f : α → α} {l : List α} : stepL f l 0 = l := by simp [stepL]
theorem stepL_full {α : Type} {f : α → α} {l : List α} {i : Nat} (h : l.length ≤ i) : stepL f l i = l.map f := by simp [stepL, List.take_of_length_le h, List.drop_eq_nil_of_le h]
def comR (x : DEngine) (id : Int) : Int × Int × DEngine :=
  let i := ixF (fun t : DTxn => decide (t.id_ = id)) 0 x.txns
  if i < 0 then (0, 4, x) else
    let t := x.txns.getD i.toNat ⟨0, 0, 0, 0, []⟩
    if t.state ≠ 1 then (0, 10, x) else if t.undos.length ≠ 0 ∧ x.clock = 1000000 then (0, 3, x) else (if t.undos.length = 0 then t.done else x.clock + 1, 0, comF x i.toNat t)
theorem comR_none {x : DEngine} {id : Int} (h : ∀ t ∈ x.txns, t.id_ ≠ id) : comR x id = (0, 4, x) := by
  unfold comR
  rw [ixF_none (fun t ht => by simpa using h t ht)]
  simp
theorem comR_some {x : DEngine} {id : Int} {i : Nat} (hi : i < x.txns.length) (h : ixF (fun t : DTxn => decide (t.id_ = id)) 0 x.txns = i) : comR x id = if x.txns[i].state ≠ 1 then (0, 10, x) else if x.txns[i].undos.length ≠ 0 ∧ x.clock = 1000000 then (0, 3, x) else (if x.txns[i].undos.length = 0 then x.txns[i].done else x.clock + 1, 0, comF x i x.txns[i]) := by
  unfold comR
  simp only [h]
  rw [if_neg (by omega)]
  simp only [Int.toNat_natCast, List.getD_eq_getElem?_getD, List.getElem?_eq_getElem hi, Option.getD_some]
theorem tri {a b v c : Int} {x y : DEngine} (h : (a, b, x) = (v, c, y)) : v = a ∧ c = b ∧ x = y := by cases h; exact ⟨rfl, rfl, rfl⟩
set_option maxHeartbeats 4000000 in
theorem impl_CommitTxn_1 (H : HH) {r rc v c y} {x : DEngine} {id : Int} (hl : x.le 1048576) (hx : 0 ≤ x.clock ∧ x.clock ≤ 1000000) (hR : comR x id = (v, c, y)) (hr0 : r.1 ≠ 0) (hrc : ∀ q, CleanH (hit [(r, q)]) H) (ac : arrAt H rc [] = some (1, [[.v (.int .i64 id)]])) (hne : ¬ rc = r) :
    PUpdR Tryz.prog 103 [.c (.pt r [] 4 0 0), .c (.pt rc [] 1 0 0)] ((r, .own 4 [x.enc]) :: H) (.t [I v, I c]) ((r, .own 4 [y.enc]) :: H) r := by
  have hl2 := hl
  obtain ⟨⟨b1, b1p⟩, b2, b2p⟩ := hl2
  have hT := fun R => impl_Engine_txn H (R := R) (x := x) (r := r) (id := id) hl hr0 hrc
  have hne' : ¬ r = rc := fun e => hne e.symm
  refine PUpdR.of [0, 1, 3, 4, 5, 6, 7, 14, 18, 37, 56, 57, 58, 69] Tryz.func103 rfl (by simp [Tryz.f103]) ?_
  intro d hd0 hfr0 hcl0 hout0
  have hrn : ∀ n, ¬ r = (d, n) := fun n h => by have := hfr0 n; rw [look_cons, if_pos h] at this; cases this
  have hrm : ∀ n, ¬ (d, n) = r := fun n h => hrn n h.symm
  have hrd : ¬ r.1 = d := fun h => hrn r.2 (by rw [← h])
  have hfr : ∀ n, Px.look H (d, n) = none := fun n => by have := hfr0 n; rwa [look_cons, if_neg (hrn n)] at this
  have hcl : CleanH (atD d) H := ((CleanH_cons _ _ _ _).1 hcl0).2
  have hout : outH d H = H := by have := hout0; rw [outH_cons, if_neg hrd] at this; exact (List.cons.inj this).2
  have hcd : ∀ n q, CleanH (hit [((d, n), q)]) H := fun n q => hcl.at
  clear hfr0 hcl0 hout0
  have ac_n : ∀ n, ¬ (d, n) = rc := fun n => nm_ne (ne_of_arr hfr ac)
  have ac_d : ¬ rc.1 = d := ne_of_arr hfr ac
  have ac_m : ∀ n, ¬ rc = (d, n) := fun n => nm_ne' (ne_of_arr hfr ac)
  simp (maxSteps := 4000000) [hd0, hfr, hout, hcl, hcd, delA_none, ac, ac_n, ac_d, ac_m, hrn, hrm, hrd, hr0, hrc, Tryz.f103, DEngine.enc, hne']
  simp only [DEngine.enc] at hT
  rcases ixF_some (p := fun t : DTxn => decide (t.id_ = id)) (l := x.txns) (n := 0) with ⟨h2, h3⟩ | ⟨i, hi, h2, h3⟩
  · have h3' : ∀ t ∈ x.txns, t.id_ ≠ id := fun t ht => by simpa using h3 t ht
    rw [comR_none h3'] at hR
    obtain ⟨rfl, rfl, rfl⟩ := tri hR
    refine (hT (.t [.c (.v (.pointer none)), I 4]) (fun _ => rfl) (fun i hi h _ => by rw [h2] at h; omega)).useCK ?_
    simp (maxSteps := 4000000) [hd0, hfr, hout, hcl, hcd, delA_none, ac, ac_n, ac_d, ac_m, hrn, hrm, hrd, hr0, hrc, DEngine.enc]
  have h2' : ixF (fun t : DTxn => decide (t.id_ = id)) 0 x.txns = i := by rw [h2]; omega
  rw [comR_some hi h2'] at hR
  have hid : x.txns[i].id_ = id := by simpa using h3
  by_cases h5 : x.txns[i].state = 1
  case neg =>
    rw [if_pos h5] at hR
    obtain ⟨rfl, rfl, rfl⟩ := tri hR
    refine (hT (.t [.c (.v (.pointer none)), I 10]) (fun h => absurd hid (h _ (List.getElem_mem hi))) (fun j hj h _ => by rw [h2'] at h; have : i = j := (by omega); subst this; rw [if_neg h5])).useCK ?_
    simp (maxSteps := 4000000) [hd0, hfr, hout, hcl, hcd, delA_none, ac, ac_n, ac_d, ac_m, hrn, hrm, hrd, hr0, hrc, DEngine.enc]
  rw [if_neg (by simp [h5])] at hR
  refine (hT (.t [.c (.pt r [(0, 2)] 5 i 0), I 0]) (fun h => absurd hid (h _ (List.getElem_mem hi))) (fun j hj h _ => by rw [h2'] at h; have : i = j := (by omega); subst this; rw [if_pos h5])).useCK ?_
  by_cases e1 : x.txns[i].undos.length = 0
  · rw [if_neg (by simp [e1]), if_pos e1] at hR
    obtain ⟨rfl, rfl, rfl⟩ := tri hR
    have e1' : x.txns[i].undos = [] := List.eq_nil_of_length_eq_zero e1
    simp (maxSteps := 4000000) [hd0, hfr, hout, hcl, hcd, delA_none, ac, ac_n, ac_d, ac_m, hrn, hrm, hrd, hr0, hrc, hi, DTxn.enc, e1']
    simp only [comF, if_pos e1]
    exact ⟨trivial, trivial, by rw [List.map_set]; simp [DTxn.enc], trivial⟩
  by_cases e2 : x.clock = 1000000
  · rw [if_pos ⟨e1, e2⟩] at hR
    obtain ⟨rfl, rfl, rfl⟩ := tri hR
    simp (maxSteps := 4000000) [hd0, hfr, hout, hcl, hcd, delA_none, ac, ac_n, ac_d, ac_m, hrn, hrm, hrd, hr0, hrc, hi, DTxn.enc, e2, eq_true (show (0 : Int) < (x.txns[i].undos.length : Int) by omega), eq_true (show 0 < x.txns[i].undos.length by omega), DEngine.enc]
  rw [if_neg (by simp [e2]), if_neg e1] at hR
  obtain ⟨rfl, rfl, rfl⟩ := tri hR
  clear hR hT
  have w1 : IntKind.i64.wrap (x.clock + 1) = x.clock + 1 := w64 (by omega) (by omega)
  have hcm : comF x i x.txns[i] = { x with clock := x.clock + 1, txns := x.txns.set i { x.txns[i] with state := 2, done := x.clock + 1, undos := [] }, rows := x.rows.map (comRow x.txns[i].id_ (x.clock + 1)) } := by unfold comF; rw [if_neg e1]
  rw [hcm, hid]
  clear hcm
  have hte : (x.txns.map DTxn.enc).set i [.v (.int .i64 x.txns[i].id_), .v (.int .i64 x.txns[i].at_), .v (.int .i64 x.txns[i].state), .v (.int .i64 (x.clock + 1)), .own 4 (x.txns[i].undos.map DUndo.enc)] = (x.txns.set i { x.txns[i] with done := x.clock + 1 }).map DTxn.enc := by rw [List.map_set]; simp [DTxn.enc]
  simp (maxSteps := 4000000) [hd0, hfr, hout, hcl, hcd, delA_none, ac, ac_n, ac_d, ac_m, hrn, hrm, hrd, hr0, hrc, hi, DTxn.enc, eq_false e2, w1, eq_true (show (0 : Int) < (x.txns[i].undos.length : Int) by omega), eq_true (show 0 < x.txns[i].undos.length by omega), DEngine.enc]
  refine LoopK.intro (fun m s => ∃ j : Nat, j + m = x.rows.length ∧ s = ⟨[(0, .c (.pt r [] 4 0 0)), (1, .c (.pt rc [] 1 0 0)), (5, .c (.pt r [(0, 2)] 5 i 0)), (56, I x.rows.length), (57, I j)],
      (r, .own 4 [[.v (.int .i64 x.next), .v (.int .i64 (x.clock + 1)), .own 5 ((x.txns.map DTxn.enc).set i [.v (.int .i64 x.txns[i].id_), .v (.int .i64 x.txns[i].at_), .v (.int .i64 x.txns[i].state), .v (.int .i64 (x.clock + 1)), .own 4 (x.txns[i].undos.map DUndo.enc)]),
        .own 2 ((stepL (comRow id (x.clock + 1)) x.rows j).map DRow.enc)]]) :: H, []⟩) (x.rows.length + 1)
    (LK.intro x.rows.length [0, 1, 5, 56, 57] [] (by omega) (by decide) (by simp (maxSteps := 4000000) [hd0, hfr, hout, hcl, hcd, delA_none, ac, ac_n, ac_d, ac_m, hrn, hrm, hrd, hr0, hrc]) ⟨0, by simp [stepL_zero]⟩) ?_
  rintro m s ⟨j, hjm, rfl⟩
  by_cases hj' : j < x.rows.length
  case neg =>
    rw [stepL_full (by omega)]
    simp (maxSteps := 4000000) [hd0, hfr, hout, hcl, hcd, delA_none, ac, ac_n, ac_d, ac_m, hrn, hrm, hrd, hr0, hrc, eq_false (show ¬ (j : Int) < (x.rows.length : Int) by omega), hi, DTxn.enc]
  have w2 : IntKind.i64.wrap ((j : Int) + 1) = j + 1 := w64 (by omega) (by omega)
  have hLs := stepL_succ (f := comRow id (x.clock + 1)) hj'
  have hLl : (stepL (comRow id (x.clock + 1)) x.rows j).length = x.rows.length := stepL_len
  have hLg := stepL_get (f := comRow id (x.clock + 1)) hj'
  generalize stepL (comRow id (x.clock + 1)) x.rows j = L at *
  have hjL : j < L.length := by omega
  have hLj : L[j] = x.rows[j] := by rw [List.getElem?_eq_getElem hjL] at hLg; exact Option.some.inj hLg
  have hbc : x.rows[j].chain.length ≤ 1048576 := b2p _ (List.getElem_mem hj')
  simp (maxSteps := 4000000) [hd0, hfr, hout, hcl, hcd, delA_none, ac, ac_n, ac_d, ac_m, hrn, hrm, hrd, hr0, hrc, eq_true (show (j : Int) < (x.rows.length : Int) by omega)]
  refine DrawK.intro 10 [0, 1, 5, 7, 56, 57, 69] rfl (by kernel_rfl) (by decide) ?_
  simp (maxSteps := 4000000) [hd0, hfr, hout, hcl, hcd, delA_none, ac, ac_n, ac_d, ac_m, hrn, hrm, hrd, hr0, hrc, hjL, hLj, DRow.enc, hne']
  refine ⟨_, impl_isOpenOf _ (l := x.rows[j].chain) (by simp (maxSteps := 4000000) [hd0, hfr, hout, hcl, hcd, delA_none, ac, ac_n, ac_d, ac_m, hrn, hrm, hrd, hr0, hrc, hjL, hLj, DRow.enc]), ?_⟩
  cases ho : openF x.rows[j].chain id
  · have hc : comRow id (x.clock + 1) x.rows[j] = L[j] := by unfold comRow; rw [if_neg (by simp [ho]), hLj]
    rw [hc, List.set_getElem_self] at hLs
    simp (maxSteps := 4000000) [hd0, hfr, hout, hcl, hcd, delA_none, ac, ac_n, ac_d, ac_m, hrn, hrm, hrd, hr0, hrc, w2]
    refine LK.intro (m - 1) [0, 1, 5, 56, 57] [] (by omega) (by decide) (by simp (maxSteps := 4000000) [hd0, hfr, hout, hcl, hcd, delA_none, ac, ac_n, ac_d, ac_m, hrn, hrm, hrd, hr0, hrc]) ⟨j + 1, by omega, by simp [hLs]⟩
  obtain ⟨v0, rest, hcf⟩ : ∃ v0 rest, x.rows[j].chain = v0 :: rest := by
    cases hc : x.rows[j].chain with
    | nil => rw [hc] at ho; simp [openF] at ho
    | cons a l => exact ⟨a, l, rfl⟩
  have hc : comRow id (x.clock + 1) x.rows[j] = ⟨x.rows[j].key, { v0 with at_ := x.clock + 1 } :: rest⟩ := by unfold comRow; rw [if_pos ho, hcf]; rfl
  rw [hc] at hLs
  simp (maxSteps := 4000000) [hd0, hfr, hout, hcl, hcd, delA_none, ac, ac_n, ac_d, ac_m, hrn, hrm, hrd, hr0, hrc]
  refine DrawK.intro 14 [0, 1, 5, 56, 57, 81, 83] rfl (by kernel_rfl) (by decide) ?_
  simp (maxSteps := 4000000) [hd0, hfr, hout, hcl, hcd, delA_none, ac, ac_n, ac_d, ac_m, hrn, hrm, hrd, hr0, hrc, hjL, hLj, DRow.enc, hcf, DVersion.enc, w2]
  refine LK.intro (m - 1) [0, 1, 5, 56, 57] [] (by omega) (by decide) (by simp (maxSteps := 4000000) [hd0, hfr, hout, hcl, hcd, delA_none, ac, ac_n, ac_d, ac_m, hrn, hrm, hrd, hr0, hrc]) ⟨j + 1, by omega, by simp [hLs, List.map_set, DRow.enc, DVersion.enc]⟩
end Go.Proofs.YtnlbjfdmjlnlgaaGreat

namespace Go.Proofs.YtnlbjfdmjlnlgaaGreat
open Go Go.Px Go.RowKit Go.Proofs
set_option linter.unnecessarySimpa false
set_option linter.unusedVariables false
set_option linter.unusedSimpArgs false
set_option maxRecDepth 100000
set_option maxHeartbeats 1000000
attribute [-simp] Int.not_le Int.not_lt
def commitR (x : DEngine) (id : Int) : DEngineResult := resF x (comR x id).2.2 (comR x id).1 (comR x id).2.1
theorem engF_clock {x : DEngine} (h : engF x = 0) : (1 ≤ x.next ∧ x.next ≤ 999) ∧ 0 ≤ x.clock ∧ x.clock ≤ 1000000 := by
  unfold engF at h
  split at h
  · omega
  · rename_i h1
    simp only [Bool.or_eq_true, Bool.not_eq_true', not_or, Bool.not_eq_false, inR, Bool.and_eq_true, decide_eq_true_eq] at h1
    omega
theorem engF_txns {x : DEngine} (h : engF x = 0) : txsF x.next x.clock none x.txns = 0 := by
  unfold engF at h
  split at h
  · omega
  · split at h
    · omega
    · split at h
      · rename_i h1; exact absurd h h1
      · rename_i h1; simpa using h1
set_option maxHeartbeats 2000000 in
theorem impl_CommitTxn (H : HH) {r1 q1 r2 q2} {x : DEngine} {id : Int} (hl : x.le 1048576) (a1 : arrAt H r1 q1 = some (5, x.txns.map DTxn.enc)) (a2 : arrAt H r2 q2 = some (2, x.rows.map DRow.enc)) :
    PFun Tryz.prog 47 [.a (eRow x r1 q1 r2 q2), I id] H (.a (commitR x id).enc) := by
  have hC : ∀ H' rc, arrAt H' r1 q1 = some (5, x.txns.map DTxn.enc) → arrAt H' r2 q2 = some (2, x.rows.map DRow.enc) → arrAt H' rc [] = some (1, [[.v (.int .i64 id)]]) →
      PFun Tryz.prog 58 [.a (eRow x r1 q1 r2 q2), .c (.fn 103 [.pt rc [] 1 0 0])] H' (.a (commitR x id).enc) := fun H' rc h1 h2 h3 =>
    impl_changed1 H' (g := 103) (v := (comR x id).1) (c := (comR x id).2.1) (y := (comR x id).2.2) (x := x) hl (by simp) (fun e0 r H0 hr0 hrc ac hne => impl_CommitTxn_1 H0 hl (engF_clock e0).2 rfl hr0 hrc ac hne) h1 h2 h3
  generalize commitR x id = R at *
  simp only [eRow] at hC
  refine PFun.of [2, 3, 4] Tryz.func47 rfl (by simp [Tryz.f47]) ?_
  intro d hd0 hfr hcl hout
  have hcd : ∀ n q, CleanH (hit [((d, n), q)]) H := fun n q => hcl.at
  have a1_n : ∀ n, ¬ (d, n) = r1 := fun n => nm_ne (ne_of_arr hfr a1)
  have a1_d : ¬ r1.1 = d := ne_of_arr hfr a1
  have a1_m : ∀ n, ¬ r1 = (d, n) := fun n => nm_ne' (ne_of_arr hfr a1)
  have a2_n : ∀ n, ¬ (d, n) = r2 := fun n => nm_ne (ne_of_arr hfr a2)
  have a2_d : ¬ r2.1 = d := ne_of_arr hfr a2
  have a2_m : ∀ n, ¬ r2 = (d, n) := fun n => nm_ne' (ne_of_arr hfr a2)
  simp (maxSteps := 4000000) [hd0, hfr, hout, hcl, hcd, delA_none, a1, a1_n, a1_d, a1_m, a2, a2_n, a2_d, a2_m, Tryz.f47, eRow, capR]
  refine (hC _ _ (by simp (maxSteps := 4000000) [hd0, hfr, hout, hcl, hcd, delA_none, a1, a1_n, a1_d, a1_m, a2, a2_n, a2_d, a2_m]) (by simp (maxSteps := 4000000) [hd0, hfr, hout, hcl, hcd, delA_none, a1, a1_n, a1_d, a1_m, a2, a2_n, a2_d, a2_m]) (by simp (maxSteps := 4000000) [hd0, hfr, hout, hcl, hcd, delA_none, a1, a1_n, a1_d, a1_m, a2, a2_n, a2_d, a2_m])).useCK ?_
  simp (maxSteps := 4000000) [hd0, hfr, hout, hcl, hcd, delA_none, a1, a1_n, a1_d, a1_m, a2, a2_n, a2_d, a2_m, DEngineResult.enc]
def askF (x : DEngine) (id : Int) : Int × Int :=
  if engF x ≠ 0 then (0, engF x) else
    let i := ixF (fun t : DTxn => decide (t.id_ = id)) 0 x.txns
    if i < 0 then (0, 4) else if (x.txns.getD i.toNat ⟨0, 0, 0, 0, []⟩).state ≠ 1 then (0, 10) else (i, 0)
theorem spec_l6Asked (H : HH) {r0 q0 r1 q1 r2 q2} {x : DEngine} {id : Int} (hl : x.le 1048576)
    (a0 : arrAt H r0 q0 = some (4, [eRow x r1 q1 r2 q2])) (a1 : arrAt H r1 q1 = some (5, x.txns.map DTxn.enc)) (a2 : arrAt H r2 q2 = some (2, x.rows.map DRow.enc)) :
    PFun Tryz.prog 52 [.c (.pt r0 q0 4 0 0), I id] H (.t [I (askF x id).1, I (askF x id).2]) := by
  refine PFun.of [0, 1, 4, 5, 6, 7, 11, 17, 26] Tryz.func52 rfl (by simp [Tryz.f52]) ?_
  intro d hd0 hfr hcl hout
  have hcd : ∀ n q, CleanH (hit [((d, n), q)]) H := fun n q => hcl.at
  have a0_n : ∀ n, ¬ (d, n) = r0 := fun n => nm_ne (ne_of_arr hfr a0)
  have a0_d : ¬ r0.1 = d := ne_of_arr hfr a0
  have a0_m : ∀ n, ¬ r0 = (d, n) := fun n => nm_ne' (ne_of_arr hfr a0)
  have a1_n : ∀ n, ¬ (d, n) = r1 := fun n => nm_ne (ne_of_arr hfr a1)
  have a1_d : ¬ r1.1 = d := ne_of_arr hfr a1
  have a1_m : ∀ n, ¬ r1 = (d, n) := fun n => nm_ne' (ne_of_arr hfr a1)
  have a2_n : ∀ n, ¬ (d, n) = r2 := fun n => nm_ne (ne_of_arr hfr a2)
  have a2_d : ¬ r2.1 = d := ne_of_arr hfr a2
  have a2_m : ∀ n, ¬ r2 = (d, n) := fun n => nm_ne' (ne_of_arr hfr a2)
  simp (maxSteps := 4000000) [hd0, hfr, hout, hcl, hcd, delA_none, a0, a0_n, a0_d, a0_m, a1, a1_n, a1_d, a1_m, a2, a2_n, a2_d, a2_m, Tryz.f52]
  refine (spec_l6Fault _ (x := x) (r1 := r1) (q1 := q1) (r2 := r2) (q2 := q2) hl (by simp (maxSteps := 4000000) [hd0, hfr, hout, hcl, hcd, delA_none, a0, a0_n, a0_d, a0_m, a1, a1_n, a1_d, a1_m, a2, a2_n, a2_d, a2_m]) (by simp (maxSteps := 4000000) [hd0, hfr, hout, hcl, hcd, delA_none, a0, a0_n, a0_d, a0_m, a1, a1_n, a1_d, a1_m, a2, a2_n, a2_d, a2_m]) (by simp (maxSteps := 4000000) [hd0, hfr, hout, hcl, hcd, delA_none, a0, a0_n, a0_d, a0_m, a1, a1_n, a1_d, a1_m, a2, a2_n, a2_d, a2_m])).useCK ?_
  by_cases e0 : engF x = 0
  case neg => simp (maxSteps := 4000000) [hd0, hfr, hout, hcl, hcd, delA_none, a0, a0_n, a0_d, a0_m, a1, a1_n, a1_d, a1_m, a2, a2_n, a2_d, a2_m, eq_false e0, askF]
  have hF : askF x id = (let i := ixF (fun t : DTxn => decide (t.id_ = id)) 0 x.txns
    if i < 0 then (0, 4) else if (x.txns.getD i.toNat ⟨0, 0, 0, 0, []⟩).state ≠ 1 then (0, 10) else (i, 0)) := by unfold askF; rw [if_neg (by simp [e0])]
  generalize askF x id = R at *
  rw [e0]
  simp (maxSteps := 4000000) [hd0, hfr, hout, hcl, hcd, delA_none, a0, a0_n, a0_d, a0_m, a1, a1_n, a1_d, a1_m, a2, a2_n, a2_d, a2_m]
  refine (spec_l6Txn _ (x := x) (r1 := r1) (q1 := q1) (r2 := r2) (q2 := q2) hl (by simp (maxSteps := 4000000) [hd0, hfr, hout, hcl, hcd, delA_none, a0, a0_n, a0_d, a0_m, a1, a1_n, a1_d, a1_m, a2, a2_n, a2_d, a2_m]) (by simp (maxSteps := 4000000) [hd0, hfr, hout, hcl, hcd, delA_none, a0, a0_n, a0_d, a0_m, a1, a1_n, a1_d, a1_m, a2, a2_n, a2_d, a2_m])).useCK ?_
  rcases ixF_some (p := fun t : DTxn => decide (t.id_ = id)) (l := x.txns) (n := 0) with ⟨h2, h3⟩ | ⟨i, hi, h2, h3⟩
  · rw [h2] at hF ⊢
    simp at hF
    simp (maxSteps := 4000000) [hd0, hfr, hout, hcl, hcd, delA_none, a0, a0_n, a0_d, a0_m, a1, a1_n, a1_d, a1_m, a2, a2_n, a2_d, a2_m, hF]
  · have h2' : ixF (fun t : DTxn => decide (t.id_ = id)) 0 x.txns = i := by rw [h2]; omega
    rw [h2'] at hF ⊢
    simp only [if_neg (show ¬ (i : Int) < 0 by omega), Int.toNat_natCast, List.getD_eq_getElem?_getD, List.getElem?_eq_getElem hi, Option.getD_some] at hF
    by_cases h5 : x.txns[i].state = 1
    · rw [if_neg (by simp [h5])] at hF
      simp (maxSteps := 4000000) [hd0, hfr, hout, hcl, hcd, delA_none, a0, a0_n, a0_d, a0_m, a1, a1_n, a1_d, a1_m, a2, a2_n, a2_d, a2_m, eRow, eq_false (show ¬ (i : Int) < 0 by omega), hi, DTxn.enc, h5, hF]
    · rw [if_pos h5] at hF
      simp (maxSteps := 4000000) [hd0, hfr, hout, hcl, hcd, delA_none, a0, a0_n, a0_d, a0_m, a1, a1_n, a1_d, a1_m, a2, a2_n, a2_d, a2_m, eRow, eq_false (show ¬ (i : Int) < 0 by omega), hi, DTxn.enc, h5, hF]
end Go.Proofs.YtnlbjfdmjlnlgaaGreat

namespace Go.Proofs.YtnlbjfdmjlnlgaaGreat
open Go Go.Px Go.RowKit Go.Proofs
set_option linter.unnecessarySimpa false
set_option linter.unusedVariables false
set_option linter.unusedSimpArgs false
set_option maxRecDepth 100000
set_option maxHeartbeats 1000000
attribute [-simp] Int.not_le Int.not_lt
theorem askF_bad {x : DEngine} {id : Int} (h : engF x ≠ 0) : askF x id = (0, engF x) := by unfold askF; rw [if_pos h]
theorem askF_none {x : DEngine} {id : Int} (h : engF x = 0) (h2 : ∀ t ∈ x.txns, t.id_ ≠ id) : askF x id = (0, 4) := by
  unfold askF; rw [if_neg (by simp [h]), ixF_none (fun t ht => by simpa using h2 t ht)]; simp
theorem askF_some {x : DEngine} {id : Int} {i : Nat} (h : engF x = 0) (hi : i < x.txns.length) (h2 : ixF (fun t : DTxn => decide (t.id_ = id)) 0 x.txns = i) : askF x id = if x.txns[i].state ≠ 1 then (0, 10) else ((i : Int), 0) := by
  unfold askF
  rw [if_neg (by simp [h])]
  simp only [h2, if_neg (show ¬ (i : Int) < 0 by omega), Int.toNat_natCast, List.getD_eq_getElem?_getD, List.getElem?_eq_getElem hi, Option.getD_some]
theorem commitR_bad {x : DEngine} {id : Int} (h : engF x ≠ 0) : commitR x id = badE (engF x) := by unfold commitR resF; rw [if_pos h]
theorem commitR_code {x y : DEngine} {id v c : Int} (h : engF x = 0) (h2 : comR x id = (v, c, y)) (hc : c ≠ 0) : commitR x id = badE c := by unfold commitR resF; rw [if_neg (by simp [h]), h2, if_pos hc]
theorem commitR_ok {x y : DEngine} {id v : Int} (h : engF x = 0) (h2 : comR x id = (v, 0, y)) : commitR x id = ⟨0, v, y⟩ := by unfold commitR resF; rw [if_neg (by simp [h]), h2]; simp
set_option maxHeartbeats 8000000 in
theorem spec_CommitTxn (H : HH) {r1 q1 r2 q2} {x : DEngine} {id : Int} (hl : x.le 1048576) (a1 : arrAt H r1 q1 = some (5, x.txns.map DTxn.enc)) (a2 : arrAt H r2 q2 = some (2, x.rows.map DRow.enc)) :
    PFun Tryz.prog 231 [.a (eRow x r1 q1 r2 q2), I id] H (.a (commitR x id).enc) := by
  have hl2 := hl
  obtain ⟨⟨b1, b1p⟩, b2, b2p⟩ := hl2
  refine PFun.of [1, 2, 4, 5, 6, 7, 8, 9, 16, 30, 33, 48, 59] Tryz.func231 rfl (by simp [Tryz.f231]) ?_
  intro d hd0 hfr hcl hout
  have hcd : ∀ n q, CleanH (hit [((d, n), q)]) H := fun n q => hcl.at
  have a1_n : ∀ n, ¬ (d, n) = r1 := fun n => nm_ne (ne_of_arr hfr a1)
  have a1_d : ¬ r1.1 = d := ne_of_arr hfr a1
  have a1_m : ∀ n, ¬ r1 = (d, n) := fun n => nm_ne' (ne_of_arr hfr a1)
  have a2_n : ∀ n, ¬ (d, n) = r2 := fun n => nm_ne (ne_of_arr hfr a2)
  have a2_d : ¬ r2.1 = d := ne_of_arr hfr a2
  have a2_m : ∀ n, ¬ r2 = (d, n) := fun n => nm_ne' (ne_of_arr hfr a2)
  simp (maxSteps := 4000000) [hd0, hfr, hout, hcl, hcd, delA_none, a1, a1_n, a1_d, a1_m, a2, a2_n, a2_d, a2_m, Tryz.f231, eRow]
  refine (spec_l6Asked _ (x := x) (r1 := r1) (q1 := q1) (r2 := r2) (q2 := q2) hl (by simp (maxSteps := 4000000) [hd0, hfr, hout, hcl, hcd, delA_none, a1, a1_n, a1_d, a1_m, a2, a2_n, a2_d, a2_m, eRow]) (by simp (maxSteps := 4000000) [hd0, hfr, hout, hcl, hcd, delA_none, a1, a1_n, a1_d, a1_m, a2, a2_n, a2_d, a2_m]) (by simp (maxSteps := 4000000) [hd0, hfr, hout, hcl, hcd, delA_none, a1, a1_n, a1_d, a1_m, a2, a2_n, a2_d, a2_m])).useCK ?_
  by_cases e0 : engF x = 0
  case neg =>
    rw [askF_bad e0, commitR_bad e0]
    simp (maxSteps := 4000000) [hd0, hfr, hout, hcl, hcd, delA_none, a1, a1_n, a1_d, a1_m, a2, a2_n, a2_d, a2_m, eq_false e0]
    refine (spec_l6Bad _).useCK ?_
    simp (maxSteps := 4000000) [hd0, hfr, hout, hcl, hcd, delA_none, a1, a1_n, a1_d, a1_m, a2, a2_n, a2_d, a2_m, badE, DEngineResult.enc]
  rcases ixF_some (p := fun t : DTxn => decide (t.id_ = id)) (l := x.txns) (n := 0) with ⟨h2, h3⟩ | ⟨i, hi, h2, h3⟩
  · have h3' : ∀ t ∈ x.txns, t.id_ ≠ id := fun t ht => by simpa using h3 t ht
    rw [askF_none e0 h3', commitR_code e0 (comR_none h3') (by decide)]
    simp (maxSteps := 4000000) [hd0, hfr, hout, hcl, hcd, delA_none, a1, a1_n, a1_d, a1_m, a2, a2_n, a2_d, a2_m]
    refine (spec_l6Bad _).useCK ?_
    simp (maxSteps := 4000000) [hd0, hfr, hout, hcl, hcd, delA_none, a1, a1_n, a1_d, a1_m, a2, a2_n, a2_d, a2_m, badE, DEngineResult.enc]
  have h2' : ixF (fun t : DTxn => decide (t.id_ = id)) 0 x.txns = i := by rw [h2]; omega
  have hid : x.txns[i].id_ = id := by simpa using h3
  have hR := comR_some hi h2'
  rw [askF_some e0 hi h2']
  by_cases h5 : x.txns[i].state = 1
  case neg =>
    rw [if_pos h5] at hR ⊢
    rw [commitR_code e0 hR (by decide)]
    simp (maxSteps := 4000000) [hd0, hfr, hout, hcl, hcd, delA_none, a1, a1_n, a1_d, a1_m, a2, a2_n, a2_d, a2_m]
    refine (spec_l6Bad _).useCK ?_
    simp (maxSteps := 4000000) [hd0, hfr, hout, hcl, hcd, delA_none, a1, a1_n, a1_d, a1_m, a2, a2_n, a2_d, a2_m, badE, DEngineResult.enc]
  rw [if_neg (by simp [h5])] at hR ⊢
  have hid0 : id ≠ 0 := by have := (txsF_rise (engF_txns e0)).2.1 _ (List.getElem_mem hi); omega
  have hx := (engF_clock e0).2
  simp (maxSteps := 4000000) [hd0, hfr, hout, hcl, hcd, delA_none, a1, a1_n, a1_d, a1_m, a2, a2_n, a2_d, a2_m]
  refine (spec_l6Copy _ (x := x) (r1 := r1) (q1 := q1) (r2 := r2) (q2 := q2) hl (by simp (maxSteps := 4000000) [hd0, hfr, hout, hcl, hcd, delA_none, a1, a1_n, a1_d, a1_m, a2, a2_n, a2_d, a2_m]) (by simp (maxSteps := 4000000) [hd0, hfr, hout, hcl, hcd, delA_none, a1, a1_n, a1_d, a1_m, a2, a2_n, a2_d, a2_m])).useCK ?_
  by_cases e1 : x.txns[i].undos.length = 0
  · rw [if_neg (by simp [e1]), if_pos e1] at hR
    rw [commitR_ok e0 hR]
    have e1' : x.txns[i].undos = [] := List.eq_nil_of_length_eq_zero e1
    simp (maxSteps := 4000000) [hd0, hfr, hout, hcl, hcd, delA_none, a1, a1_n, a1_d, a1_m, a2, a2_n, a2_d, a2_m, hi, DTxn.enc, e1', DEngine.enc]
    refine DrawK.intro 5 [4, 79, 80] rfl (by kernel_rfl) (by decide) ?_
    simp (maxSteps := 4000000) [hd0, hfr, hout, hcl, hcd, delA_none, a1, a1_n, a1_d, a1_m, a2, a2_n, a2_d, a2_m, hi, DTxn.enc, e1', DEngine.enc, DEngineResult.enc]
    simp only [comF, if_pos e1]
    exact ⟨trivial, trivial, by rw [List.map_set]; simp [DTxn.enc], trivial⟩
  have e1n : ¬ x.txns[i].undos = [] := fun h => e1 (by rw [h]; rfl)
  by_cases e2 : x.clock = 1000000
  · rw [if_pos ⟨e1, e2⟩] at hR
    rw [commitR_code e0 hR (by decide)]
    simp (maxSteps := 4000000) [hd0, hfr, hout, hcl, hcd, delA_none, a1, a1_n, a1_d, a1_m, a2, a2_n, a2_d, a2_m, hi, DTxn.enc, e2, eq_true (show (0 : Int) < (x.txns[i].undos.length : Int) by omega), eq_true (show 0 < x.txns[i].undos.length by omega), eq_false e1n, DEngine.enc]
    refine (spec_l6Bad _).useCK ?_
    simp (maxSteps := 4000000) [hd0, hfr, hout, hcl, hcd, delA_none, a1, a1_n, a1_d, a1_m, a2, a2_n, a2_d, a2_m, badE, DEngineResult.enc]
  rw [if_neg (by simp [e2]), if_neg e1] at hR
  rw [commitR_ok e0 hR]
  clear hR
  have w1 : IntKind.i64.wrap (x.clock + 1) = x.clock + 1 := w64 (by omega) (by omega)
  have hcm : comF x i x.txns[i] = { x with clock := x.clock + 1, txns := x.txns.set i { x.txns[i] with state := 2, done := x.clock + 1, undos := [] }, rows := x.rows.map (comRow x.txns[i].id_ (x.clock + 1)) } := by unfold comF; rw [if_neg e1]
  rw [hcm, hid]
  clear hcm
  simp (maxSteps := 4000000) [hd0, hfr, hout, hcl, hcd, delA_none, a1, a1_n, a1_d, a1_m, a2, a2_n, a2_d, a2_m, hi, DTxn.enc, eq_false e2, w1, eq_true (show (0 : Int) < (x.txns[i].undos.length : Int) by omega), eq_true (show 0 < x.txns[i].undos.length by omega), eq_false e1n, DEngine.enc]
  refine LoopK.intro (fun m s => ∃ j : Nat, j + m = x.rows.length ∧ s = ⟨[(1, I id), (4, .c (.pt (d, 4) [] 6 0 0)), (7, .c (.pt (d, 7) [] 4 0 0)), (8, .c (.pt (d, 7) [(0, 2)] 5 i 0)), (9, I j)],
      ((d, 7), .own 4 [[.v (.int .i64 x.next), .v (.int .i64 (x.clock + 1)), .own 5 ((x.txns.map DTxn.enc).set i [.v (.int .i64 x.txns[i].id_), .v (.int .i64 x.txns[i].at_), .v (.int .i64 x.txns[i].state), .v (.int .i64 (x.clock + 1)), .own 4 (x.txns[i].undos.map DUndo.enc)]),
        .own 2 ((stepL (comRow id (x.clock + 1)) x.rows j).map DRow.enc)]]) :: ((d, 4), .own 6 [[.v (.int .i64 0), .v (.int .i64 0), .v (.int .i64 0), .v (.int .i64 0), .own 5 [], .own 2 []]]) :: H, []⟩) (x.rows.length + 1)
    (LK.intro x.rows.length [1, 4, 7, 8, 9] [2] (by omega) (by decide) (by simp (maxSteps := 4000000) [hd0, hfr, hout, hcl, hcd, delA_none, a1, a1_n, a1_d, a1_m, a2, a2_n, a2_d, a2_m]) ⟨0, by simp [stepL_zero]⟩) ?_
  rintro m s ⟨j, hjm, rfl⟩
  by_cases hj' : j < x.rows.length
  case neg =>
    rw [stepL_full (by omega)]
    simp (maxSteps := 4000000) [hd0, hfr, hout, hcl, hcd, delA_none, a1, a1_n, a1_d, a1_m, a2, a2_n, a2_d, a2_m, eq_false (show ¬ (j : Int) < (x.rows.length : Int) by omega), hi, DTxn.enc]
    refine DrawK.intro 5 [4, 79, 80] rfl (by kernel_rfl) (by decide) ?_
    simp (maxSteps := 4000000) [hd0, hfr, hout, hcl, hcd, delA_none, a1, a1_n, a1_d, a1_m, a2, a2_n, a2_d, a2_m, hi, DTxn.enc, DEngineResult.enc, List.map_set]
  have w2 : IntKind.i64.wrap ((j : Int) + 1) = j + 1 := w64 (by omega) (by omega)
  have hLs := stepL_succ (f := comRow id (x.clock + 1)) hj'
  have hLl : (stepL (comRow id (x.clock + 1)) x.rows j).length = x.rows.length := stepL_len
  have hLg := stepL_get (f := comRow id (x.clock + 1)) hj'
  generalize stepL (comRow id (x.clock + 1)) x.rows j = L at *
  have hjL : j < L.length := by omega
  have hLj : L[j] = x.rows[j] := by rw [List.getElem?_eq_getElem hjL] at hLg; exact Option.some.inj hLg
  have hbc : x.rows[j].chain.length ≤ 1048576 := b2p _ (List.getElem_mem hj')
  simp (maxSteps := 4000000) [hd0, hfr, hout, hcl, hcd, delA_none, a1, a1_n, a1_d, a1_m, a2, a2_n, a2_d, a2_m, eq_true (show (j : Int) < (x.rows.length : Int) by omega), hjL, hLj, DRow.enc]
  refine (spec_l5Writer _ (l := x.rows[j].chain) (by simp (maxSteps := 4000000) [hd0, hfr, hout, hcl, hcd, delA_none, a1, a1_n, a1_d, a1_m, a2, a2_n, a2_d, a2_m, hjL, hLj, DRow.enc])).useCK ?_
  have how := openF_writ (l := x.rows[j].chain) hid0
  by_cases ho : writF x.rows[j].chain = id
  case neg =>
    have ho2 : openF x.rows[j].chain id = false := by rw [how]; simp [ho]
    have hc : comRow id (x.clock + 1) x.rows[j] = L[j] := by unfold comRow; rw [if_neg (by simp [ho2]), hLj]
    rw [hc, List.set_getElem_self] at hLs
    simp (maxSteps := 4000000) [hd0, hfr, hout, hcl, hcd, delA_none, a1, a1_n, a1_d, a1_m, a2, a2_n, a2_d, a2_m, eq_false ho, w2]
    refine LK.intro (m - 1) [1, 4, 7, 8, 9] [] (by omega) (by decide) (by simp (maxSteps := 4000000) [hd0, hfr, hout, hcl, hcd, delA_none, a1, a1_n, a1_d, a1_m, a2, a2_n, a2_d, a2_m]) ⟨j + 1, by omega, by simp [hLs]⟩
  have ho2 : openF x.rows[j].chain id = true := by rw [how]; simp [ho]
  obtain ⟨v0, rest, hcf⟩ : ∃ v0 rest, x.rows[j].chain = v0 :: rest := by
    cases hc : x.rows[j].chain with
    | nil => rw [hc] at ho2; simp [openF] at ho2
    | cons a l => exact ⟨a, l, rfl⟩
  have hc : comRow id (x.clock + 1) x.rows[j] = ⟨x.rows[j].key, { v0 with at_ := x.clock + 1 } :: rest⟩ := by unfold comRow; rw [if_pos ho2, hcf]; rfl
  rw [hc] at hLs
  simp (maxSteps := 4000000) [hd0, hfr, hout, hcl, hcd, delA_none, a1, a1_n, a1_d, a1_m, a2, a2_n, a2_d, a2_m, eq_true ho]
  refine DrawK.intro 10 [1, 4, 7, 8, 9, 67, 69] rfl (by kernel_rfl) (by decide) ?_
  simp (maxSteps := 4000000) [hd0, hfr, hout, hcl, hcd, delA_none, a1, a1_n, a1_d, a1_m, a2, a2_n, a2_d, a2_m, hjL, hLj, DRow.enc, hcf, DVersion.enc, w2]
  refine LK.intro (m - 1) [1, 4, 7, 8, 9] [] (by omega) (by decide) (by simp (maxSteps := 4000000) [hd0, hfr, hout, hcl, hcd, delA_none, a1, a1_n, a1_d, a1_m, a2, a2_n, a2_d, a2_m]) ⟨j + 1, by omega, by simp [hLs, List.map_set, DRow.enc, DVersion.enc]⟩
end Go.Proofs.YtnlbjfdmjlnlgaaGreat

namespace Go.Proofs.YtnlbjfdmjlnlgaaGreat
open Go Go.Px Go.RowKit Go.Proofs
set_option linter.unnecessarySimpa false
set_option linter.unusedVariables false
set_option linter.unusedSimpArgs false
set_option maxRecDepth 100000
set_option maxHeartbeats 1000000
attribute [-simp] Int.not_le Int.not_lt
theorem comF_le {B : Nat} {x : DEngine} {i : Nat} {t : DTxn} (h : x.le B) : (comF x i t).le B := by
  obtain ⟨⟨b1, b1p⟩, b2, b2p⟩ := h
  have hs : ∀ (u : DTxn), u.undos = [] → ∀ y ∈ x.txns.set i u, DTxn.le B y := fun u hu y hy => by
    rcases List.mem_or_eq_of_mem_set hy with h | rfl
    · exact b1p y h
    · simp [DTxn.le, hu]
  unfold comF
  split
  · exact ⟨⟨by simpa using b1, hs _ rfl⟩, b2, b2p⟩
  · refine ⟨⟨by simpa using b1, hs _ rfl⟩, by simpa using b2, ?_⟩
    intro y hy
    obtain ⟨r, hr, rfl⟩ := List.mem_map.1 hy
    have := b2p r hr
    unfold comRow
    split
    · unfold DRow.le at this ⊢
      have e : (setAt0 r.chain (x.clock + 1)).length = r.chain.length := by unfold setAt0; split <;> simp_all
      simpa [e] using this
    · exact this
theorem badE_le {B : Nat} {c : Int} : (badE c).le B := by simp [badE, DEngineResult.le, DEngine.le]
theorem commitR_le {x : DEngine} {id : Int} (h : x.le 1048576) : (commitR x id).le 1048576 := by
  unfold commitR resF
  split
  · exact badE_le
  · split
    · exact badE_le
    · show DEngine.le 1048576 _
      unfold comR
      simp only
      split
      · exact h
      · split
        · exact h
        · split
          · exact h
          · exact comF_le h
end Go.Proofs.YtnlbjfdmjlnlgaaGreat

namespace Go.Px
open Go.RowKit
set_option linter.unusedVariables false
set_option linter.unusedSimpArgs false
set_option linter.constructorNameAsVariable false

def drawChkF (ops : Array Oper) (m : Nat) : Bool :=
  let an := ancs ops ops.size
  m ≤ ops.size &&
  ((List.range ops.size).all fun i => (deps ops i).all fun d => d < i) &&
  ((List.range m).all fun i => (usAt ops i).all fun j => (List.range m).all fun k => k == i || dstAt ops k != some j || (k < i && (an.getD i []).contains k)) &&
  ((List.range m).all fun i => (List.range m).all fun k => k == i || dstAt ops k != dstAt ops i) &&
  ((List.range ops.size).all fun i => i < m || (List.range i).all fun k => k == 0 || (an.getD i []).contains k)
structure DrawOkF (ops : Array Oper) (m : Nat) : Prop where
  le : m ≤ ops.size
  dep : ∀ i, i < ops.size → ∀ d ∈ deps ops i, d < i
  use : ∀ i, i < m → ∀ j ∈ usAt ops i, ∀ k, k < m → k ≠ i → dstAt ops k = some j → k < i ∧ k ∈ (ancs ops ops.size).getD i []
  dst : ∀ i, i < m → ∀ k, k < m → k ≠ i → dstAt ops k ≠ dstAt ops i
  tail : ∀ i, i < ops.size → m ≤ i → ∀ k, k < i → k = 0 ∨ k ∈ (ancs ops ops.size).getD i []
theorem drawChkF_ok {ops m} (h : drawChkF ops m = true) : DrawOkF ops m := by
  simp only [drawChkF, Bool.and_eq_true, decide_eq_true_eq, List.all_eq_true, List.mem_range, Bool.or_eq_true, beq_iff_eq, bne_iff_ne, List.contains_iff_mem] at h
  obtain ⟨⟨⟨⟨h1, h2⟩, h3⟩, h4⟩, h5⟩ := h
  refine ⟨h1, fun i hi d hd => h2 i hi d hd, fun i hi j hj k hk hne hd => ?_, fun i hi k hk hne hd => ?_, fun i hi hm k hk => ?_⟩
  · rcases h3 i hi j hj k hk with (h | h) | h
    · exact absurd h hne
    · exact absurd hd h
    · exact h
  · rcases h4 i hi k hk with h | h
    · exact absurd h hne
    · exact h hd
  · rcases h5 i hi with h | h
    · omega
    · exact h k hk
/-- all that does not wait for operation 0 is apart from it -/
def freeAt0 (ops : Array Oper) (o0 : Oper) : Bool := (List.range ops.size).all fun j => j == 0 || (deps ops j).contains 0 || (match ops[j]? with | some o => o0.apart ops o | none => true)
theorem freeAt0_ok {ops o0} (h : freeAt0 ops o0 = true) (j : Nat) (oj : Oper) (hoj : ops[j]? = some oj) (hne : j ≠ 0) (hno : ∀ e ∈ oj.after, Region.binds .any e = true → e.on ≠ 0) : o0.apart ops oj = true := by
  simp only [freeAt0, List.all_eq_true, List.mem_range, Bool.or_eq_true, beq_iff_eq, List.contains_iff_mem] at h
  have hj : j < ops.size := (Array.getElem?_eq_some_iff.1 hoj).1
  rcases h j hj with (h | h) | h
  · exact absurd h hne
  · exfalso
    unfold deps at h
    rw [hoj] at h
    obtain ⟨e, he, h0⟩ := List.mem_map.1 h
    obtain ⟨he1, he2⟩ := List.mem_filter.1 he
    exact hno e (by simpa using he1) he2 h0
  · rw [hoj] at h; exact h
/-- The tail: one behind the other. -/
theorem tail_anyF {P : Program} {ops : Array Oper} {m : Nat} {Q : Exit → Act → World → Prop} (hdep : ∀ i, i < ops.size → ∀ d ∈ deps ops i, d < i) (htail : ∀ i, i < ops.size → m ≤ i → ∀ k, k < i → k = 0 ∨ k ∈ (ancs ops ops.size).getD i []) (hm0 : 0 < m) :
    ∀ (r k : Nat) (listed : Array Bool) (fuel : Nat) (a : Act) (w : World), k + r = ops.size → m ≤ k → listed.size = ops.size → Closed ops listed → (∀ i, i < ops.size → (listed.getD i true = true ↔ i < k)) → r ≤ fuel → wpOps P ops Q (List.range' k r) a w → wpAny P .any ops Q fuel listed a w := by
  intro r
  induction r with
  | zero =>
    intro k listed fuel a w hk hm hs hc hl hf h
    have hq : Q .normal a w := by simpa [wpOps] using h
    have hr : Region.ready .any ops listed = [] := by
      apply List.eq_nil_iff_forall_not_mem.2
      intro i hi
      obtain ⟨h1, h2, -⟩ := ready_iff.1 hi
      have := (hl i h1).2 (by omega)
      rw [h2] at this; cases this
    cases fuel with
    | zero => exact ⟨hr, hq⟩
    | succ fuel => exact ⟨fun _ => hq, fun i hi => by rw [hr] at hi; simp at hi⟩
  | succ r ih =>
    intro k listed fuel a w hk hm hs hc hl hf h
    cases fuel with
    | zero => omega
    | succ fuel =>
      have hkn : k < ops.size := by omega
      have hkl : listed.getD k true = false := by
        cases hh : listed.getD k true with
        | false => rfl
        | true => have := (hl k hkn).1 hh; omega
      have hkr : k ∈ Region.ready .any ops listed := ready_iff.2 ⟨hkn, hkl, fun d hd => by
        have hdk := hdep k hkn d hd
        rw [getD_both hs (by omega) false true]
        exact (hl d (by omega)).2 hdk⟩
      have honly : ∀ i ∈ Region.ready .any ops listed, i = k := by
        intro i hi
        obtain ⟨h1, h2, h3⟩ := ready_iff.1 hi
        apply Classical.byContradiction
        intro hne
        have hge : ¬ i < k := fun hlt => by have := (hl i h1).2 hlt; rw [h2] at this; cases this
        have hki : k < i := by omega
        have := closed_anc hs hc ops.size i h1 h1 h3 k ((htail i h1 (by omega) k hki).resolve_left (by omega))
        rw [getD_both hs (by omega) false true, hkl] at this
        cases this
      refine ⟨fun h0 => by rw [h0] at hkr; simp at hkr, fun i hi => ?_⟩
      rw [honly i hi]
      have h' : wpOp P ops Q k (wpOps P ops Q (List.range' (k + 1) r)) a w := by
        rw [← wpOps_cons]
        simpa [List.range'_succ] using h
      refine wpOp_mono (fun a' w' h2 => ih (k + 1) _ fuel a' w' (by omega) (by omega) (by simp [hs]) ?_ ?_ (by omega) h2) h'
      · intro i hi' hio d hd
        rw [getD_set hs hkn] at hi' ⊢
        by_cases hik : i = k
        · subst hik
          obtain ⟨-, -, h3⟩ := ready_iff.1 hkr
          split
          · rfl
          · exact h3 d hd
        · rw [if_neg hik] at hi'
          split
          · rfl
          · exact hc i hi' hio d hd
      · intro i hio
        rw [getD_set hs hkn]
        by_cases hik : i = k
        · subst hik; simp
        · rw [if_neg hik, hl i hio]; omega
theorem SCode.drawF {cx id ops s K} (m : Nat) (keep : List Nat) (hmx : cx.P.follows .mixedOrders = true) (hm0 : 0 < m) {o0 : Oper} {x0 : Operand} {d0 : Nat} (ho0 : ops[0]? = some o0) (hop0 : o0.op = .move x0) (hg0 : o0.guard = none) (hd0 : o0.dst = some d0) (hfr0 : freeAt0 ops o0 = true) (hns : Region.noSelect ops = true) (hchk : drawChkF ops m = true) (hkeep : keep.Nodup)
    (h : FRun cx ops m s.H m 0 s.t [] (fun val cs => (∀ j ∈ keep, j ∉ cs) ∧ SOps cx ops (List.range' m (ops.size - m)) ⟨live keep val, s.H, s.lg⟩ (K .normal))) : SCode cx (.region id ops true) s K := by
  intro e a w hd hN hr
  have ok := drawChkF_ok hchk
  obtain ⟨xs, csA, csL, hlen, ⟨hkc, htail⟩, -, hrows0⟩ := h.table
  obtain ⟨t0, H, lg⟩ := s
  have hrows : ∀ k, k < m → ∃ dst x, xs[k]? = some (dst, x) ∧ dstAt ops k = some dst ∧ dst < cx.N ∧ FOp cx ops k ((xs.take k).reverse ++ t0) H (usAt ops k) (csL.getD k []) dst x ∧ consChk ops m k (csL.getD k []) = true ∧ ∀ j ∈ csL.getD k [], j ∈ csA := by
    intro k hk
    obtain ⟨dst, x, r⟩ := hrows0 k hk
    have e : 0 + k = k := by omega
    exact ⟨dst, x, r.at_, by rw [← r.dst_, e], r.lt, by have := r.fop; rwa [e] at this, by have := r.chk; rwa [e] at this, r.sub⟩
  -- what stands in the table for a place
  have huniq : ∀ k dst x, k < m → xs[k]? = some (dst, x) → ∀ (k' : Nat) (e' : Nat × T), xs[k']? = some e' → e'.1 = dst → k' = k := by
    intro k dst x hk hx k' e' he' hj'
    apply Classical.byContradiction; intro hne
    have hk' : k' < m := by rw [← hlen]; exact (List.getElem?_eq_some_iff.1 he').1
    obtain ⟨d1, x1, r1, r2, -⟩ := hrows k hk
    obtain ⟨d2, x2, q1, q2, -⟩ := hrows k' hk'
    rw [hx] at r1; cases r1
    rw [he'] at q1; cases q1
    exact ok.dst k hk k' hk' hne (by rw [r2, q2]; simp at hj'; rw [hj'])
  have hnone : ∀ (n j : Nat), n ≤ m → (∀ k, k < n → dstAt ops k ≠ some j) → getT (xs.take n).reverse j = none := by
    intro n j hn hno
    refine getT_none (fun e' he' ej => ?_)
    obtain ⟨k, hk⟩ := List.getElem?_of_mem (List.mem_reverse.1 he')
    rw [List.getElem?_take] at hk
    split at hk
    · rename_i hkn
      obtain ⟨d', x', r1, r2, -⟩ := hrows k (by omega)
      rw [hk] at r1; cases r1
      exact hno k hkn (by rw [r2]; simp at ej; rw [ej])
    · cases hk
  have hsome : ∀ (n k dst : Nat) (x : T), n ≤ m → k < n → xs[k]? = some (dst, x) → getT (xs.take n).reverse dst = some x := by
    intro n k dst x hn hk hx
    refine getT_rev (k := k) (by rw [List.getElem?_take, if_pos hk]; exact hx) (fun k' e' he' hj' => ?_)
    rw [List.getElem?_take] at he'
    split at he'
    · exact huniq k dst x (by omega) hx k' e' he' hj'
    · cases he'
  have hfull : xs.take m = xs := by rw [← hlen, List.take_length]
  let Q : Exit → Act → World → Prop := fun ex a' w' => (∀ c, ex ≠ .panic c) ∧ ∃ s', K ex s' ∧ Rel e s' a' w'
  let I1 : Array Bool → List (Nat × T) → Prop := fun listed t => ∀ k, k < m → listed.getD k true = true → ∀ dst x, xs[k]? = some (dst, x) → (∀ c, c < m → listed.getD c true = true → dst ∉ csL.getD c []) → getT t dst = some x
  let I2 : Array Bool → List (Nat × T) → Prop := fun listed t => ∀ j, (∀ k, k < m → listed.getD k true = true → dstAt ops k ≠ some j) → (∀ c, c < m → listed.getD c true = true → j ∉ csL.getD c []) → getT t j = getT t0 j
  have hend : ∀ (listed : Array Bool) (t : List (Nat × T)) (a : Act) (w : World) (fuel : Nat), listed.size = ops.size → Closed ops listed → (∀ i, m ≤ i → i < ops.size → listed.getD i true = false) → ops.size - m ≤ fuel → (∀ i, i < m → listed.getD i true = true) → Rel e ⟨t, H, lg⟩ a w → I1 listed t → I2 listed t → wpAny cx.P .any ops Q fuel listed a w := by
    intro listed t a w fuel hs hc hl hf hall hr i1 i2
    have hpick : Rel e ⟨live keep (xs.reverse ++ t0), H, lg⟩ a w := hr.pick hkeep (fun j hj => by
      have hcs : ∀ c, c < m → listed.getD c true = true → j ∉ csL.getD c [] := fun c hc' _ hm => by
        obtain ⟨d', x', -, -, -, -, -, hsub⟩ := hrows c hc'
        exact hkc _ hj (hsub _ hm)
      by_cases hex : ∃ k, k < m ∧ dstAt ops k = some j
      · obtain ⟨k, hk, hdk⟩ := hex
        obtain ⟨dst, x, r1, r2, -⟩ := hrows k hk
        rw [hdk] at r2; cases r2
        have := hsome m k j x (Nat.le_refl _) hk r1
        rw [hfull] at this
        rw [i1 k hk (hall k hk) j x r1 hcs, getT_append, this]
        rfl
      · have hno : ∀ k, k < m → dstAt ops k ≠ some j := fun k hk hd => hex ⟨k, hk, hd⟩
        have := hnone m j (Nat.le_refl _) hno
        rw [hfull] at this
        rw [i2 j (fun k hk _ => hno k hk) hcs, getT_append, this]
        rfl)
    refine tail_anyF ok.dep ok.tail hm0 (ops.size - m) m listed fuel a w (by have := ok.le; omega) (Nat.le_refl _) hs hc (fun i hi => ⟨fun h => ?_, fun h => hall i h⟩) hf ?_
    · apply Classical.byContradiction; intro hge
      rw [hl i (by omega) hi] at h; cases h
    · exact htail e a w Q hd hN hpick (fun s' a' w' h1 h2 => ⟨(fun c h => by cases h), s', h1, h2⟩)
  have key : ∀ (fuel : Nat) (listed : Array Bool) (t : List (Nat × T)) (a : Act) (w : World), listed.size = ops.size → Closed ops listed → (∀ i, m ≤ i → i < ops.size → listed.getD i true = false) → unl listed ops.size ≤ fuel → listed.getD 0 true = true → Rel e ⟨t, H, lg⟩ a w →
      I1 listed t → I2 listed t → wpAny cx.P .any ops Q fuel listed a w := by
    intro fuel
    induction fuel with
    | zero =>
      intro listed t a w hs hc hl hu hz hr i1 i2
      have hall := unl_zero (Nat.le_zero.1 hu)
      refine hend listed t a w 0 hs hc hl ?_ (fun i hi => hall i (by have := ok.le; omega)) hr i1 i2
      apply Classical.byContradiction
      intro hne
      have hlt : m < ops.size := by omega
      have := hl m (Nat.le_refl _) hlt
      rw [hall m hlt] at this; cases this
    | succ fuel ih =>
      intro listed t a w hs hc hl hu hz hr i1 i2
      by_cases hall : ∀ i, i < m → listed.getD i true = true
      · refine hend listed t a w (fuel + 1) hs hc hl ?_ hall hr i1 i2
        have := countP_ge (m := m) (n := ops.size) (p := fun i => !listed.getD i true) (fun i h1 h2 => by simp [hl i h1 h2])
        unfold unl at hu
        omega
      · have hready : ∀ i ∈ Region.ready .any ops listed, i < m := by
          intro i hi
          obtain ⟨h1, h2, h3⟩ := ready_iff.1 hi
          apply Classical.byContradiction
          intro hge
          apply hall
          intro k hk
          have hmle := ok.le
          rcases ok.tail i h1 (by omega) k (by omega) with hk0 | hka
          · rw [hk0]; exact hz
          · have := closed_anc hs hc ops.size i h1 h1 h3 k hka
            rw [getD_both hs (by omega) true false]; exact this
        refine ⟨fun h0 => ?_, fun i hi => ?_⟩
        · exfalso
          -- the first that is not listed is ready
          have hmin : ∀ n, n ≤ m → (∀ i, i < n → listed.getD i true = true) ∨ ∃ i, i < n ∧ listed.getD i true = false ∧ ∀ k, k < i → listed.getD k true = true := by
            intro n
            induction n with
            | zero => intro _; left; intro i hi; omega
            | succ n ihn =>
              intro hn
              rcases ihn (by omega) with h | ⟨i, h1, h2, h3⟩
              · cases hln : listed.getD n true with
                | true =>
                  left; intro i hi
                  by_cases hin : i = n
                  · rw [hin, hln]
                  · exact h i (by omega)
                | false => right; exact ⟨n, by omega, hln, h⟩
              · right; exact ⟨i, by omega, h2, h3⟩
          rcases hmin m (Nat.le_refl _) with h | ⟨i, h1, h2, h3⟩
          · exact hall h
          · have hmle := ok.le
            have : i ∈ Region.ready .any ops listed := ready_iff.2 ⟨by omega, h2, fun d hdd => by
              have hdi := ok.dep i (by omega) d hdd
              rw [getD_both hs (by omega) false true]; exact h3 d hdi⟩
            rw [h0] at this; simp at this
        · have him := hready i hi
          obtain ⟨h1, h2, h3⟩ := ready_iff.1 hi
          have hanc := closed_anc hs hc ops.size i h1 h1 h3
          obtain ⟨dst, x, r1, r2, r3, r4, r5, r6⟩ := hrows i him
          have hmle := ok.le
          have hag : Agree t ((xs.take i).reverse ++ t0) (usAt ops i) := by
            intro j hj
            have hcs : ∀ c, c < m → listed.getD c true = true → j ∉ csL.getD c [] := fun c hc' hlc hm => by
              obtain ⟨d', x', -, -, -, -, hchk', -⟩ := hrows c hc'
              have hci : i ≠ c := fun e => by rw [← e, h2] at hlc; cases hlc
              exact consChk_iff hchk' j hm i him hci hj
            by_cases hex : ∃ k, k < m ∧ k ≠ i ∧ dstAt ops k = some j
            · obtain ⟨k, hk, hki, hdk⟩ := hex
              obtain ⟨hlt, hka⟩ := ok.use i him j hj k hk hki hdk
              have hkl := hanc k hka
              rw [getD_both hs (by omega) false true] at hkl
              obtain ⟨d', x', q1, q2, -⟩ := hrows k hk
              rw [hdk] at q2; cases q2
              rw [i1 k hk hkl j x' q1 hcs, getT_append, hsome i k j x' (by omega) hlt q1]
              rfl
            · have hno : ∀ k, k < m → k ≠ i → dstAt ops k ≠ some j := fun k hk hki hd => hex ⟨k, hk, hki, hd⟩
              rw [i2 j (fun k hk hkl => hno k hk (fun e => by rw [e, h2] at hkl; cases hkl)) hcs, getT_append, hnone i j (by omega) (fun k hk => hno k (by omega) (by omega))]
              rfl
          refine r4 e a w t lg _ Q hd hN hag hr (fun a' w' hr' => ?_)
          have hset : ∀ k, (listed.setIfInBounds i true).getD k true = true → k = i ∨ listed.getD k true = true := by
            intro k hk
            rw [getD_set hs h1] at hk
            split at hk
            · left; assumption
            · right; exact hk
          have hset2 : ∀ k, listed.getD k true = true → (listed.setIfInBounds i true).getD k true = true := by
            intro k hk
            rw [getD_set hs h1]
            split
            · rfl
            · exact hk
          have hseti : (listed.setIfInBounds i true).getD i true = true := by rw [getD_set hs h1, if_pos rfl]
          refine ih _ _ a' w' (by simp [hs]) ?_ ?_ ?_ (hset2 0 hz) hr' ?_ ?_
          · intro k hk hko d hdd
            rw [getD_set hs h1] at hk ⊢
            split
            · rfl
            · split at hk
              · rename_i hki; subst hki; exact h3 d hdd
              · exact hc k hk hko d hdd
          · intro k hk hko
            rw [getD_set hs h1, if_neg (by omega)]
            exact hl k hk hko
          · have := unl_set hs h1 h2; omega
          · intro k hk hkl dst' x' hx' hcs
            rcases hset k hkl with rfl | hkl'
            · rw [r1] at hx'; cases hx'
              exact getT_setT_self
            · by_cases hki : k = i
              · subst hki; rw [r1] at hx'; cases hx'; exact getT_setT_self
              · have hne : dst' ≠ dst := fun e' => by
                  obtain ⟨d2, x2, q1, q2, -⟩ := hrows k hk
                  rw [hx'] at q1; cases q1
                  exact ok.dst i him k hk hki (by rw [q2, r2, e'])
                rw [getT_setT_ne hne, getT_delL_ne (hcs i him hseti)]
                exact i1 k hk hkl' dst' x' hx' (fun c hc' hcl => hcs c hc' (hset2 c hcl))
          · intro j hj hcs
            have hne : j ≠ dst := fun e' => hj i him hseti (by rw [r2, e'])
            rw [getT_setT_ne hne, getT_delL_ne (hcs i him hseti)]
            exact i2 j (fun k hk hkl => hj k hk (hset2 k hkl)) (fun c hc' hcl => hcs c hc' (hset2 c hcl))
  obtain ⟨hdf, β, F, G, hx⟩ := hr
  have hfalse : ∀ i, i < ops.size → (Array.replicate ops.size false).getD i true = false := fun i hi => by simp [Array.getD_eq_getD_getElem?, hi]
  have hsz : 0 < ops.size := by have := ok.le; omega
  refine wp_mono (Q := Q) (wp_region_any hmx ?_) (fun ex a w h => h.2)
  have hr0 : Rel e ⟨t0, H, lg⟩ a { w with drawn := w.drawn + 1 } := ⟨hdf, β, F, G, hx.draw⟩
  have hdep0 : deps ops 0 = [] := by
    cases hdp : deps ops 0 with
    | nil => rfl
    | cons a l => have := ok.dep 0 hsz a (by rw [hdp]; simp); omega
  obtain ⟨n, hn⟩ : ∃ n, ops.size = n + 1 := ⟨ops.size - 1, by omega⟩
  have hy : Yields cx.P ops o0 (a.eval x0) a := .inl ⟨by simp [Region.wanted, hg0], fun w => by simp [execOp, hop0, Sem.run, pure]⟩
  have hready0 : 0 ∈ Region.ready .any ops (Array.replicate ops.size false) := ready_iff.2 ⟨hsz, hfalse 0 hsz, fun d hd => by rw [hdep0] at hd; simp at hd⟩
  have hgoal := wpAny_first (P := cx.P) (md := .any) (Q := Q) ho0 (Region.noSelect_spec hns) (fun c a w h => absurd rfl (h.1 c)) n (Array.replicate ops.size false) a { w with drawn := w.drawn + 1 }
    (fun j oj hoj hne _ hno => freeAt0_ok hfr0 j oj hoj hne hno) hready0 hy
  have hgoal2 : wpAny cx.P .any ops Q (n + 1) (Array.replicate ops.size false) a { w with drawn := w.drawn + 1 } := by
    refine hgoal ?_
    obtain ⟨dst, x, r1, r2, r3, r4, r5, r6⟩ := hrows 0 hm0
    have hag : Agree t0 ((xs.take 0).reverse ++ t0) (usAt ops 0) := by simp [Agree]
    have hw := r4 e a _ t0 lg (wpAny cx.P .any ops Q n ((Array.replicate ops.size false).setIfInBounds 0 true)) Q hd hN hag hr0 (fun a' w' hr' => ?_)
    · simp only [wpOp, ho0] at hw
      rw [if_pos (by simp [Region.wanted, hg0])] at hw
      rcases hw with hw | hw
      · simpa [Oper.wp, execOp, hop0, Sem.run, pure, Oper.upon] using hw
      · exfalso
        have := hw.1.1
        have hp : (Sem.pure (Next.value (a.eval x0)) : Sem Next).runT cx.P { w with drawn := w.drawn + 1 } #[] = (.ok (.value (a.eval x0)) { w with drawn := w.drawn + 1 }, #[]) := rfl
        have he : execOp a.eval o0 = Sem.pure (Next.value (a.eval x0)) := by simp [execOp, hop0, pure]
        rw [he, hp] at this
        simp at this
    · have hset : ∀ k, ((Array.replicate ops.size false).setIfInBounds 0 true).getD k true = true → k < ops.size → k = 0 := by
        intro k hk hko
        rw [getD_set (n := ops.size) (by simp) hsz] at hk
        split at hk
        · assumption
        · rw [hfalse k hko] at hk; cases hk
      have hset0 : ((Array.replicate ops.size false).setIfInBounds 0 true).getD 0 true = true := by rw [getD_set (n := ops.size) (by simp) hsz, if_pos rfl]
      refine key n _ _ a' w' (by simp) ?_ ?_ ?_ hset0 hr' ?_ ?_
      · intro k hk hko d hdd
        rw [hset k hk hko, hdep0] at hdd
        simp at hdd
      · intro k hk hko
        rw [getD_set (n := ops.size) (by simp) hsz, if_neg (by omega)]
        exact hfalse k hko
      · have h1 := unl_set (n := ops.size) (i := 0) (listed := Array.replicate ops.size false) (by simp) hsz (hfalse 0 hsz)
        have h2 : unl (Array.replicate ops.size false) ops.size ≤ ops.size := by unfold unl; exact Nat.le_trans List.countP_le_length (by simp)
        omega
      · intro k hk hkl dst' x' hx' hcs
        have hk0 := hset k hkl (by have := ok.le; omega)
        subst hk0
        rw [r1] at hx'; cases hx'
        exact getT_setT_self
      · intro j hj hcs
        have hne : j ≠ dst := fun e' => hj 0 hm0 hset0 (by rw [r2, e'])
        rw [getT_setT_ne hne, getT_delL_ne (hcs 0 hm0 hset0)]
  rw [← hn] at hgoal2
  exact hgoal2
def moveAt0 (ops : Array Oper) : Bool := match ops[0]? with
  | some o => (match o.op with | .move _ => true | _ => false) && o.guard.isNone && o.dst.isSome && freeAt0 ops o && Region.noSelect ops
  | none => false
/-- a drawn region that begins with a `move` that not all of the tail waits for: the move is taken first -/
theorem DrawK.introF {cx kv id ops t H lg K} (m : Nat) (keep : List Nat) (hmx : cx.P.follows .mixedOrders = true) (hm0 : 0 < m) (h0 : moveAt0 ops = true) (hchk : drawChkF ops m = true) (hkeep : keep.Nodup)
    (h : FRun' cx ops m H (FTail cx ops m keep H lg (kvK kv K)) m 0 t []) : DrawK cx kv id ops ⟨t, H, lg⟩ K := by
  unfold moveAt0 at h0
  split at h0
  · rename_i o ho
    simp only [Bool.and_eq_true, Option.isNone_iff_eq_none] at h0
    obtain ⟨⟨⟨⟨h1, h2⟩, h3⟩, h4⟩, h5⟩ := h0
    obtain ⟨d0, h3⟩ := Option.isSome_iff_exists.1 h3
    split at h1
    · rename_i x0 hx0
      refine SCode.drawF m keep hmx hm0 ho hx0 h2 h3 h4 h5 hchk hkeep ?_
      refine FRun'.to (FRun'.mono (fun val cs hv => ?_) h)
      exact ⟨hv.1, SOps.mono (POps.sound hv.2) fun s' hs => by
        refine SOps.ghost (Ghost.keep (fun e => kv.contains e.1)) (SOps.nil ?_)
        rw [← keepV_filter]; exact hs⟩
    · cases h1
  · cases h0
end Go.Px

namespace Go.Proofs.YtnlbjfdmjlnlgaaGreat
open Go Go.Px Go.RowKit Go.Proofs
set_option linter.unnecessarySimpa false
set_option linter.unusedVariables false
set_option linter.unusedSimpArgs false
set_option maxRecDepth 100000
set_option maxHeartbeats 1000000
attribute [-simp] Int.not_le Int.not_lt
def beginF (x : DEngine) : DEngine := { x with next := x.next + 1, txns := x.txns ++ [⟨x.next, x.clock, 1, 0, []⟩] }
def beginC (x : DEngine) : Int := if x.txns.length = 20 ∨ x.next = 999 then 2 else 0
def beginY (x : DEngine) : Int × DEngine := if x.txns.length = 20 ∨ x.next = 999 then (0, x) else (x.next, beginF x)
theorem engF_len {x : DEngine} (h : engF x = 0) : x.txns.length ≤ 20 := by
  unfold engF at h
  split at h
  · omega
  · split at h
    · omega
    · omega
def beginR (x : DEngine) : DEngineResult := resF x (beginY x).2 (beginY x).1 (beginC x)
set_option maxHeartbeats 4000000 in
theorem spec_BeginTxn (H : HH) {r1 q1 r2 q2} {x : DEngine} (hl : x.le 1048576) (a1 : arrAt H r1 q1 = some (5, x.txns.map DTxn.enc)) (a2 : arrAt H r2 q2 = some (2, x.rows.map DRow.enc)) :
    PFun Tryz.prog 221 [.a (eRow x r1 q1 r2 q2)] H (.a (beginR x).enc) := by
  refine PFun.of [1, 2, 3, 4, 7, 18] Tryz.func221 rfl (by simp [Tryz.f221]) ?_
  intro d hd0 hfr hcl hout
  have hcd : ∀ n q, CleanH (hit [((d, n), q)]) H := fun n q => hcl.at
  have a1_n : ∀ n, ¬ (d, n) = r1 := fun n => nm_ne (ne_of_arr hfr a1)
  have a1_d : ¬ r1.1 = d := ne_of_arr hfr a1
  have a1_m : ∀ n, ¬ r1 = (d, n) := fun n => nm_ne' (ne_of_arr hfr a1)
  have a2_n : ∀ n, ¬ (d, n) = r2 := fun n => nm_ne (ne_of_arr hfr a2)
  have a2_d : ¬ r2.1 = d := ne_of_arr hfr a2
  have a2_m : ∀ n, ¬ r2 = (d, n) := fun n => nm_ne' (ne_of_arr hfr a2)
  simp (maxSteps := 4000000) [hd0, hfr, hout, hcl, hcd, delA_none, a1, a1_n, a1_d, a1_m, a2, a2_n, a2_d, a2_m, Tryz.f221, eRow]
  refine (spec_l6Fault _ (x := x) (r1 := r1) (q1 := q1) (r2 := r2) (q2 := q2) hl (by simp (maxSteps := 4000000) [hd0, hfr, hout, hcl, hcd, delA_none, a1, a1_n, a1_d, a1_m, a2, a2_n, a2_d, a2_m, eRow]) (by simp (maxSteps := 4000000) [hd0, hfr, hout, hcl, hcd, delA_none, a1, a1_n, a1_d, a1_m, a2, a2_n, a2_d, a2_m]) (by simp (maxSteps := 4000000) [hd0, hfr, hout, hcl, hcd, delA_none, a1, a1_n, a1_d, a1_m, a2, a2_n, a2_d, a2_m])).useCK ?_
  by_cases e0 : engF x = 0
  case neg =>
    have hR : beginR x = badE (engF x) := by unfold beginR resF; rw [if_pos e0]
    rw [hR]
    simp (maxSteps := 4000000) [hd0, hfr, hout, hcl, hcd, delA_none, a1, a1_n, a1_d, a1_m, a2, a2_n, a2_d, a2_m, eq_false e0]
    refine (spec_l6Bad _).useCK ?_
    simp (maxSteps := 4000000) [hd0, hfr, hout, hcl, hcd, delA_none, a1, a1_n, a1_d, a1_m, a2, a2_n, a2_d, a2_m, badE, DEngineResult.enc]
  have hlen := engF_len e0
  have hx := engF_clock e0
  rw [e0]
  by_cases e1 : x.txns.length = 20
  · have hR : beginR x = badE 2 := by unfold beginR resF beginC; rw [if_neg (by simp [e0]), if_pos (Or.inl e1)]; rfl
    rw [hR]
    simp (maxSteps := 4000000) [hd0, hfr, hout, hcl, hcd, delA_none, a1, a1_n, a1_d, a1_m, a2, a2_n, a2_d, a2_m, eq_true (show (20 : Int) ≤ (x.txns.length : Int) by omega)]
    refine (spec_l6Bad _).useCK ?_
    simp (maxSteps := 4000000) [hd0, hfr, hout, hcl, hcd, delA_none, a1, a1_n, a1_d, a1_m, a2, a2_n, a2_d, a2_m, badE, DEngineResult.enc]
  by_cases e2 : x.next = 999
  · have hR : beginR x = badE 2 := by unfold beginR resF beginC; rw [if_neg (by simp [e0]), if_pos (Or.inr e2)]; rfl
    rw [hR]
    simp (maxSteps := 4000000) [hd0, hfr, hout, hcl, hcd, delA_none, a1, a1_n, a1_d, a1_m, a2, a2_n, a2_d, a2_m, eq_false (show ¬ (20 : Int) ≤ (x.txns.length : Int) by omega), e2]
    refine (spec_l6Bad _).useCK ?_
    simp (maxSteps := 4000000) [hd0, hfr, hout, hcl, hcd, delA_none, a1, a1_n, a1_d, a1_m, a2, a2_n, a2_d, a2_m, badE, DEngineResult.enc]
  have hR : beginR x = ⟨0, x.next, beginF x⟩ := by unfold beginR resF beginC beginY; rw [if_neg (by simp [e0]), if_neg (by omega), if_neg (by omega)]
  rw [hR]
  have w1 : IntKind.i64.wrap (x.next + 1) = x.next + 1 := w64 (by omega) (by omega)
  simp (maxSteps := 4000000) [hd0, hfr, hout, hcl, hcd, delA_none, a1, a1_n, a1_d, a1_m, a2, a2_n, a2_d, a2_m, eq_false (show ¬ (20 : Int) ≤ (x.txns.length : Int) by omega), eq_false e2]
  refine (spec_l6Copy _ (x := x) (r1 := r1) (q1 := q1) (r2 := r2) (q2 := q2) hl (by simp (maxSteps := 4000000) [hd0, hfr, hout, hcl, hcd, delA_none, a1, a1_n, a1_d, a1_m, a2, a2_n, a2_d, a2_m]) (by simp (maxSteps := 4000000) [hd0, hfr, hout, hcl, hcd, delA_none, a1, a1_n, a1_d, a1_m, a2, a2_n, a2_d, a2_m])).useCK ?_
  simp (maxSteps := 4000000) [hd0, hfr, hout, hcl, hcd, delA_none, a1, a1_n, a1_d, a1_m, a2, a2_n, a2_d, a2_m, DEngine.enc, beginF, w1, DEngineResult.enc]
  exact ⟨by omega, rfl⟩
theorem beginR_le {x : DEngine} (h : x.le 1048576) : (beginR x).le 1048576 := by
  unfold beginR resF
  split
  · exact badE_le
  · rename_i he
    split
    · exact badE_le
    · show DEngine.le 1048576 _
      unfold beginY
      split
      · exact h
      · obtain ⟨⟨b1, b1p⟩, b2, b2p⟩ := h
        have := engF_len (x := x) (by simpa using he)
        refine ⟨⟨by simp [beginF]; omega, fun y hy => ?_⟩, b2, b2p⟩
        simp only [beginF, List.mem_append, List.mem_singleton] at hy
        rcases hy with hy | rfl
        · exact b1p y hy
        · simp [DTxn.le]
end Go.Proofs.YtnlbjfdmjlnlgaaGreat

namespace Go.Px
open Go.RowKit
set_option linter.unnecessarySimpa false
set_option linter.unusedVariables false
set_option linter.unusedSimpArgs false
set_option linter.constructorNameAsVariable false

/-- rows of cells, and the values of each -/
inductive RRep (R : Cell → Value → Prop) (w : World) : List (List Cell) → List (List Value) → List Nat → Prop
  | nil : RRep R w [] [] []
  | cons {row vs F rows vss G} : VRep R w row vs F → RRep R w rows vss G → RRep R w (row :: rows) (vs :: vss) (F ++ G)
theorem RRep.flat {R w} : ∀ {rows vss F}, RRep R w rows vss F → VRep R w rows.flatten vss.flatten F
  | _, _, _, .nil => .nil
  | _, _, _, .cons h t => by simpa using h.append t.flat
theorem RRep.of {R w z} : ∀ {rows vs F}, VRep R w rows.flatten vs F → (∀ row ∈ rows, row.length = z) → ∃ vss, vs = vss.flatten ∧ RRep R w rows vss F
  | [], vs, F, h, _ => by
    simp only [List.flatten_nil] at h
    cases h
    exact ⟨[], rfl, .nil⟩
  | row :: rows, vs, F, h, hz => by
    obtain ⟨F1, F2, rfl, h1, h2⟩ := h.take_drop row.length
    simp only [List.flatten_cons, List.take_left, List.drop_left] at h1 h2
    obtain ⟨vss, e, h3⟩ := RRep.of h2 (fun r hr => hz r (by simp [hr]))
    exact ⟨vs.take row.length :: vss, by rw [List.flatten_cons, ← e, List.take_append_drop], .cons h1 h3⟩
/-- of a row those that a mask names -/
def sel {α : Type} : List Bool → List α → List α
  | true :: m, x :: l => x :: sel m l
  | false :: m, _ :: l => sel m l
  | _, _ => []
theorem sel_nil {α : Type} (m : List Bool) : sel m ([] : List α) = [] := by cases m with | nil => rfl | cons b m => cases b <;> rfl
theorem sel_map {α β : Type} (f : α → β) : ∀ (m : List Bool) (l : List α), sel m (l.map f) = (sel m l).map f
  | [], l => by cases l <;> rfl
  | b :: m, [] => by cases b <;> rfl
  | true :: m, x :: l => by simp [sel, sel_map f m l]
  | false :: m, x :: l => by simp [sel, sel_map f m l]
theorem sel_filter {α : Type} (p : α → Bool) : ∀ (l : List α), sel (l.map p) l = l.filter p
  | [] => rfl
  | x :: l => by cases h : p x <;> simp [sel, h, sel_filter p l]
theorem sel_mem {α : Type} : ∀ {m : List Bool} {l : List α} {x}, x ∈ sel m l → x ∈ l
  | [], l, x, h => by cases l <;> simp [sel] at h
  | b :: m, [], x, h => by cases b <;> simp [sel] at h
  | true :: m, y :: l, x, h => by
    simp only [sel, List.mem_cons] at h ⊢
    exact h.imp id sel_mem
  | false :: m, y :: l, x, h => by
    simp only [sel] at h
    exact List.mem_cons_of_mem _ (sel_mem h)
theorem sel_len {α β : Type} : ∀ {m : List Bool} {l : List α} {l' : List β}, l.length = l'.length → (sel m l).length = (sel m l').length
  | [], l, l', h => by cases l <;> cases l' <;> simp [sel]
  | b :: m, [], l', h => by
    have : l' = [] := List.length_eq_zero_iff.1 (by simpa using h.symm)
    rw [this, sel_nil, sel_nil]; rfl
  | b :: m, x :: l, [], h => by simp at h
  | true :: m, x :: l, y :: l', h => by simp [sel, sel_len (m := m) (l := l) (l' := l') (by simpa using h)]
  | false :: m, x :: l, y :: l', h => by simp [sel, sel_len (m := m) (l := l) (l' := l') (by simpa using h)]
theorem RRep.sel {R w} : ∀ {rows vss F} (m : List Bool), RRep R w rows vss F → ∃ F', RRep R w (sel m rows) (sel m vss) F' ∧ F'.Sublist F
  | _, _, _, m, .nil => ⟨[], by rw [sel_nil, sel_nil]; exact .nil, List.Sublist.refl _⟩
  | _, _, _, [], .cons h t => ⟨[], .nil, List.nil_sublist _⟩
  | _, _, _, true :: m, .cons h t => by
    obtain ⟨F', h1, h2⟩ := RRep.sel m t
    exact ⟨_, .cons h h1, List.Sublist.append (.refl _) h2⟩
  | _, _, _, false :: m, .cons h t => by
    obtain ⟨F', h1, h2⟩ := RRep.sel m t
    exact ⟨F', h1, h2.trans (List.sublist_append_right _ _)⟩
theorem RRep.mono {R R' : Cell → Value → Prop} {w w' : World} {K : Cell → Prop} : ∀ {rows vss F}, RRep R w rows vss F → (∀ row ∈ rows, cells1 K row) →
    (∀ c x, isRef c = true → ¬ K c → R c x → R' c x) → (∀ b ∈ F, w'.heap[b]? = w.heap[b]?) → RRep R' w' rows vss F
  | _, _, _, .nil, _, _, _ => .nil
  | _, _, _, .cons h t, hc, hR, hw => .cons (h.mono (hc _ (by simp)) hR (fun b hb => hw b (by simp [hb]))) (RRep.mono t (fun r hr => hc r (by simp [hr])) hR (fun b hb => hw b (by simp [hb])))
theorem RRep.length {R w} : ∀ {rows vss F}, RRep R w rows vss F → vss.length = rows.length
  | _, _, _, .nil => rfl
  | _, _, _, .cons h t => by simp [RRep.length t]
theorem RRep.block {R w} : ∀ {rows vss F}, RRep R w rows vss F → ∀ b ∈ F, ∃ arr el fr, w.heap[b]? = some (.cells arr el fr)
  | _, _, _, .nil, b, h => by simp at h
  | _, _, _, .cons h t, b, hb => by
    rcases List.mem_append.1 hb with hb | hb
    · exact h.block b hb
    · exact RRep.block t b hb
/-- the values of a row of cells, as far as the cells tell them -/
def LikeR : List Cell → List Value → Prop
  | [], [] => True
  | c :: cs, v :: vs => (flat v = true ∧ ∀ y, c = .v y → v = y) ∧ LikeR cs vs
  | _, _ => False
def Like : List (List Cell) → List (List Value) → Prop
  | [], [] => True
  | r :: rs, v :: vs => LikeR r v ∧ Like rs vs
  | _, _ => False
theorem VRep.like {R w} : ∀ {l vs F}, VRep R w l vs F → LikeR l vs
  | _, _, _, .nil => trivial
  | _, _, _, .cons hr ht => ⟨⟨hr.flat, fun y e => by
      subst e
      cases hr with
      | v => rfl
      | ref hi => simp [isRef] at hi⟩, ht.like⟩
theorem RRep.rows {R w z} : ∀ {rows vss F}, RRep R w rows vss F → (∀ v ∈ vss, v.length = z) → ∀ r ∈ rows, r.length = z
  | _, _, _, .nil, _, r, h => by simp at h
  | _, _, _, .cons h t, hz, r, hr => by
    rcases List.mem_cons.1 hr with rfl | hr
    · rw [← h.length]; exact hz _ (by simp)
    · exact RRep.rows t (fun v hv => hz v (by simp [hv])) r hr
theorem RRep.like {R w} : ∀ {rows vss F}, RRep R w rows vss F → Like rows vss
  | _, _, _, .nil => trivial
  | _, _, _, .cons h t => ⟨h.like, t.like⟩
/-- the values, as cells -/
def rawR (vss : List (List Value)) : List (List Cell) := vss.map (·.map Cell.v)
theorem LikeR.flat : ∀ {l vs}, LikeR l vs → ∀ v ∈ vs, flat v = true
  | [], [], _, v, h => by simp at h
  | [], _ :: _, h, _, _ => h.elim
  | _ :: _, [], h, _, _ => h.elim
  | c :: cs, x :: vs, h, v, hv => by
    rcases List.mem_cons.1 hv with rfl | hv
    · exact h.1.1
    · exact LikeR.flat h.2 v hv
theorem Like.flat : ∀ {l vs}, Like l vs → ∀ r ∈ vs, ∀ v ∈ r, flat v = true
  | [], [], _, v, h => by simp at h
  | [], _ :: _, h, _, _ => h.elim
  | _ :: _, [], h, _, _ => h.elim
  | c :: cs, x :: vs, h, v, hv => by
    rcases List.mem_cons.1 hv with rfl | hv
    · exact h.1.flat
    · exact Like.flat h.2 v hv
theorem LikeR.length : ∀ {l vs}, LikeR l vs → vs.length = l.length
  | [], [], _ => rfl
  | [], _ :: _, h => h.elim
  | _ :: _, [], h => h.elim
  | c :: cs, x :: vs, h => by simp [LikeR.length h.2]
theorem Like.rows : ∀ {l vs}, Like l vs → ∀ {z}, (∀ r ∈ l, r.length = z) → ∀ r ∈ vs, r.length = z
  | [], [], _, z, _, v, h => by simp at h
  | [], _ :: _, h, _, _, _, _ => h.elim
  | _ :: _, [], h, _, _, _, _ => h.elim
  | c :: cs, x :: vs, h, z, hz, v, hv => by
    rcases List.mem_cons.1 hv with rfl | hv
    · rw [h.1.length]; exact hz c (by simp)
    · exact Like.rows h.2 (fun r hr => hz r (by simp [hr])) v hv
theorem Like.length : ∀ {l vs}, Like l vs → vs.length = l.length
  | [], [], _ => rfl
  | [], _ :: _, h => h.elim
  | _ :: _, [], h => h.elim
  | c :: cs, x :: vs, h => by simp [Like.length h.2]
theorem raw_vrep {R : Cell → Value → Prop} {w : World} : ∀ {vs : List Value}, (∀ v ∈ vs, flat v = true) → VRep R w (vs.map Cell.v) vs []
  | [], _ => .nil
  | v :: vs, h => VRep.cons (F := []) (.v v (h v (by simp))) (raw_vrep (fun x hx => h x (by simp [hx])))
theorem rawR_flat (vss : List (List Value)) : (rawR vss).flatten = vss.flatten.map Cell.v := by simp [rawR, List.map_flatten]
theorem rawR_len (vss : List (List Value)) : (rawR vss).length = vss.length := by simp [rawR]
theorem raw_inv {R : Cell → Value → Prop} {w : World} : ∀ {vs : List Value} {xs F}, VRep R w (vs.map Cell.v) xs F → xs = vs ∧ F = []
  | [], _, _, .nil => ⟨rfl, rfl⟩
  | v :: vs, _, _, .cons hr ht => by
    obtain ⟨rfl, rfl⟩ := raw_inv ht
    cases hr with
    | v => exact ⟨rfl, rfl⟩
    | ref hi => simp [isRef] at hi
theorem cells_of {arr : Array Value} {off : Nat} {vs : List Value} (h : ∀ (j : Nat) u, vs[j]? = some u → arr[off + j]? = some u) {w : World} {b el fr} (hb : w.heap[b]? = some (.cells arr el fr)) : ∀ j v, vs[j]? = some v → w.cell? ⟨b, off + j, none⟩ = some v := by
  intro j v hj
  simp [World.cell?, hb]; exact h j v hj
/-- An array, and what its cells own laid aside. -/
theorem Rep.raw {R w z els x F0} (h : Rep R w (.own z els) x F0) : ∃ vss Fb Fi, F0 = Fb ++ Fi ∧ (∀ R' : Cell → Value → Prop, Rep R' w (.own z (rawR vss)) x Fb) ∧ RRep R w els vss Fi := by
  rcases own_inv h with ⟨rfl, rfl, A, rfl⟩ | ⟨b, off, cap, arr, el, F1, vs, fr, rfl, rfl, hz, ⟨hb, hfr⟩, hrow, hcap, hsize, hvr, hcells⟩
  · exact ⟨[], [], [], rfl, fun R' => .nil _ _, .nil⟩
  · obtain ⟨vss, rfl, hrr⟩ := RRep.of hvr hrow
    refine ⟨vss, [b], F1, rfl, fun R' => ?_, hrr⟩
    have hl := hrr.length
    have hv : VRep R' w (rawR vss).flatten vss.flatten [] := by rw [rawR_flat]; exact raw_vrep hvr.flat
    have := Rep.own (R := R') (els := rawR vss) hz hb hfr (fun r hr => by
      obtain ⟨v, hv, rfl⟩ := List.mem_map.1 hr
      rw [List.length_map]
      exact hrr.like.rows hrow v hv) (by rw [rawR_len, hl]; exact hcap) hsize (hv.at (cells_of hcells hb))
    rw [rawR_len, hl] at this
    exact this
/-- And back: what is laid aside for the cells goes into them again. -/
theorem Rep.unraw {R w z rows ws zr x F Fi} (h : Rep R w (.own z (rawR ws ++ zr)) x F) (hr : RRep R w rows ws Fi) : ∃ F', Rep R w (.own z (rows ++ zr)) x F' ∧ F'.Perm (F ++ Fi) := by
  have hl := hr.length
  rcases own_inv h with ⟨e, rfl, A, rfl⟩ | ⟨b, off, cap, arr, el, F1, vs, fr, rfl, rfl, hz, ⟨hb, hfr⟩, hrow, hcap, hsize, hvr, hcells⟩
  · obtain ⟨e1, rfl⟩ := List.append_eq_nil_iff.1 e
    have : ws = [] := by cases ws with | nil => rfl | cons a l => simp [rawR] at e1
    subst this
    cases hr
    exact ⟨[], .nil _ _, by simp⟩
  · have hlen : (rawR ws).flatten.length = ws.flatten.length := by rw [rawR_flat, List.length_map]
    rw [List.flatten_append] at hvr
    obtain ⟨Fa, Fz, rfl, h1, h2⟩ := hvr.take_drop (rawR ws).flatten.length
    rw [List.take_left] at h1
    rw [List.drop_left] at h2
    generalize hL : (rawR ws).flatten.length = L at h1 h2
    rw [rawR_flat] at h1
    obtain ⟨e1, rfl⟩ := raw_inv h1
    have hall := hr.flat.append h2
    rw [← e1, List.take_append_drop, ← List.flatten_append] at hall
    have hz1 : ∀ r ∈ rows, r.length = z := hr.rows (fun v hv => by
      have := hrow (v.map Cell.v) (List.mem_append.2 (.inl (List.mem_map.2 ⟨v, hv, rfl⟩)))
      simpa using this)
    have hrl : (rawR ws ++ zr).length = (rows ++ zr).length := by simp [rawR_len, hl]
    have := Rep.own (els := rows ++ zr) hz hb hfr (fun r hr => by
      rcases List.mem_append.1 hr with h | h
      · exact hz1 r h
      · exact hrow r (List.mem_append.2 (.inr h))) (by rw [← hrl]; exact hcap) hsize (hall.at (cells_of hcells hb))
    rw [← hrl] at this
    refine ⟨_, this, ?_⟩
    simp only [List.nil_append, List.cons_append]
    exact List.Perm.cons b List.perm_append_comm
theorem hdr_set {w : World} {c1 : Cell} : ∀ {P : Path} {c : Cell} {v : Value} {c0 : Cell}, c.get P = some c0 → hdr w P (Cell.set c1 P c) v = hdr w P c v
  | [], c, v, c0, h => by simp [hdr]
  | (i, f) :: p, c, v, c0, h => by
    obtain ⟨z, els, row, c', rfl, hi, hf, hg⟩ := get_own h
    have h1 := (List.getElem?_eq_some_iff.1 hi).1
    have h2 := (List.getElem?_eq_some_iff.1 hf).1
    have hset : Cell.set c1 ((i, f) :: p) (.own z els) = .own z (els.set i (row.set f (Cell.set c1 p c'))) := by simp only [Cell.set, hi, hf]
    rw [hset]
    cases v with
    | slice a n cap =>
      cases a with
      | none => rfl
      | some a =>
        simp only [hdr, List.getElem?_set_self h1, Option.bind_some, List.getElem?_set_self h2, hi, hf]
        cases w.cell? ⟨a.block, a.off + i * z + f, none⟩ with
        | none => rfl
        | some x => exact hdr_set hg
    | _ => rfl
theorem hit_below {lg : List (Nm × Path)} {r : Nm} {q : Path} (hlg : ∀ e ∈ lg, e.1 = r ∧ q <+: e.2) {y} (h : ¬ hit1 [(r, q)] y) : ¬ hit1 lg y := by
  intro hh
  apply h
  cases y with
  | sl r' q' z i n =>
    obtain ⟨e, he, h1, h2⟩ := hh
    obtain ⟨e1, e2⟩ := hlg e he
    exact ⟨(r, q), by simp, e1.symm.trans h1, e2.trans h2⟩
  | pt r' q' z i n =>
    obtain ⟨e, he, h1, h2⟩ := hh
    obtain ⟨e1, e2⟩ := hlg e he
    exact ⟨(r, q), by simp, e1.symm.trans h1, e2.trans h2⟩
  | _ => exact hh.elim
/-- A call that hands back a stretch of the array at a place, and left that array with other elements. -/
def PArr (P : Program) (f : FuncId) (args : List T) (H : HH) (r : Nm) (q : Path) (z n : Nat) (els' : List (List Cell)) : Prop :=
  PCalls P f args H (fun T H1 lg => T = .c (.sl r q z 0 n) ∧ H1 = setA H r q (.own z els') ∧ ∀ e ∈ lg, e.1 = r ∧ q <+: e.2)
/-- entry, for code that is looked at by PCode -/
theorem PArr.of {P : Program} {f : FuncId} {fn : Func} {c : Code} {args : List T} {H : HH} {r q z n els'} (kv : List Nat) (hf : P.funcs[f]? = some fn) (hb : fn.body = some c) (hN : args.length ≤ fn.ntmps)
    (h : ∀ d, d ≠ 0 → (∀ n, look H (d, n) = none) → CleanH (atD d) H → outH d H = H → PCode ⟨P, d, fn.ntmps⟩ kv c { t := enumT 0 args, H := H, lg := [] } (retK P d fn.results.toList (fun T H1 lg => T = .c (.sl r q z 0 n) ∧ H1 = setA H r q (.own z els') ∧ ∀ e ∈ lg, e.1 = r ∧ q <+: e.2))) : PArr P f args H r q z n els' := by
  refine PCalls.of_code hf hb hN (fun d hd hfr hcl => PCode.sound (h d hd (fun n => ?_) hcl ?_))
  · cases hl : look H (d, n) with
    | none => rfl
    | some c => exact absurd rfl (hfr _ (look_mem hl))
  · unfold outH
    rw [List.filter_eq_self]
    intro e he
    simpa using hfr e he
theorem PArr.one {P f args H r q z n els'} (h : PArr P f args H r q z n els') : PCalls P f args H (fun T H1 lg => T = .c (.sl r q z 0 n) ∧ H1 = setA H r q (.own z els') ∧ lg = [(r, q)]) := by
  intro g w β F FA vs h1 h2 h3 h4 h5
  refine (h g w β F FA vs h1 h2 h3 h4 h5).mono ?_
  rintro en w' ⟨x, T, H', lg, F', FT, rfl, ⟨rfl, rfl, hlg⟩, k1, k2, k3, k4, k5⟩
  exact ⟨x, _, _, [(r, q)], F', FT, rfl, ⟨rfl, rfl, rfl⟩, k1, k2, k3, k4, fun y x hy hv => k5 y x (hit_below hlg hy) hv⟩
theorem PArr.useCK {P f args H r q z n els' d} {KP : St → Prop} {t' o lg0} (h : PArr P f args H r q z n els') (hr : ¬ r.1 = d) (hoc : OcleanT (hit [(r, q)]) t') (hq : KP ⟨putD (t'.filter (fun en => en.2.keep r q)) o (.c (.sl r q z 0 n)), setA H r q (.own z els'), (r, q) :: lg0⟩) : PCalls P f args H (CK d KP t' o lg0) :=
  h.one.mono (by
    rintro T1 H1 lg ⟨rfl, rfl, rfl⟩
    rw [CK_mk]
    refine ⟨by simpa using hoc, ?_⟩
    have : [(r, q)].filter (fun e => decide (e.1.1 ≠ d)) = [(r, q)] := by simp [hr]
    rw [this]
    simpa [keepL] using hq)
theorem PArr.useCKl {P f args H r q z n els' d} {KP : St → Prop} {t' o lg0} (h : PArr P f args H r q z n els') (hr : r.1 = d) (hoc : OcleanT (hit [(r, q)]) t') (hq : KP ⟨putD (t'.filter (fun en => en.2.keep r q)) o (.c (.sl r q z 0 n)), setA H r q (.own z els'), lg0⟩) : PCalls P f args H (CK d KP t' o lg0) :=
  h.one.mono (by
    rintro T1 H1 lg ⟨rfl, rfl, rfl⟩
    rw [CK_mk]
    refine ⟨by simpa using hoc, ?_⟩
    have : [(r, q)].filter (fun e => decide (e.1.1 ≠ d)) = [] := by simp [hr]
    rw [this, List.nil_append]
    simpa [keepL] using hq)
/-- entry where the third argument is an array that is handed over: it gets a name -/
theorem PUpdB2.of {P : Program} {f : FuncId} {fn : Func} {c : Code} {a0 a1 : T} {z : Nat} {els : List (List Cell)} {H H' : HH} {x : T} {r : Nm} (kv : List Nat) (hf : P.funcs[f]? = some fn) (hb : fn.body = some c) (hN : 3 ≤ fn.ntmps)
    (h : ∀ d, d ≠ 0 → (∀ n, look H (d, n) = none) → CleanH (atD d) H → outH d H = H → PCode ⟨P, d, fn.ntmps⟩ kv c { t := [(2, .c (.sl (d, 2) [] z 0 els.length)), (0, a0), (1, a1)], H := ((d, 2), .own z els) :: H, lg := [] } (retK P d fn.results.toList (fun T H1 lg => T = x ∧ H1 = H' ∧ ∀ e ∈ lg, e.1 = r ∧ ¬ e.2 = []))) : PUpdR P f [a0, a1, .c (.own z els)] H x H' r := by
  refine PCalls.of_code hf hb hN (fun d hd hfr hcl => ?_)
  have hlk : ∀ n, look H (d, n) = none := fun n => by
    cases hl : look H (d, n) with
    | none => rfl
    | some c => exact absurd rfl (hfr _ (look_mem hl))
  have hout : outH d H = H := by
    unfold outH
    rw [List.filter_eq_self]
    intro e he
    simpa using hfr e he
  refine SCode.ghost (fun e a w he hr => ?_) (PCode.sound (h d hd hlk hcl hout))
  have := Rel.bind (i := 2) (z := z) (els := els) hr (by simp [enumT, getT]) (by rw [he]; exact hlk 2)
  simpa [enumT, setT_def, delT_cons, delT_nil, he] using this
/-- A call that moves the elements of an array about may be told of the elements' bare values. -/
theorem PArr.raw {P f r q z els m zr rest n n1} {H : HH} (h0 : r.1 ≠ 0) (hq : q ≠ []) (harr : arrAt H r q = some (z, els)) (hcl : CleanH (hit [(r, q)]) H) (hrest : T.cleans (hit [(r, q)]) rest) (hzr : CleanRows (hit [(r, q)]) zr)
    (h : ∀ vss, Like els vss → PArr P f (.c (.sl r q z 0 n) :: rest) (setA H r q (.own z (rawR vss))) r q z n1 (rawR (sel m vss) ++ zr)) :
    PArr P f (.c (.sl r q z 0 n) :: rest) H r q z n1 (sel m els ++ zr) := by
  intro g w β F FA vs hgl hh ha hn hlow
  obtain ⟨co, hl, hg⟩ := arrAt_iff.1 harr
  obtain ⟨nF, nFA, dFA⟩ := List.nodup_append.1 hn
  obtain ⟨a, x0, F0, G, k1, k2, k3, k4, k5, k6, k7, k8, k9⟩ := hh.write nF (fun b hb => hlow b (by simp [hb])) h0 hl hq hg
  obtain ⟨vss, Fb, Fi, rfl, hraw, hrr⟩ := k6.raw
  have hvl := hrr.length
  have hS : ∀ c, setA H r q c = putH H r (Cell.set c q co) := fun c => by unfold setA; rw [hl]
  have hst := k8 w (.own z (rawR vss)) (fun b _ => But.of_eq rfl) (fun _ _ => rfl)
  obtain ⟨F', p1, p2⟩ := k9 (hit [(r, q)]) w (.own z (rawR vss)) x0 Fb (fun b _ => But.of_eq rfl) (fun _ _ => rfl) k3 (fun en he => by
    rcases mem_putH he with h' | rfl
    · exact hcl en h'
    · exact Clean.setc Clean.hole (hcl _ (look_mem hl))) (VP.map hst) (hraw _)
  have hnp := k7.nodup_iff.1 nF
  obtain ⟨nFbi, nG, dG⟩ := List.nodup_append.1 hnp
  obtain ⟨nFb, nFi, dbi⟩ := List.nodup_append.1 nFbi
  have hF' : ∀ b ∈ F', b ∈ F := fun b hb => k7.symm.subset (by
    rcases List.mem_append.1 (p1.subset hb) with h | h
    · simp [h]
    · simp [h])
  have hFi : ∀ b ∈ Fi, b ∈ F ∧ b ∉ F' ∧ b ∉ FA := fun b hb => by
    have hbF : b ∈ F := k7.symm.subset (by simp [hb])
    refine ⟨hbF, fun hm => ?_, fun hm => dFA b hbF b hm rfl⟩
    rcases List.mem_append.1 (p1.subset hm) with h | h
    · exact dbi b h b hb rfl
    · exact dG b (by simp [hb]) b h rfl
  have nF' : F'.Nodup := p1.nodup_iff.2 (List.nodup_append.2 ⟨nFb, nG, fun x hx y hy => dG x (by simp [hx]) y hy⟩)
  have ha' : TReps (VP w β (setA H r q (.own z (rawR vss)))) w (.c (.sl r q z 0 n) :: rest) vs FA := by
    cases ha with
    | @cons _ v1 Fv _ vs2 Fr h1 h2 =>
      have hFv : Fv = [] := h1.bare rfl
      subst hFv
      refine TReps.cons (F := []) ?_ ?_
      · have hv := trep_ref h1 rfl
        refine .c (.ref rfl ?_ ?_)
        · cases h1 with | c hr => exact hr.flat
        · obtain ⟨c', els', hd, e1, e2, e3, e4, e5⟩ := hv
          rw [hl] at e1; cases e1
          rw [hg] at e2; cases e2
          refine ⟨Cell.set (.own z (rawR vss)) q co, rawR vss, hd, by rw [hS]; exact look_putH_self hl, get_set hg, ?_, by rw [rawR_len, hvl]; exact e4, e5⟩
          rw [hdr_set hg]; exact e3
      · cases (TRep.t h2).mono (R' := VP w β (setA H r q (.own z (rawR vss)))) (w' := w) (K := hit [(r, q)]) hrest (by rw [hS]; exact VP.map hst) (fun _ _ => rfl) with
        | t h => exact h
  rw [← hS] at p2
  refine (h vss hrr.like g w β F' FA vs hgl p2 ha' (List.nodup_append.2 ⟨nF', nFA, fun x hx y hy => dFA x (hF' x hx) y hy⟩) (fun b hb => hlow b (by
    rcases List.mem_append.1 hb with hb | hb
    · simp [hF' b hb]
    · simp [hb]))).mono ?_
  rintro en w' ⟨x, T, H1, lg, F1, FT, rfl, ⟨rfl, rfl, hlg⟩, m1, m2, m3, m4, m5⟩
  have hFT : FT = [] := m2.bare rfl
  subst hFT
  have nF1 : F1.Nodup := by simpa using m3
  have harr1 : arrAt (setA H r q (.own z (rawR vss))) r q = some (z, rawR vss) := arrAt_setA harr
  have hss : ∀ c, setA (setA H r q (.own z (rawR vss))) r q c = setA H r q c := fun c => setA_setA harr
  rw [hss] at m1 m2 m5
  obtain ⟨co1, hl1, hg1⟩ := arrAt_iff.1 (arrAt_setA (z := z) (rows := rawR (sel m vss) ++ zr) harr)
  have hco1 : co1 = Cell.set (.own z (rawR (sel m vss) ++ zr)) q co := by
    rw [hS, look_putH_self hl] at hl1; exact (Option.some.inj hl1).symm
  have low1 : ∀ b ∈ F1, g ≤ b := fun b hb => by
    rcases m4.new b (by simp [hb]) with h' | h'
    · rcases List.mem_append.1 h' with h' | h'
      · exact hlow b (by simp [hF' b h'])
      · exact hlow b (by simp [h'])
    · omega
  obtain ⟨a1, x1, F01, G1, t1, t2, t3, t4, t5, t6, t7, t8, t9⟩ := m1.write nF1 low1 h0 hl1 hq hg1
  have hst1 := t8 w' (.own z (sel m els ++ zr)) (fun b _ => But.of_eq rfl) (fun _ _ => rfl)
  have hS1 : putH (setA H r q (.own z (rawR (sel m vss) ++ zr))) r (Cell.set (.own z (sel m els ++ zr)) q co1) = setA H r q (.own z (sel m els ++ zr)) := by
    rw [hco1, hS, hS, putH_put, set_set hg]
  rw [hS1] at hst1
  have hstab : ∀ y x, ¬ hit1 [(r, q)] y → VP1 w β H y x → VP1 w' β (setA H r q (.own z (sel m els ++ zr))) y x := fun y x hy hv =>
    hst1 y x hy (m5 y x (hit_below hlg hy) (by rw [hS]; exact hst y x hy hv))
  have hcu : CleanRows (hit [(r, q)]) els := by
    have := (hcl _ (look_mem hl)).at hg
    exact Clean_ownR.1 this
  have hcr : Clean (hit [(r, q)]) (.own z (rawR (sel m vss) ++ zr)) := by
    rw [Clean_ownR, CleanRows_append]
    refine ⟨fun row hr => ?_, hzr⟩
    obtain ⟨v, -, rfl⟩ := List.mem_map.1 hr
    intro c hc
    obtain ⟨u, -, rfl⟩ := List.mem_map.1 hc
    exact Clean.v
  have hFis : ∀ b ∈ Fi, w'.heap[b]? = w.heap[b]? := fun b hb => by
    obtain ⟨h1, h2, h3⟩ := hFi b hb
    obtain ⟨arr, el, fr, he⟩ := hrr.block b hb
    exact m4.same b (lt_of_block he) (fun hm => by
      rcases List.mem_append.1 hm with h | h
      · exact h2 h
      · exact h3 h)
  have hrr1 := hrr.mono (R' := VP w' β (setA H r q (.own z (sel m els ++ zr)))) (w' := w') hcu (VP.map hstab) hFis
  obtain ⟨Fs, hrs, hFs⟩ := hrr1.sel m
  have t6' := t6.mono (w' := w') hcr (VP.map hst1) (fun _ _ => rfl)
  obtain ⟨Fn, u1, u2⟩ := Rep.unraw t6' hrs
  obtain ⟨F2, v1, v2⟩ := t9 (hit [(r, q)]) w' (.own z (sel m els ++ zr)) x1 Fn (fun b _ => But.of_eq rfl) (fun _ _ => rfl) t3 (fun en he => by
    rcases mem_putH he with h' | rfl
    · rw [hS] at h'
      rcases mem_putH h' with h' | rfl
      · exact hcl en h'
      · rw [hco1] at *
        exact Clean.setc hcr (hcl _ (look_mem hl))
    · rw [hco1]
      exact Clean.setc Clean.hole (Clean.setc hcr (hcl _ (look_mem hl)))) (by rw [hS1]; exact VP.map hst1) (by rw [hS1]; exact u1)
  rw [hS1] at v2
  have hF2 : F2.Perm (F1 ++ Fs) := by
    refine v1.trans ((List.Perm.append_right G1 u2).trans ?_)
    have e1 : ((F01 ++ Fs) ++ G1).Perm ((F01 ++ G1) ++ Fs) := by
      rw [List.append_assoc, List.append_assoc]
      exact List.Perm.append_left _ List.perm_append_comm
    exact e1.trans (List.Perm.append_right Fs t7.symm)
  have hdis : ∀ x ∈ F1, ∀ y ∈ Fs, x ≠ y := fun x hx y hy e => by
    subst e
    obtain ⟨h1, h2, h3⟩ := hFi x (hFs.subset hy)
    obtain ⟨arr, el, fr, he⟩ := hrr.block x (hFs.subset hy)
    have := lt_of_block he
    rcases m4.new x (by simp [hx]) with h' | h'
    · rcases List.mem_append.1 h' with h' | h'
      · exact h2 h'
      · exact h3 h'
    · omega
  have nF2 : F2.Nodup := hF2.nodup_iff.2 (List.nodup_append.2 ⟨nF1, List.Nodup.sublist hFs nFi, hdis⟩)
  refine ⟨x, .c (.sl r q z 0 n1), _, (r, q) :: lg, F2, [], rfl, ⟨rfl, rfl, fun e he => ?_⟩, v2, ?_, by simpa using nF2, ?_, fun y x hy hv => hstab y x (hit1_cons hy).1 hv⟩
  · rcases List.mem_cons.1 he with rfl | he
    · exact ⟨rfl, List.prefix_refl _⟩
    · exact hlg e he
  · have hv := trep_ref m2 rfl
    refine .c (.ref rfl ?_ ?_)
    · cases m2 with | c hr => exact hr.flat
    · obtain ⟨c', els', hd, e1, e2, e3, e4, e5⟩ := hv
      rw [hl1] at e1; cases e1
      rw [hg1] at e2; cases e2
      refine ⟨Cell.set (.own z (sel m els ++ zr)) q co, sel m els ++ zr, hd, by rw [hS]; exact look_putH_self hl, get_set hg, ?_, ?_, e5⟩
      · rw [hdr_set hg]
        rw [hco1, hdr_set hg] at e3
        exact e3
      · have : (sel m vss).length = (sel m els).length := sel_len hvl
        simp only [List.length_append, rawR_len, this] at e4 ⊢
        exact e4
  · refine ⟨m4.os, m4.tape, m4.output, m4.size, fun b hb hm => m4.same b hb (fun h' => hm ?_), fun b hb => ?_⟩
    · rcases List.mem_append.1 h' with h' | h'
      · simp [hF' b h']
      · simp [h']
    · rw [List.append_nil] at hb
      rcases List.mem_append.1 (hF2.subset hb) with h | h
      · rcases m4.new b (by simp [h]) with h' | h'
        · refine .inl ?_
          rcases List.mem_append.1 h' with h' | h'
          · simp [hF' b h']
          · simp [h']
        · exact .inr h'
      · exact .inl (by simp [(hFi b (hFs.subset h)).1])
end Go.Px

namespace Go.Proofs.YtnlbjfdmjlnlgaaGreat
open Go Go.Px Go.RowKit Go.Proofs
set_option linter.unnecessarySimpa false
set_option linter.unusedVariables false
set_option linter.unusedSimpArgs false
set_option maxRecDepth 100000
set_option maxHeartbeats 1000000
attribute [-simp] Int.not_le Int.not_lt
theorem rawR_rows {vss : List (List Value)} {z : Nat} (h : ∀ v ∈ vss, v.length = z) : ∀ row ∈ rawR vss, row.length = z := by
  intro row hr
  obtain ⟨v, hv, rfl⟩ := List.mem_map.1 hr
  simpa using h v hv
theorem rawR_v {vss : List (List Value)} : ∀ row ∈ rawR vss, ∀ c ∈ row, ∃ x, c = Cell.v x := by
  intro row hr c hc
  obtain ⟨v, hv, rfl⟩ := List.mem_map.1 hr
  obtain ⟨x, hx, rfl⟩ := List.mem_map.1 hc
  exact ⟨x, rfl⟩
theorem rawR_no {vss : List (List Value)} {n i : Nat} : ∀ (k : Nat) row, k < n → (rawR vss)[i + k]? = some row → ∀ c ∈ row, isOwn c = false := by
  intro k row _ hk c hc
  obtain ⟨x, rfl⟩ := rawR_v row (List.mem_of_getElem? hk) c hc
  rfl
theorem rawR_clean {K : Cell → Prop} {vss : List (List Value)} : CleanRows K (rawR vss) := by
  intro row hr c hc
  obtain ⟨x, rfl⟩ := rawR_v row hr c hc
  exact Clean.v
def zRow : List Cell := [.v (.int .i64 0), .own 4 []]
def delW (vss : List (List Value)) (i : Nat) : List (List Value) := vss.take i ++ vss.drop (i + 1) ++ vss.drop (vss.length - 1)
theorem delW_eq {vss : List (List Value)} {i : Nat} (hi : i < vss.length) : List.take i (rawR vss) ++ cutD (i + 1) (vss.length - (i + 1)) (rawR vss) ++ List.drop (vss.length - 1) (rawR vss) = rawR (delW vss i) := by
  rw [cutD_drop (by rw [rawR_len]; omega)]
  simp [delW, rawR]
theorem delW_len {vss : List (List Value)} {i : Nat} (hi : i < vss.length) : (delW vss i).length = vss.length := by simp [delW]; omega
theorem delW_end {vss : List (List Value)} {i : Nat} (hi : i < vss.length) : List.take (vss.length - 1) (rawR (delW vss i)) ++ [zRow] ++ List.drop vss.length (rawR (delW vss i)) = rawR (vss.eraseIdx i) ++ [zRow] := by
  have h1 : List.drop vss.length (rawR (delW vss i)) = [] := List.drop_eq_nil_of_le (by rw [rawR_len, delW_len hi]; omega)
  have h2 : List.take (vss.length - 1) (delW vss i) = vss.eraseIdx i := by
    rw [delW, List.eraseIdx_eq_take_drop_succ, List.take_left' (by simp; omega)]
  rw [h1, List.append_nil]
  unfold rawR
  rw [← List.map_take, h2]
theorem slices_Delete_raw (H : HH) {r q i} {vss : List (List Value)} (h0 : r.1 ≠ 0) (hz : ∀ v ∈ vss, v.length = 2) (hi : i < vss.length) (hb : vss.length ≤ 1048576) (ha : arrAt H r q = some (2, rawR vss)) :
    PArr Tryz.prog 174 [.c (.sl r q 2 0 vss.length), I i, I ((i : Int) + 1)] H r q 2 (vss.length - 1) (rawR (vss.eraseIdx i) ++ [zRow]) := by
  have e1 := delW_eq hi
  have e2 := delW_end hi
  have e3 := delW_len hi
  have hzw : ∀ v ∈ delW vss i, v.length = 2 := fun v hv => by
    simp only [delW, List.mem_append] at hv
    rcases hv with (hv | hv) | hv
    · exact hz v (List.mem_of_mem_take hv)
    · exact hz v (List.mem_of_mem_drop hv)
    · exact hz v (List.mem_of_mem_drop hv)
  have hR := rawR_rows hz
  have hRw := rawR_rows hzw
  have hV : ∀ row ∈ rawR vss, ∀ c ∈ row, ∃ x, c = Cell.v x := rawR_v
  have hNo := fun a b => rawR_no (vss := delW vss i) (i := a) (n := b)
  have hl := rawR_len vss
  have hlw := rawR_len (delW vss i)
  have hK : ∀ K, CleanRows K (rawR (vss.eraseIdx i)) := fun K => rawR_clean
  generalize rawR (vss.eraseIdx i) = E2 at *
  generalize rawR (delW vss i) = E1 at *
  generalize rawR vss = E0 at *
  generalize vss.length = n at *
  have s1 : i + (n - (i + 1)) = n - 1 := by omega
  have s2 : (i : Int) + ((n - (i + 1) : Nat) : Int) = ((n - 1 : Nat) : Int) := by omega
  have s3 : n - (n - 1) = 1 := by omega
  have s4 : n - 1 + 1 = n := by omega
  rw [List.append_assoc] at e1 e2
  have e2' : List.take (n - 1) E1 ++ [.v (.int .i64 0), .own 4 []] :: List.drop (n - 1 + 1) E1 = E2 ++ [zRow] := by rw [s4]; exact e2
  have hE1 : E1.length = n := by rw [hlw]; exact e3
  refine PArr.of [0, 1, 2, 6, 7, 16] Tryz.func174 rfl (by simp [Tryz.f174]) ?_
  intro d hd0 hfr hcl hout
  have hcd : ∀ n q, CleanH (hit [((d, n), q)]) H := fun n q => hcl.at
  have ha_n : ∀ n, ¬ (d, n) = r := fun n => nm_ne (ne_of_arr hfr ha)
  have ha_d : ¬ r.1 = d := ne_of_arr hfr ha
  have ha_m : ∀ n, ¬ r = (d, n) := fun n => nm_ne' (ne_of_arr hfr ha)
  simp (maxSteps := 4000000) [hd0, hfr, hout, hcl, hcd, delA_none, ha, ha_n, ha_d, ha_m, Tryz.f174]
  refine ⟨by omega, fun h => absurd h (by omega), fun _ => ?_⟩
  refine DrawK.intro 6 [7, 22, 25] rfl (by kernel_rfl) (by decide) ?_
  simp (maxSteps := 4000000) [hd0, hfr, hout, hcl, hcd, delA_none, ha, ha_n, ha_d, ha_m, s1, s2, s3, arrAt_setA ha, setA_setA ha, e1, hR, h0, hl, eq_true hV, eq_true hRw, outH_setA hout ha_d, CleanH_setA hcl, hK, Clean.v, e2', hE1, zRow]
  exact ⟨by omega, by omega, ⟨hR, by omega⟩, fun k row hk h c hc => hNo (n - 1) 1 k row (by omega) h c hc⟩
theorem eraseIdx_sel {α : Type} : ∀ (l : List α) (i : Nat), i < l.length → sel (List.replicate i true ++ false :: List.replicate (l.length - (i + 1)) true) l = l.eraseIdx i
  | [], i, h => by simp at h
  | x :: l, 0, h => by
    have : ∀ l : List α, sel (List.replicate l.length true) l = l := by
      intro l; induction l with
      | nil => rfl
      | cons a l ih => simp [List.replicate_succ, sel, ih]
    simp [sel, this]
  | x :: l, i + 1, h => by
    have := eraseIdx_sel l i (by simpa using h)
    simp only [List.replicate_succ, List.cons_append, sel, List.length_cons, List.eraseIdx_cons_succ, Nat.add_sub_add_right]
    rw [this]
theorem zRow_clean {K : Cell → Prop} : CleanRows K [zRow] := by simp [zRow, Clean.v]
theorem slices_Delete_Row (H : HH) {r q i n} {els : List (List Cell)} (h0 : r.1 ≠ 0) (hq : q ≠ []) (hcl : CleanH (hit [(r, q)]) H) (hz : ∀ row ∈ els, row.length = 2) (hn : n = els.length) (hi : i < n) (hb : n ≤ 1048576) (ha : arrAt H r q = some (2, els)) :
    PArr Tryz.prog 174 [.c (.sl r q 2 0 n), I i, I ((i : Int) + 1)] H r q 2 (n - 1) (els.eraseIdx i ++ [zRow]) := by
  subst hn
  rw [← eraseIdx_sel els i hi]
  refine PArr.raw h0 hq ha hcl (by simp [T.cleans, T.clean, Clean.v]) zRow_clean (fun vss hv => ?_)
  have hl := hv.length
  rw [← hl] at hi hb ⊢
  rw [eraseIdx_sel vss i hi]
  exact slices_Delete_raw _ h0 (hv.rows hz) hi hb (arrAt_setA ha)
structure RTxn where
  t : DTxn
  v : Value
def rawT (p : RTxn) : List Value := [.int .i64 p.t.id_, .int .i64 p.t.at_, .int .i64 p.t.state, .int .i64 p.t.done, p.v]
def encT (p : RTxn) : List Cell := [.v (.int .i64 p.t.id_), .v (.int .i64 p.t.at_), .v (.int .i64 p.t.state), .v (.int .i64 p.t.done), .v p.v]
theorem rawR_T (l : List (RTxn)) : rawR (l.map rawT) = l.map encT := by simp [rawR, rawT, encT]
theorem LikeR_cons {c : Cell} {cs : List Cell} {vs : List Value} : LikeR (c :: cs) vs → ∃ v vs', vs = v :: vs' ∧ (∀ y, c = .v y → v = y) ∧ LikeR cs vs' := by
  cases vs with
  | nil => exact fun h => h.elim
  | cons v vs => exact fun h => ⟨v, vs, rfl, h.1.2, h.2⟩
theorem LikeR_nil {vs : List Value} : LikeR [] vs → vs = [] := by
  cases vs with
  | nil => exact fun _ => rfl
  | cons v vs => exact fun h => h.elim
theorem like_txns : ∀ {l : List DTxn} {vss}, Like (l.map DTxn.enc) vss → ∃ xs : List (RTxn), vss = xs.map rawT ∧ xs.map RTxn.t = l
  | [], [], _ => ⟨[], rfl, rfl⟩
  | [], _ :: _, h => h.elim
  | _ :: _, [], h => h.elim
  | t :: l, v :: vss, h => by
    obtain ⟨xs, rfl, h2⟩ := like_txns (l := l) h.2
    have h1 := h.1
    unfold DTxn.enc at h1
    obtain ⟨a1, v, rfl, e1, h1⟩ := LikeR_cons h1
    obtain ⟨a2, v, rfl, e2, h1⟩ := LikeR_cons h1
    obtain ⟨a3, v, rfl, e3, h1⟩ := LikeR_cons h1
    obtain ⟨a4, v, rfl, e4, h1⟩ := LikeR_cons h1
    obtain ⟨a5, v, rfl, e5, h1⟩ := LikeR_cons h1
    have := LikeR_nil h1
    subst this
    refine ⟨⟨t, a5⟩ :: xs, ?_, by simp [h2]⟩
    simp [rawT, e1 _ rfl, e2 _ rfl, e3 _ rfl, e4 _ rfl]
theorem slices_IndexFunc_rawT (H : HH) {r q n} {l : List (RTxn)} {g caps} {P : RTxn → Bool} (hb : l.length ≤ 1048576) (hn : n ≤ l.length) (ha : arrAt H r q = some (5, l.map encT)) (hcaps : ∀ c ∈ caps, isRef c = true ∨ ∃ y, c = .v y ∧ flat y = true) (hg : tfunc Tryz.prog g = true)
    (hf : ∀ i (hi : i < l.length), PFun Tryz.prog g ([.a (encT l[i])] ++ caps.map T.c) H (B (P l[i]))) : PFun Tryz.prog 125 [.c (.sl r q 5 0 n), .c (.fn g caps)] H (I (idxF P (l.take n))) := by
  refine PFun.of [0, 1, 4, 5, 7, 8, 9, 16] Tryz.func125 rfl (by simp [Tryz.f125]) ?_
  intro d hd0 hfr hcl hout
  have hcd : ∀ n q, CleanH (hit [((d, n), q)]) H := fun n q => hcl.at
  have ha_n : ∀ n, ¬ (d, n) = r := fun n => nm_ne (ne_of_arr hfr ha)
  have ha_d : ¬ r.1 = d := ne_of_arr hfr ha
  have ha_m : ∀ n, ¬ r = (d, n) := fun n => nm_ne' (ne_of_arr hfr ha)
  simp (maxSteps := 4000000) [hd0, hfr, hout, hcl, hcd, delA_none, ha, ha_n, ha_d, ha_m, Tryz.f125]
  refine LoopK.intro (fun m s => ∃ i : Nat, i + m = n ∧ (∀ x ∈ (l.take n).take i, P x = false) ∧ s = ⟨[(0, .c (.sl r q 5 0 n)), (1, .c (.fn g caps)), (7, I n), (8, I i)], H, []⟩) (n + 1)
    (LK.intro n [0, 1, 7, 8] [] (by omega) (by decide) (by simp (maxSteps := 4000000) [hd0, hfr, hout, hcl, hcd, delA_none, ha, ha_n, ha_d, ha_m]) ⟨0, by simp⟩) ?_
  rintro m s ⟨i, him, hP, rfl⟩
  have hd := idxF_drop hP
  by_cases hi0 : i < n
  · have hi' : i < l.length := by omega
    have w1 : IntKind.i64.wrap ((i : Int) + 1) = i + 1 := w64 (by omega) (by omega)
    have hget : (l.take n)[i]'(by simp; omega) = l[i] := by simp
    rw [List.drop_eq_getElem_cons (show i < (l.take n).length by simp; omega), hget] at hd
    have hf := hf i hi'
    simp only [encT] at hf
    simp (maxSteps := 4000000) [hd0, hfr, hout, hcl, hcd, delA_none, ha, ha_n, ha_d, ha_m, show (i : Int) < n by omega, hi', encT]
    refine ⟨⟨hcaps, hg⟩, ?_⟩
    refine (hf).useCK ?_
    by_cases hp : P l[i] = true
    · have hr : idxF P (l.take n) = i := by simp [idxF, hp] at hd; exact hd
      simp (maxSteps := 4000000) [hd0, hfr, hout, hcl, hcd, delA_none, ha, ha_n, ha_d, ha_m, hp, hr]
    · simp only [Bool.not_eq_true] at hp
      simp (maxSteps := 4000000) [hd0, hfr, hout, hcl, hcd, delA_none, ha, ha_n, ha_d, ha_m, hp, w1]
      refine LK.intro (m - 1) [0, 1, 7, 8] [] (by omega) (by decide) (by simp (maxSteps := 4000000) [hd0, hfr, hout, hcl, hcd, delA_none, ha, ha_n, ha_d, ha_m]) ⟨i + 1, by omega, fun x hx => ?_, by simp⟩
      rw [List.take_succ_eq_append_getElem (show i < (l.take n).length by simp; omega), hget] at hx
      rcases List.mem_append.1 hx with hx | hx
      · exact hP x hx
      · simp at hx; rw [hx]; exact hp
  · have : i = n := by omega
    subst this
    rw [List.drop_eq_nil_of_le (by simp; omega)] at hd
    have hr : idxF P (l.take i) = -1 := by simp [idxF] at hd; exact hd
    simp (maxSteps := 4000000) [hd0, hfr, hout, hcl, hcd, delA_none, ha, ha_n, ha_d, ha_m, hr]
theorem impl_Engine_purge_1 (H : HH) {p : RTxn} : PFun Tryz.prog 144 [.a (encT p)] H (B (decide (p.t.state ≠ 1))) := by
  refine PFun.of [1, 2] Tryz.func144 rfl (by simp [Tryz.f144]) ?_
  intro d hd0 hfr hcl hout
  have hcd : ∀ n q, CleanH (hit [((d, n), q)]) H := fun n q => hcl.at
  simp (maxSteps := 4000000) [hd0, hfr, hout, hcl, hcd, delA_none, Tryz.f144, encT]
theorem idxF_cases {α : Type} {P : α → Bool} : ∀ (l : List α), (idxF P l = -1 ∧ ∀ x ∈ l, P x = false) ∨ ∃ i, ∃ hi : i < l.length, idxF P l = (i : Int) ∧ P l[i] = true ∧ ∀ x ∈ l.take i, P x = false
  | [] => .inl ⟨rfl, by simp⟩
  | a :: l => by
    by_cases h : P a = true
    · exact .inr ⟨0, by simp, by simp [idxF, h], by simpa using h, by simp⟩
    · simp only [Bool.not_eq_true] at h
      rcases idxF_cases (P := P) l with ⟨h1, h2⟩ | ⟨i, hi, h1, h2, h3⟩
      · refine .inl ⟨by simp [idxF, h, h1], fun x hx => ?_⟩
        rcases List.mem_cons.1 hx with rfl | hx
        · exact h
        · exact h2 x hx
      · refine .inr ⟨i + 1, by simpa using hi, ?_, by simpa using h2, fun x hx => ?_⟩
        · simp only [idxF, h, h1]
          have : ¬ ((i : Int) < 0) := by omega
          simp [this]
        · simp only [List.take_succ_cons, List.mem_cons] at hx
          rcases hx with rfl | hx
          · exact h
          · exact h3 x hx
def keepT (x : RTxn) : Bool := decide (x.t.state = 1)
def kp (l : List RTxn) (j : Nat) : List RTxn := (l.take j).filter keepT
def arrK (l : List RTxn) (j : Nat) : List RTxn := kp l j ++ l.drop (kp l j).length
theorem kp_len {l : List RTxn} {j : Nat} (hj : j ≤ l.length) : (kp l j).length ≤ j := by
  have := List.length_filter_le keepT (l.take j)
  rw [List.length_take] at this
  unfold kp; omega
theorem arrK_len {l : List RTxn} {j : Nat} (hj : j ≤ l.length) : (arrK l j).length = l.length := by
  have := kp_len hj
  simp [arrK]; omega
theorem arrK_get {l : List RTxn} {j : Nat} (hj : j < l.length) : (arrK l j)[j]? = some l[j] := by
  have := kp_len (Nat.le_of_lt hj)
  unfold arrK
  rw [List.getElem?_append_right this, List.getElem?_drop, show (kp l j).length + (j - (kp l j).length) = j by omega, List.getElem?_eq_getElem hj]
theorem kp_succ {l : List RTxn} {j : Nat} (hj : j < l.length) : kp l (j + 1) = kp l j ++ (if keepT l[j] then [l[j]] else []) := by
  unfold kp
  rw [List.take_succ_eq_append_getElem hj, List.filter_append]
  cases h : keepT l[j] <;> simp [h]
theorem arrK_no {l : List RTxn} {j : Nat} (hj : j < l.length) (h : keepT l[j] = false) : arrK l (j + 1) = arrK l j ∧ (kp l (j + 1)).length = (kp l j).length := by
  have := kp_succ hj
  rw [h] at this
  simp at this
  exact ⟨by simp [arrK, this], by rw [this]⟩
theorem arrK_yes {l : List RTxn} {j : Nat} (hj : j < l.length) (h : keepT l[j] = true) : arrK l (j + 1) = (arrK l j).set (kp l j).length l[j] ∧ (kp l (j + 1)).length = (kp l j).length + 1 := by
  have hk := kp_succ hj
  rw [h] at hk
  simp only [if_true] at hk
  have hl := kp_len (Nat.le_of_lt hj)
  refine ⟨?_, by rw [hk]; simp⟩
  unfold arrK
  rw [hk, List.set_append_right _ _ (Nat.le_refl _), Nat.sub_self, List.drop_eq_getElem_cons (show (kp l j).length < l.length by omega), List.set_cons_zero]
  simp
theorem arrK_first {l : List RTxn} {i : Nat} (hi : i < l.length) (h : keepT l[i] = false) (ha : ∀ x ∈ l.take i, keepT x = true) : arrK l (i + 1) = l ∧ (kp l (i + 1)).length = i := by
  have hk : kp l i = l.take i := List.filter_eq_self.2 ha
  have hk1 := kp_succ hi
  rw [h, hk] at hk1
  simp at hk1
  have hl : (kp l (i + 1)).length = i := by rw [hk1, List.length_take]; omega
  exact ⟨by unfold arrK; rw [hl, hk1, List.take_append_drop], hl⟩
theorem kp_full {l : List RTxn} : kp l l.length = l.filter keepT := by simp [kp]
def zTxn : List Cell := [.v (.int .i64 0), .v (.int .i64 0), .v (.int .i64 0), .v (.int .i64 0), .own 4 []]
theorem arrK_end {l : List RTxn} : List.take (kp l l.length).length ((arrK l l.length).map encT) ++ (List.replicate (l.length - (kp l l.length).length) zTxn ++ List.drop l.length ((arrK l l.length).map encT)) = (l.filter keepT).map encT ++ List.replicate (l.length - (l.filter keepT).length) zTxn := by
  have h1 := arrK_len (l := l) (Nat.le_refl _)
  rw [List.drop_eq_nil_of_le (by simp [h1]), List.append_nil, ← List.map_take]
  unfold arrK
  rw [List.take_left, kp_full]
set_option maxHeartbeats 4000000 in
theorem slices_DeleteFunc_raw (H : HH) {r q} {l : List RTxn} (h0 : r.1 ≠ 0) (hb : l.length ≤ 1048576) (ha : arrAt H r q = some (5, l.map encT)) :
    PArr Tryz.prog 143 [.c (.sl r q 5 0 l.length), .c (.fn 144 [])] H r q 5 (l.filter keepT).length ((l.filter keepT).map encT ++ List.replicate (l.length - (l.filter keepT).length) zTxn) := by
  have hC := fun H' (h : arrAt H' r q = some (5, l.map encT)) => slices_IndexFunc_rawT H' (g := 144) (caps := []) (P := fun p => decide (p.t.state ≠ 1)) hb (Nat.le_refl _) h (by simp) (by simp) (fun i hi => by simpa using impl_Engine_purge_1 H')
  simp only [List.take_length] at hC
  have hP := fun (x : RTxn) => show decide (x.t.state ≠ 1) = !keepT x by unfold keepT; simp
  have hend := arrK_end (l := l)
  have hrows : ∀ (E : List RTxn), ∀ row ∈ E.map encT, row.length = 5 := fun E row hr => by obtain ⟨x, -, rfl⟩ := List.mem_map.1 hr; rfl
  have hno : ∀ (E : List RTxn) (a b k : Nat) row, k < b → (E.map encT)[a + k]? = some row → ∀ c ∈ row, isOwn c = false := fun E a b k row _ hk c hc => by
    obtain ⟨x, -, rfl⟩ := List.mem_map.1 (List.mem_of_getElem? hk)
    simp [encT] at hc
    rcases hc with rfl | rfl | rfl | rfl | rfl <;> rfl
  refine PArr.of [0, 1, 4, 5, 6, 7, 12, 19, 29] Tryz.func143 rfl (by simp [Tryz.f143]) ?_
  intro d hd0 hfr hcl hout
  have hcd : ∀ n q, CleanH (hit [((d, n), q)]) H := fun n q => hcl.at
  have ha_n : ∀ n, ¬ (d, n) = r := fun n => nm_ne (ne_of_arr hfr ha)
  have ha_d : ¬ r.1 = d := ne_of_arr hfr ha
  have ha_m : ∀ n, ¬ r = (d, n) := fun n => nm_ne' (ne_of_arr hfr ha)
  simp (maxSteps := 4000000) [hd0, hfr, hout, hcl, hcd, delA_none, ha, ha_n, ha_d, ha_m, Tryz.f143]
  refine (hC _ (by simp (maxSteps := 4000000) [hd0, hfr, hout, hcl, hcd, delA_none, ha, ha_n, ha_d, ha_m])).useCK ?_
  rcases idxF_cases (P := fun p : RTxn => decide (p.t.state ≠ 1)) l with ⟨h1, h2⟩ | ⟨i0, hi0, h1, h2, h3⟩
  · have hall : l.filter keepT = l := List.filter_eq_self.2 (fun x hx => by have := h2 x hx; rw [hP] at this; simpa using this)
    rw [h1, hall]
    simp (maxSteps := 4000000) [hd0, hfr, hout, hcl, hcd, delA_none, ha, ha_n, ha_d, ha_m, setA_self ha]
  rw [h1]
  obtain ⟨g1, g2⟩ := arrK_first hi0 (by rw [hP] at h2; simpa using h2) (fun x hx => by have := h3 x hx; rw [hP] at this; simpa using this)
  have w0 : IntKind.i64.wrap ((i0 : Int) + 1) = i0 + 1 := w64 (by omega) (by omega)
  clear hC h2 h3
  simp (maxSteps := 4000000) [hd0, hfr, hout, hcl, hcd, delA_none, ha, ha_n, ha_d, ha_m, eq_false (show ¬ (i0 : Int) = -1 by omega), w0]
  refine LoopK.intro (fun m s => ∃ j : Nat, j + m = l.length ∧ s = ⟨[(0, .c (.sl r q 5 0 l.length)), (1, .c (.fn 144 [])), (5, I (kp l j).length), (6, I j)], setA H r q (.own 5 ((arrK l j).map encT)), []⟩) (l.length + 1)
    (LK.intro (l.length - (i0 + 1)) [0, 1, 5, 6] [4] (by omega) (by decide) (by simp (maxSteps := 4000000) [hd0, hfr, hout, hcl, hcd, delA_none, ha, ha_n, ha_d, ha_m, hit, hit1]) ⟨i0 + 1, by omega, by simp [g1, g2, setA_self ha]⟩) ?_
  have hcK : ∀ (E : List RTxn) n q', CleanH (hit [((d, n), q')]) (setA H r q (.own 5 (E.map encT))) := fun E n q' => CleanH_setA (hcd n q') (by simp [encT, Clean.v])
  have hcA : ∀ (E : List RTxn), CleanH (atD d) (setA H r q (.own 5 (E.map encT))) := fun E => CleanH_setA hcl (by simp [encT, Clean.v])
  rintro m s ⟨j, hjm, rfl⟩
  have hA1 := arrK_len (l := l) (j := j) (by omega)
  by_cases hj' : j < l.length
  · have hA2 := arrK_get hj'
    have hN := arrK_no hj'
    have hY := arrK_yes hj'
    have hkl := kp_len (l := l) (j := j) (by omega)
    have hf := fun H' => impl_Engine_purge_1 H' (p := l[j])
    simp only [encT] at hf
    generalize arrK l j = A at *
    generalize (kp l j).length = i at *
    have hjA : j < A.length := by omega
    have hiA : i < A.length := by omega
    have hAj : A[j] = l[j] := by rw [List.getElem?_eq_getElem hjA] at hA2; exact Option.some.inj hA2
    have w1 : IntKind.i64.wrap ((j : Int) + 1) = j + 1 := w64 (by omega) (by omega)
    have w2 : IntKind.i64.wrap ((i : Int) + 1) = i + 1 := w64 (by omega) (by omega)
    have hset : ∀ a b c e f, a = l[j].t.id_ → b = l[j].t.at_ → c = l[j].t.state → e = l[j].t.done → f = l[j].v → (A.map encT).set i [.v (.int .i64 a), .v (.int .i64 b), .v (.int .i64 c), .v (.int .i64 e), .v f] = (A.set i l[j]).map encT := by
      rintro _ _ _ _ _ rfl rfl rfl rfl rfl; rw [List.map_set]; simp [encT]
    simp (maxSteps := 4000000) [hd0, hfr, hout, hcl, hcd, delA_none, ha, ha_n, ha_d, ha_m, eq_true (show (j : Int) < (l.length : Int) by omega), arrAt_setA ha, hjA, hAj, encT, eq_true hj', hcK]
    refine (hf _).useCK ?_
    by_cases hs : l[j].t.state = 1
    · obtain ⟨y1, y2⟩ := hY (by simp [keepT, hs])
      simp (maxSteps := 4000000) [hd0, hfr, hout, hcl, hcd, delA_none, ha, ha_n, ha_d, ha_m, hs, arrAt_setA ha, hiA, encT, hcK, setA_setA ha, w1, w2]
      rw [hset _ _ 1 _ _ rfl rfl hs.symm rfl rfl]
      have hcS : ∀ n q', CleanH (hit [((d, n), q')]) (setA H r q (.own 5 ((A.map encT).set i (encT l[j])))) := fun n q' => by rw [← List.map_set]; exact hcK _ n q'
      refine ⟨by omega, h0, ?_⟩
      refine LK.intro (m - 1) [0, 1, 5, 6] [7] (by omega) (by decide) (by simp (maxSteps := 4000000) [hd0, hfr, hout, hcl, hcd, delA_none, ha, ha_n, ha_d, ha_m, hcS, hit, hit1]) ⟨j + 1, by omega, by simp [y1, y2]⟩
    · obtain ⟨y1, y2⟩ := hN (by simp [keepT, hs])
      simp (maxSteps := 4000000) [hd0, hfr, hout, hcl, hcd, delA_none, ha, ha_n, ha_d, ha_m, hs, w1]
      refine LK.intro (m - 1) [0, 1, 5, 6] [7] (by omega) (by decide) (by simp (maxSteps := 4000000) [hd0, hfr, hout, hcl, hcd, delA_none, ha, ha_n, ha_d, ha_m, hcK, hit, hit1]) ⟨j + 1, by omega, by simp [y1, y2]⟩
  · have hje : j = l.length := by omega
    subst hje
    have hkl := kp_len (l := l) (Nat.le_refl _)
    have s1 : l.length - (kp l l.length).length = l.length - (l.filter keepT).length := by rw [kp_full]
    have s2 : (kp l l.length).length = (l.filter keepT).length := by rw [kp_full]
    generalize arrK l l.length = A at *
    generalize (kp l l.length).length = i at *
    generalize (l.filter keepT).length = i' at *
    subst s2
    clear s1
    have hcE : ∀ k, CleanH (atD d) (setA H r q (.own 5 ((l.filter keepT).map encT ++ List.replicate k zTxn))) := fun k => CleanH_setA hcl (by simp [encT, zTxn, Clean.v])
    simp (maxSteps := 4000000) [hd0, hfr, hout, hcl, hcd, delA_none, ha, ha_n, ha_d, ha_m, arrAt_setA ha, hA1, hkl, hrows, outH_setA hout ha_d, setA_setA ha, encT, hcA]
    have e := hend
    simp only [zTxn] at e hcE ⊢
    rw [e]
    exact ⟨⟨h0, fun k row hk x hx e c hc => by subst e; simp at hc; rcases hc with rfl | rfl | rfl | rfl | rfl <;> rfl⟩, hcE _, rfl⟩
theorem zTxn_clean {K : Cell → Prop} {n : Nat} : CleanRows K (List.replicate n zTxn) := by simp [zTxn, Clean.v]
def keepD (t : DTxn) : Bool := decide (t.state = 1)
theorem slices_DeleteFunc_Txn (H : HH) {r q n} {l : List DTxn} (h0 : r.1 ≠ 0) (hq : q ≠ []) (hcl : CleanH (hit [(r, q)]) H) (hn : n = l.length) (hb : n ≤ 1048576) (ha : arrAt H r q = some (5, l.map DTxn.enc)) :
    PArr Tryz.prog 143 [.c (.sl r q 5 0 n), .c (.fn 144 [])] H r q 5 (l.filter keepD).length ((l.filter keepD).map DTxn.enc ++ List.replicate (n - (l.filter keepD).length) zTxn) := by
  subst hn
  have hs : (l.filter keepD).map DTxn.enc = sel (l.map keepD) (l.map DTxn.enc) := by rw [sel_map, sel_filter]
  rw [hs]
  refine PArr.raw h0 hq ha hcl (by simp [T.cleans, T.clean, hit]) zTxn_clean (fun vss hv => ?_)
  obtain ⟨xs, rfl, rfl⟩ := like_txns hv
  have e1 : sel ((xs.map RTxn.t).map keepD) (xs.map rawT) = (xs.filter keepT).map rawT := by
    rw [List.map_map, show keepD ∘ RTxn.t = keepT from rfl, sel_map, sel_filter]
  have e2 : ((xs.map RTxn.t).filter keepD).length = (xs.filter keepT).length := by
    rw [List.filter_map, List.length_map]; rfl
  rw [e1, e2, rawR_T, rawR_T, List.length_map] at *
  have := slices_DeleteFunc_raw (setA H r q (.own 5 (xs.map encT))) h0 hb (arrAt_setA ha)
  exact this
end Go.Proofs.YtnlbjfdmjlnlgaaGreat
