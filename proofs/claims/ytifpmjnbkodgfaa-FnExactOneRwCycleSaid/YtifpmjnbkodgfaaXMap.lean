/- Maps of the call's own, keyed by int64: what a map of slices of int64 and a map of int64 used as a set read as, said by plain functions; no condition. -/
import Derived.Test.YtifpmjnbkodgfaaXPure
import Derived.Maps.GroupsBeside
import Derived.Maps.OwnOps
import Derived.Maps.AppendAt
set_option linter.unusedVariables false
set_option linter.unusedSimpArgs false
namespace Go.Proofs.YtifpmjnbkodgfaaW.PrintWords
open Go.RowKit Go.Maps Go.ChangeShapes
def gd (l : List Int) : DataW Unit := if l = [] then .nil else .slice (lits .i64 l) []
theorem lits_inj : ∀ (l m : List Int), lits (H := Unit) .i64 l = lits .i64 m → l = m
  | [], [], _ => rfl
  | [], _ :: _, h => by simp [lits] at h
  | _ :: _, [], h => by simp [lits] at h
  | a :: l, b :: m, h => by
    simp only [lits, List.map_cons, List.cons.injEq, DataW.lit.injEq, Lit.int.injEq] at h
    rw [h.1.2, lits_inj l m h.2]
theorem gd_row {w : World} {base e : Nat} {v : Value} {zs l : List Int} (h : w.ownsInts base e .i64 v zs) (hd : gd l = rowDatum .i64 v zs) : zs = l := by
  unfold gd at hd
  by_cases hl : l = []
  · rw [if_pos hl] at hd
    rcases h.datum (H := Unit) with ⟨_, hz⟩ | h2
    · rw [hz, hl]
    · rw [h2] at hd; exact absurd hd (by simp)
  · rw [if_neg hl] at hd
    rcases h.datum (H := Unit) with ⟨h2, _⟩ | h2
    · rw [h2] at hd; exact absurd hd (by simp)
    · rw [h2] at hd
      simp only [DataW.slice.injEq, and_true] at hd
      exact (lits_inj _ _ hd).symm
def Gof (D : DataW Unit) (f : Int → List Int) : Prop := IsMap D ∧ ∀ a, (Lit.int .i64 a).wf = true → D.atKey (.int .i64 a) .nil = gd (f a)
theorem Gof_nil : Gof (.map []) (fun _ => []) := ⟨isMap_empty, fun a _ => rfl⟩
theorem int_ne {a b : Int} (h : b ≠ a) : Lit.int .i64 b ≠ Lit.int .i64 a := fun e => h (by injection e)
theorem Gof_put {D : DataW Unit} {f g : Int → List Int} {a x : Int} {w : World} {base e : Nat} {v : Value} (h : Gof D f) (hv : w.ownsInts base e .i64 v (f a ++ [x])) (ha : g a = f a ++ [x]) (hg : ∀ b, b ≠ a → g b = f b) : Gof (D.put (.int .i64 a) (rowDatum .i64 v (f a ++ [x]))) g := by
  refine ⟨h.1.put _ _, fun b hb => ?_⟩
  by_cases c : b = a
  · subst c
    rw [atKey_put_same h.1 (by trivial), hv.datum_pos (by simp), ha]
    unfold gd
    rw [if_neg (by simp)]
  · rw [atKey_put_other (int_ne c), hg b c, h.2 b hb]
def Mof (D : DataW Unit) (m : List Int) : Prop := IsMap D ∧ ∀ a, D.atKey (.int .i64 a) (.lit (.int .i64 0)) = .lit (.int .i64 (if m.contains a = true then 1 else 0))
theorem Mof_nil : Mof (.map []) [] := ⟨isMap_empty, fun a => rfl⟩
theorem Mof_put {D : DataW Unit} {m : List Int} (h : Mof D m) (a : Int) : Mof (D.put (.int .i64 a) (.lit (.int .i64 1))) (m ++ [a]) := by
  refine ⟨h.1.put _ _, fun b => ?_⟩
  by_cases c : b = a
  · subst c
    rw [atKey_put_same h.1 (by trivial)]
    simp
  · rw [atKey_put_other (int_ne c), h.2 b]
    have : (m ++ [a]).contains b = m.contains b := by
      rw [Bool.eq_iff_iff]; simp [c]
    rw [this]
theorem Mof_at {D : DataW Unit} {m : List Int} (h : Mof D m) {a c : Int} (hc : D.atKey (.int .i64 a) (.lit (.int .i64 0)) = .lit (.int .i64 c)) : c = if m.contains a = true then 1 else 0 := by
  rw [h.2 a] at hc
  injection hc with hc
  injection hc with _ hc
  exact hc.symm
theorem groups_keep {w w1 : World} {P : Program} {k base e b n : Nat} {D : DataW Unit} (h : w.ownsGroups P k base e .i64 b n D) (hb : Below w.heap.size w w1) : w1.ownsGroups P k base e .i64 b n D :=
  h.kept (row := none) (grown_of_below hb none) (by simp) (fun _ _ _ x _ => by cases x.val.ownBlock <;> simp)
theorem map_keep {w w1 : World} {P : Program} {k b n : Nat} {R : Value → Option (DataW Unit × List MemPlace)} {D : DataW Unit} (h : w.ownsMap P k R b n D) (hb : Below w.heap.size w w1) : w1.ownsMap P k R b n D := h.kept (row := none) (grown_of_below hb none) (by simp)

theorem map_alloc {w : World} {g : Nat} {es : Array MapEntry} {ck : Nat} (h : w.heap[g]? = some (.map es ck)) (o : Obj) : (w.alloc o).heap[g]? = some (.map es ck) := (Below.heap_alloc w o g (Array.getElem?_eq_some_iff.1 h).1).trans h
theorem map_grown {w w1 : World} {g : Nat} {es : Array MapEntry} {ck : Nat} {row : Option Nat} (h : w.heap[g]? = some (.map es ck)) (hg : w.grownBy w1 row) (hne : some g ≠ row) : w1.heap[g]? = some (.map es ck) := (hg.block g (Array.getElem?_eq_some_iff.1 h).1 hne).trans h
theorem row_ne {w : World} {base e : Nat} {v : Value} {zs : List Int} (h : w.ownsInts base e .i64 v zs) {g t : Nat} {cs : Array Value} (hb : w.heap[g]? = some (.cells cs t (0, 0))) (ht : e ≠ t) : some g ≠ v.ownBlock := fun he => by
  obtain ⟨cells, hc⟩ := own_typed h.1 g he.symm
  rw [hb] at hc
  injection hc with hc
  injection hc with _ hc _
  exact ht hc.symm
theorem row_gt {w : World} {b e : Nat} {v : Value} {zs : List Int} (h : w.ownsInts (b + 1) e .i64 v zs) : some b ≠ v.ownBlock := fun he => by
  have := own_base h.1 b he.symm
  omega
theorem q_ne_map {d : Kd Int} {w : World} {base e b n : Nat} {ok : Nat → Prop} {v : Value} {xs : List Int} {P : Program} {k : TypeId} {R : Value → Option (DataW Unit × List MemPlace)} {D : DataW Unit} (h : d.Q e w base ok v xs) (hm : w.ownsMap P k R b n D) : some b ≠ v.ownBlock := fun he => by
  obtain ⟨cells, hc⟩ := Kd.Q_typed h b he.symm
  obtain ⟨es, ck, hb, _⟩ := hm
  rw [hb] at hc
  injection hc with hc
  injection hc
theorem q_keep_map {d : Kd Int} {w w1 : World} {base e b n : Nat} {ok : Nat → Prop} {v : Value} {xs : List Int} {P : Program} {k : TypeId} {R : Value → Option (DataW Unit × List MemPlace)} {D : DataW Unit} (h : d.Q e w base ok v xs) (hm : w.ownsMap P k R b n D) (hg : w.grownBy w1 (some b)) : d.Q e w1 base ok v xs := by
  refine Kd.Q_mono (Kd.Q_grown (Kd.Q_bound h) hg (fun k hk he => ?_)) (fun _ hk => hk.1)
  obtain ⟨_, _, _, q, _, cells, hc⟩ := hk
  obtain ⟨es, ck, hb, _⟩ := hm
  injection he with he
  rw [he, hb] at hc
  injection hc with hc
  injection hc
theorem q_one {w : World} {base e : Nat} (x : Int) (hb : base ≤ w.heap.size) : (Kd.int .i64).Q e (w.alloc (.cells #[.int .i64 x] e)) base (fun _ => True) (.slice (some ⟨w.heap.size, 0, none⟩) 1 1) [x] :=
  Kd.Q_of_R (Kd.R_of_own ⟨by first | rfl | (simp; rfl), .inr ⟨_, 1, _, rfl, hb, heap_alloc_new w _, by simp, by unfold maxLen; omega, by simp, by first | rfl | (simp; rfl)⟩⟩ (fun _ _ => trivial))
theorem pw_one : ∀ (l : List MapEntry), l.Pairwise (fun x y => x.key ≠ y.key) → ∀ x ∈ l, ∀ y ∈ l, x.key = y.key → x = y
  | [], _, x, hx, _, _, _ => absurd hx (by simp)
  | a :: l, h, x, hx, y, hy, he => by
    obtain ⟨h1, h2⟩ := List.pairwise_cons.1 h
    rcases List.mem_cons.1 hx with e1 | g1
    · rcases List.mem_cons.1 hy with e2 | g2
      · rw [e1, e2]
      · exact absurd (by rw [← e1, he]) (h1 y g2)
    · rcases List.mem_cons.1 hy with e2 | g2
      · exact absurd (by rw [← e2, he]) (h1 x g1)
      · exact pw_one l h2 x g1 y g2 he
theorem groups_at_all {P : Program} {t k E base e b n : Nat} {w : World} {D : DataW Unit} {key : Value} {kl : Lit} (h : w.ownsGroups P k base e .i64 b n D) (K : Keyed P k) (ht : P.underlying t = some (.map k E)) (hz : ∀ w, (zeroValue E).run P w = .ok (.slice none 0 0) w) (hn : n < maxLen) (hkey : keyOf P k key = some kl) :
    ∃ v zs es ck, w.heap[b]? = some (.map es ck) ∧ (∀ w' : World, w'.heap[b]? = some (.map es ck) → (Instr.lookup t (.map (some b)) key false).run P w' = .ok v w') ∧ D.atKey kl .nil = rowDatum .i64 v zs ∧ w.ownsInts base e .i64 v zs ∧ zs.length ≤ n ∧ w.groupBack P t k base e .i64 b n D key kl v := by
  obtain ⟨v, zs, hrun, hat, hoi, hzl, hback⟩ := h.at K ht (hz w) hn hkey
  obtain ⟨es, clock, hb, F, _⟩ := h
  refine ⟨v, zs, es, clock, hb, fun w' hw' => ?_, hat, hoi, hzl, hback⟩
  rcases Maps.fit_look false K ht (hz w) hb F hkey with ⟨h1, h2, _⟩ | ⟨e0, y, hm, hk0, h1, _⟩
  · have hv : v = .slice none 0 0 := by rw [hrun] at h1; simpa using h1
    rcases Maps.fit_look false K ht (hz w') hw' F hkey with ⟨h3, _, _⟩ | ⟨e1, _, hm1, hk1, _⟩
    · rw [h3, hv]; rfl
    · exact absurd hk1 (h2 e1 hm1)
  · have hv : v = e0.val := by rw [hrun] at h1; simpa using h1
    rcases Maps.fit_look false K ht (hz w') hw' F hkey with ⟨_, h3, _⟩ | ⟨e1, y1, hm1, hk1, h4, _⟩
    · exact absurd hk0 (h3 e0 hm)
    · have he := pw_one _ ((Go.MapKept.stamped_iff es clock).1 F.stamped).2.2 e1 hm1 e0 hm (hk1.trans hk0.symm)
      rw [h4, he, hv]; rfl
theorem append_at_step {P : Program} {ops : Array Oper} {o : Oper} {a : Act} {w : World} {Q : Exit → Act → World → Prop} {K : Act → World → Prop} {N : Option Tmp} (hw : Region.wanted o (yielded ops a.tmps) = true) (hN : o.dst = N) (s x : Operand) (t : TypeId)
    (ho : o.op = .call { callee := .builtin .append, args := #[s, x], argTypes := #[t, t] })
    (base : Nat) (e : TypeId) (i : TypeInfo) (z : Value) (size bytes : Nat) (ht : P.underlying t = some (.slice e)) (hi : P.info? e = some i) (hz : i.zero = some z)
    (hsize : i.size = size) (hby : i.bytes = bytes) (hzs : z.cells.size = size) (hsz : 0 < size)
    (v : Value) (n : Nat) (xs : List Value) (hs : a.eval s = v) (hown : w.ownsRow base e size v n xs)
    (ad : Addr) (m c : Nat) (news : List Value) (hx : a.eval x = .slice (some ad) m c) (hl : news.length = m * size) (hnews : ∀ j u, news[j]? = some u → w.cell? (ad.add j) = some u) (h1 : ∀ u ∈ news, u.oneCell' = true)
    (h63 : n + m ≤ maxLen) (hbytes : (n + m) * bytes ≤ 140737488355328) (hbase : base ≤ w.heap.size)
    (h : ∀ v' w', w'.ownsRow base e size v' (n + m) (xs ++ news) → w.grownBy w' v.ownBlock → (v'.ownBlock = v.ownBlock ∨ v'.ownBlock = some w.heap.size) → K (a.put N v') w') :
    if Region.wanted o (yielded ops a.tmps) = true then Oper.wp P o a w K Q else K (a.put N undef) w := by
  obtain ⟨v', w', hr, h2, h3, h4, h5⟩ := run_append_own_at (P := P) w base t o.type e i z size bytes ht hi hz hsize hby hzs hsz v n xs hown ad m c news hl hnews h1 h63 hbytes hbase
  rw [if_pos hw]
  subst hN
  unfold Oper.wp execOp
  simp only [ho, resolve, invoke, builtin, Sem.run_bind, Sem.run_pure, Result.andThen_ok, List.map_toArray, List.map_cons, List.map_nil, hs, hx, hr]
  exact h v' w' h2 h3 h5
theorem update_back_step {P : Program} {ops : Array Oper} {o : Oper} {a : Act} {w : World} {Q : Exit → Act → World → Prop} {K : Act → World → Prop} (hw : Region.wanted o (yielded ops a.tmps) = true) (hN : o.dst = none) (m x v : Operand) (t : TypeId) (hop : o.op = Op.mapUpdate t m x v)
    {w0 : World} {k : TypeId} {base : Nat} {e : TypeId} {q : IntKind} {b n : Nat} {D : DataW Unit} {key : Value} {kl : Lit} {u v' : Value} {zs' : List Int}
    (hback : w0.groupBack P t k base e q b n D key kl u) (hm : a.eval m = .map (some b)) (hx : a.eval x = key) (hv : a.eval v = v')
    (hgr : w0.grownBy w u.ownBlock) (hown' : w.ownsInts base e q v' zs') (hl' : zs'.length ≤ n + 1) (hloc : v'.ownBlock = u.ownBlock ∨ ∃ g, v'.ownBlock = some g ∧ w0.heap.size ≤ g)
    (hK : ∀ w2, w2.ownsGroups P k base e q b (n + 1) (D.put kl (rowDatum q v' zs')) → w.grownBy w2 (some b) → K a w2) :
    if Region.wanted o (yielded ops a.tmps) = true then Oper.wp P o a w K Q else K (a.put none undef) w := by
  obtain ⟨w2, hrun, r1, r2⟩ := hback w v' zs' hgr hown' hl' hloc
  rw [if_pos hw]
  unfold Oper.wp
  have he : (execOp a.eval o).run P w = .ok .skip w2 := by
    unfold execOp
    simp [hop, hm, hx, hv, hrun, Result.andThen]
  rw [he]
  simp only [Oper.upon, hN]
  exact hK w2 r1 r2
end Go.Proofs.YtifpmjnbkodgfaaW.PrintWords
