import Derived.Test.YtkginabioolmiaaGpF
/- A tracker's gaps. -/
namespace Go.Proofs.Ytkginabioolmiaa.Gp
open Go.RowKit Go.Shelf Go.Proofs.YtkginabioolmiaaW.PrintWords Go.Proofs.YtkginabioolmiaaW.PrintLast Go.Proofs.YtkginabioolmiaaW.PrintMore Go.Proofs.Ytkginabioolmiaa.Sh
set_option linter.unusedVariables false
set_option linter.unusedSimpArgs false
attribute [local go_sem] Oper.semAt_some wide_fn
theorem held_of {w : World} {B : Nat} {A : Option Addr} {c : Nat} {xs : List Int} (h : UQ w B (.slice A xs.length c) xs) (d : Nat) : ∃ gb, Held w gb A xs ∧ (gb = d ∨ (gb < w.heap.size ∧ B ≤ gb ∧ ∃ cs, w.heap[gb]? = some (.cells cs 22 (0, 0)))) := by
  by_cases hp : 0 < xs.length
  · obtain ⟨g, cap, P, S, hv, hB, hh, _, _⟩ := uq_form h hp
    injection hv with hA
    exact ⟨g, .inr ⟨P, S, hA, hh⟩, .inr ⟨blk_lt hh, hB, _, hh⟩⟩
  · exact ⟨d, .inl (List.eq_nil_of_length_eq_zero (by omega)), .inl rfl⟩
/-- An iterator's box and the row that it goes through. -/
structure Box (w w' : World) (Bs gb : Nat) (A : Option Addr) (c : Nat) (xs : List Int) : Prop where
  box : w'.heap[Bs]? = some (.cells #[.slice A xs.length c] 35 (0, 0))
  held : Held w' gb A xs
  bel : Below w.heap.size w w'
  hBs : w.heap.size ≤ Bs
  hgb : w.heap.size ≤ gb
  gcell : ∃ cs t, w'.heap[gb]? = some (.cells cs t (0, 0)) ∧ (t = 22 ∨ t = 35)
set_option maxRecDepth 100000 in
theorem runs_calls {w : World} {A : Option Addr} {c : Nat} {xs : List Int} (hc : xs.length ≤ c) (hC : Kd.C (Kd.int .u32) w A xs.length xs) (hl : xs.length ≤ 1000) :
    Calls Try.prog 50 #[.slice A xs.length c] w fun e w' => ∃ Bs gb A' c', e = .returned (.func (.func 109) #[] #[.pointer (some ⟨Bs, 0, none⟩)]) ∧ Box w w' Bs gb A' c' xs := by
  have HC := Aside0.mk (clone_q hc hC (by omega))
  clear hc hC
  go_enter Try.func50, Try.ntmps50
  go_wp2_with (first | (go_at_call 49; refine HC.out.mono ?_; rintro e w1 ⟨A1, c1, rfl, hq, hb⟩; have HQ := Aside0.mk hq; have HB := Aside0.mk hb; clear hq hb))
  go_ret
  obtain ⟨gb, hh, hgb⟩ := held_of HQ.out w1.heap.size
  have hbx := blk_new w1 (.cells #[.slice A1 xs.length c1] 35)
  refine ⟨w1.heap.size, gb, A1, c1, rfl, hbx, ?_, below_alloc HB.out _, HB.out.size, ?_, ?_⟩
  · rcases hh with h | ⟨P, S, h1, h2⟩
    · exact .inl h
    · exact .inr ⟨P, S, h1, blk_alloc h2 _⟩
  · rcases hgb with rfl | ⟨h1, h2, _⟩
    · exact HB.out.size
    · exact h2
  · rcases hgb with rfl | ⟨h1, h2, cs, h3⟩
    · exact ⟨_, 35, hbx, .inr rfl⟩
    · exact ⟨cs, 22, blk_alloc h3 _, .inl rfl⟩
theorem runs_stops (n : Nat) (hn : 1 ≤ n) {w w' : World} {Bs gb n₀ c : Nat} {A : Option Addr} {xs : List Int} (h : Box w w' Bs gb A c xs) (hl : xs.length ≤ 1000) :
    SeqStopsK Fence.wide n Try.prog 109 #[.pointer (some ⟨Bs, 0, none⟩)] (fun x : Int × Nat => #[Value.int .u32 x.1, Value.int .i64 (x.2 : Nat)]) (Kp2 n₀ Bs gb) (fun ys => ys = runs xs) (fun pre => ∃ k, k ≤ (runs xs).length ∧ pre = (runs xs).take k) (runs xs).length w' :=
  fun l J Jx W hW hJ _ hY h0 => runs_in n hn l Bs gb n₀ A c xs hl J Jx hY W ((hW.block Bs (blk_lt h.box)).trans h.box) (h.held.kept (hW.block gb (blk_lt h.gcell.choose_spec.choose_spec.1))) h0
    (fun pre W m h => hJ pre W _ none h (gb_drewN W m none) (fun r e => by cases e))
/-- A loop over an iterator whose ways out, the end and an exit, meet. -/
theorem range_meet {F : Fence} {n : Nat} {P : Program} {α : Type} {g : Operand} {ps : Array Tmp} {assign body : Code} {Q : Exit → Act → World → Prop} {a : Act} {w : World}
    (hro : F.round = none) (h1 : 1 ≤ n) {gf : Nat} {lb : Array Value} (hg : a.eval g = .func (.func gf) #[] lb) (hFg : F.fn gf) (eg : ∀ args w, (callFunc gf args).run P w = .ok (.enter gf args) w)
    {encs : α → Array Value} {Kp : World → World → Prop} {S Sp : List α → Prop} {N : Nat} {w0 : World} (hseq : SeqStopsK F (n - 1) P gf lb encs Kp S Sp N w0)
    (hKt : ∀ {A B C : World}, Kp A B → Kp B C → Kp A C) (hKb : ∀ (W : World) (l : Nat) (o o' : Obj), w.heap.size ≤ l → W.heap[l]? = some o → o.isCells = false → o.isWalk = false → Kp W (W.putObj l o')) (hb0 : Below w0.heap.size w0 w) (hps : ∀ x, (encs x).size = ps.size)
    (I : List α → World → Prop) (Ix : Code → List α → World → Prop) (hI : OwnFrom w.heap.size I) (hIx : ∀ c, OwnFrom w.heap.size (Ix c)) (h0 : I [] w)
    (id : Nat) (R : World → Prop)
    (hd : ∀ ys W, S ys → I ys W → R W) (hs : ∀ c pre W, Sp pre → Ix c pre W → c = .exit id ∧ R W) (hQ : ∀ a W, Q .normal a W → Q (.exit id) a W)
    (hab : ∃ a₁ : α → Act, (∀ (l : Nat) (x : α) (W : World) (K : Act → World → Prop), K (a₁ x) W →
      assign.wpIn (F.inRound l) (n - 1 - 1) P (Exit.then K (fun _ _ _ => False)) { tmps := (ps.zip (encs x)).foldl (fun t (p, v) => t.setIfInBounds p v) a.tmps, defers := [] } W) ∧
      (∀ (l : Nat) (pre : List α) (x : α) (W : World), I pre W → pre.length < N → body.wpIn (F.inRound l) (n - 1 - 1) P (ownPostK Kp I Ix (pre ++ [x]) W) (a₁ x) W))
    (hrest : ∀ (D : Nat) (W : World), w.heap.size ≤ D → R W → W.heap[D]? = some (.deferred (some [])) → Q .normal { a with defers := { target := .collected D, args := #[] } :: a.defers } W) :
    (Code.rangeFunc g ps assign body).wpIn F n P Q a w := by
  obtain ⟨a₁, hassign, hbody⟩ := hab
  exact wpIn_rangeFunc_ownF hro h1 hg hFg eg hseq hKt hKb hb0 hps I Ix hI hIx h0 a₁ hassign hbody
    (fun D ys W hD hS hI2 hK => hrest D W hD (hd ys W hS hI2) hK)
    (fun D c pre W hD hSp hIx2 hK => by
      obtain ⟨rfl, hR⟩ := hs c pre W hSp hIx2
      exact wpIn_exit (hQ _ _ (hrest D W hD hR hK)))
section
variable {α : Type} {P : Program} {F : Fence} {n : Nat} {ops : Array Oper} {rest : List Oper} {o : Oper} {a : Act} {Q' : Exit → Act → World → Prop}
theorem qin_append (d : Kd α) {w0 W : World} (base : Nat) (hgd : o.guard = none) (s x : Operand) (t e : TypeId) (z : Value) (bytes : Nat)
    (ho : o.op = .call { callee := .builtin .append, args := #[s, x], argTypes := #[t, t] })
    (ht : P.underlying t = some (.slice e)) (hinfo : (P.info? e).map (fun i => (i.zero, i.size, i.bytes)) = some (some z, d.sz, bytes)) (hz : z.cells.size = d.sz) (hs0 : 0 < d.sz) (hb0 : 0 < bytes)
    (v : Value) (xs : List α) (p : α) (cs : List Value) (ok okp : Nat → Prop) (hs : a.eval s = v) (hx : a.eval x = .slice (some ⟨W.heap.size, 0, none⟩) 1 1) (hp : d.M W base okp p cs) (hokp : ∀ k, okp k → ok k ∧ some k ≠ v.ownBlock) (hfresh : ∀ k, W.heap.size ≤ k → ok k)
    (HO : d.Q e W base ok v xs) (HB : Below base w0 W) (hbase : base ≤ W.heap.size) (hl : (xs.length + 1) * bytes ≤ 140737488355328)
    (h : ∀ v1 w1, d.Q e w1 base ok v1 (xs ++ [p]) → Below base w0 w1 → W.grownBy w1 v.ownBlock → (v1.ownBlock = v.ownBlock ∨ ∃ b, v1.ownBlock = some b ∧ W.heap.size ≤ b) → wpListIn F n P ops Q' rest (a.put o.dst v1) w1) :
    wpListIn F n P ops Q' (o :: rest) a (W.alloc (.cells cs.toArray e)) := by
  obtain ⟨v1, w1, hr, h1, h2, h3, h4⟩ := Kd.Q_run (P := P) d base t o.type e z bytes ht hinfo hz hs0 hb0 v xs p cs ok okp hp hokp hfresh HO HB hbase hl
  refine wpListIn_plain hgd fun K hK => ?_
  unfold Oper.wpIn
  refine ⟨?_, ?_⟩
  · simp [Oper.about, ho, resolve, Target.leads, Sem.run_pure]
  · rw [Oper.semAt_plain F _ _ (by rw [ho]; intro c hc'; cases hc')]
    simp [execOp, ho, resolve, invoke, builtin, hs, hx, hr, Result.andThen]
    exact hK _ _ (h v1 w1 h1 h2 h3 h4)
end
abbrev PII : Kd (Int × Int) := Kd.pair (Kd.int .i64) (Kd.int .i64)
abbrev PQ (w : World) (B : Nat) (v : Value) (xs : List (Int × Int)) : Prop := PII.Q 44 w B (fun _ => True) v xs
theorem info44 : (Try.prog.info? 44).map (fun i => (i.zero, i.size, i.bytes)) = some (some (.agg #[.int .i64 0, .int .i64 0]), 2, 16) := by kernel_rfl
def gapOf (c : Int) (x : Int × Nat) : Int × Int := (far c x.1, wrap64 (wrap64 (far c x.1 + (x.2 : Int)) - 1))
/-- The gaps: the first sixteen runs. -/
def gapsL (c : Int) (xs : List Int) : List (Int × Int) := ((runs xs).take 16).map (gapOf c)
theorem pq_move {w w' : World} {B : Nat} {v : Value} {xs : List (Int × Int)} (h : PQ w B v xs) (hv : ∀ k, v.ownBlock = some k → w'.heap[k]? = w.heap[k]?) : PQ w' B v xs := by
  obtain ⟨a, inner, hq, hr⟩ := h
  exact ⟨a, inner, q_move hq hv, hr.1, fun m x hm => hr.2 m x hm⟩
/-- What is no block of cells has changed: blocks of cells stand. -/
theorem cells_kept {A B : World} {row : Option Nat} (hg : A.grownBy B row) (hr : ∀ r, row = some r → ∃ o : Obj, A.heap[r]? = some o ∧ o.isCells = false) {k : Nat} {cs : Array Value} {t : TypeId} {f : Nat × Nat} (h : A.heap[k]? = some (.cells cs t f)) : B.heap[k]? = some (.cells cs t f) := by
  refine (hg.block k (blk_lt h) (fun e => ?_)).trans h
  obtain ⟨o, h1, h2⟩ := hr k e.symm
  rw [h] at h1
  injection h1 with h1
  subst h1
  cases h2
/-- Between two rounds: the boxes, the gaps so far. -/
structure GI (w w1 : World) (g p Bs gb : Nat) (c : Int) (L : List (Int × Int)) (W : World) : Prop where
  box : W.heap[g]? = some (.cells #[.pointer (some ⟨p, 0, none⟩)] 26 (0, 0))
  out : ∃ v, W.heap[g + 1]? = some (.cells #[v] 40 (0, 0)) ∧ PQ W g v L
  bel : Below g w W
  run : ∃ cs t, W.heap[gb]? = some (.cells cs t (0, 0)) ∧ (t = 22 ∨ t = 35)
  own : ∃ cs, W.heap[Bs]? = some (.cells cs 35 (0, 0))
theorem GI.from {w w1 : World} {g p Bs gb : Nat} {c : Int} {L : List (Int × Int)} {A B : World} {row : Option Nat} (h : GI w w1 g p Bs gb c L A) (hg : A.grownBy B row) (hr : ∀ r, row = some r → g ≤ r ∧ ∃ o : Obj, A.heap[r]? = some o ∧ o.isCells = false) (hgA : g ≤ A.heap.size) : GI w w1 g p Bs gb c L B := by
  obtain ⟨v, h1, h2⟩ := h.out
  obtain ⟨cs, t, h3, h4⟩ := h.run
  obtain ⟨cs2, h5⟩ := h.own
  have hr' := fun r e => (hr r e).2
  refine ⟨cells_kept hg hr' h.box, ⟨v, cells_kept hg hr' h1, pq_move h2 (fun k hk => ?_)⟩, h.bel.grown hg hgA (fun k e => (hr k e).1), ⟨cs, t, cells_kept hg hr' h3, h4⟩, ⟨cs2, cells_kept hg hr' h5⟩⟩
  obtain ⟨cells, hc⟩ := Kd.Q_typed h2 k hk
  exact (cells_kept hg hr' hc).trans hc.symm
end Go.Proofs.Ytkginabioolmiaa.Gp
