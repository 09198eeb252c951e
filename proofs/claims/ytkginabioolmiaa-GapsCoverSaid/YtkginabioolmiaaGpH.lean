import Derived.Test.YtkginabioolmiaaGpG
/- A tracker's gaps: Gaps. -/
namespace Go.Proofs.Ytkginabioolmiaa.Gp
open Go.RowKit Go.Shelf Go.Proofs.YtkginabioolmiaaW.PrintWords Go.Proofs.YtkginabioolmiaaW.PrintLast Go.Proofs.YtkginabioolmiaaW.PrintMore Go.Proofs.Ytkginabioolmiaa.Sh
set_option linter.unusedVariables false
set_option linter.unusedSimpArgs false
attribute [local go_sem] Oper.semAt_some wide_fn
theorem gatein_builtin {F : Fence} {n : Nat} {P : Program} {ops : Array Oper} {rest : List Oper} {a : Act} {Q : Exit → Act → World → Prop} {w : World} {b : Builtin} {xs : Array Operand} {o : Oper} {ats : Array TypeId} (h : o.op = .call { callee := .builtin b, args := xs, argTypes := ats }) (hk : wpListIn F n P ops Q (o :: rest) a w) : wpListIn F n P ops Q (o :: rest) a w := hk
/-- What Gaps gives. -/
def Gapped (w : World) (L : List (Int × Int)) (e : Ending) (w' : World) : Prop := ∃ v, e = .returned v ∧ PQ w' w.heap.size v L ∧ Below w.heap.size w w'
theorem take_map (c : Int) (l : List (Int × Nat)) : ((l.take 16).map (gapOf c)) = (l.map (gapOf c)).take 16 := by rw [List.map_take]
theorem take_of {c : Int} {xs : List Int} {pre : List (Int × Nat)} {k : Nat} (hk : pre = (runs xs).take k) (hl : 16 ≤ pre.length) : (pre.map (gapOf c)).take 16 = gapsL c xs := by
  unfold gapsL
  rw [← List.map_take]
  subst hk
  rw [List.take_take, Nat.min_eq_left (by simp at hl; omega)]
theorem all_of {c : Int} {xs : List Int} (hl : (runs xs).length ≤ 16) : (runs xs).map (gapOf c) = gapsL c xs := by
  unfold gapsL
  rw [List.take_of_length_le hl]
theorem GI.app {w w1 : World} {g p Bs gb : Nat} {c : Int} {L : List (Int × Int)} {W w6 : World} {v v6 : Value} {y : Int × Int} (h : GI w w1 g p Bs gb c L W) (hv : W.heap[g + 1]? = some (.cells #[v] 40 (0, 0))) (hq : PQ W g v L) (hBs : g + 2 ≤ Bs) (hgb : g + 2 ≤ gb) (hgW : g ≤ W.heap.size)
    (hg : W.grownBy w6 v.ownBlock) (ho : PQ w6 g v6 (L ++ [y])) (hn : v6.ownBlock = v.ownBlock ∨ ∃ b, v6.ownBlock = some b ∧ W.heap.size ≤ b) :
    KeepsOthers W (w6.setCell ⟨g + 1, 0, none⟩ v6) ∧ Kp2 g Bs gb W (w6.setCell ⟨g + 1, 0, none⟩ v6) ∧ GI w w1 g p Bs gb c (L ++ [y]) (w6.setCell ⟨g + 1, 0, none⟩ v6) := by
  have hb6 : ∀ (k : Nat) (cs : Array Value) (t : TypeId), W.heap[k]? = some (.cells cs t (0, 0)) → t ≠ 44 → w6.heap[k]? = some (.cells cs t (0, 0)) := fun k cs t hk ht => (hg.block k (blk_lt hk) (fun e => Kd.Q_ne hq hk (Ne.symm ht) e)).trans hk
  have hne : ∀ k, k ≠ g + 1 → (w6.setCell ⟨g + 1, 0, none⟩ v6).heap[k]? = w6.heap[k]? := fun k hk => Below.heap_setCell w6 ⟨g + 1, 0, none⟩ v6 k hk
  have hB6 : Below g W w6 := (Below.refl g W).grown hg hgW (fun k hk => Kd.Q_base hq k hk)
  have hBW := hB6.setCell (p := ⟨g + 1, 0, none⟩) (Nat.le_succ g) v6
  obtain ⟨cs, t, h3, h4⟩ := h.run
  obtain ⟨cs2, h5⟩ := h.own
  have ht : t ≠ 44 := by rcases h4 with rfl | rfl <;> decide
  have k1 := (hne gb (by omega)).trans (hb6 gb cs t h3 ht)
  have k2 := (hne Bs (by omega)).trans (hb6 Bs cs2 35 h5 (by decide))
  have h40 := hb6 (g + 1) _ _ hv (by decide)
  refine ⟨(KeepsOthers.of_grownBy hg (fun j o hj hjo => ?_)).trans (KeepsOthers.setCell _ _ _), ⟨hBW, k2.trans h5.symm, k1.trans h3.symm⟩, ⟨(hne g (by omega)).trans (hb6 g _ _ h.box (by decide)), ⟨v6, blk_put h40 0 v6 rfl, pq_move ho (fun k hk => hne k (fun e => Kd.Q_ne ho h40 (by decide) (by rw [← e]; exact hk.symm)))⟩, h.bel.trans hBW, ⟨cs, t, k1, h4⟩, ⟨cs2, k2⟩⟩⟩
  obtain ⟨cells, hc⟩ := Kd.Q_typed hq j hj
  rw [hc] at hjo
  injection hjo with hjo
  subst hjo
  rfl
theorem pii_M (W : World) (B : Nat) (a b : Int) : PII.M W B (fun _ => False) (a, b) [.int .i64 a, .int .i64 b] := ⟨[.int .i64 a], [.int .i64 b], rfl, rfl, rfl⟩
set_option maxRecDepth 100000 in
set_option maxHeartbeats 4000000 in
theorem gaps_calls {w : World} {B p : Nat} {c : Int} {xs ds : List Int} {S : Nat → Prop} (h : Tr w B p c xs ds S) (hl : xs.length ≤ 1000) : Calls Try.prog 16 #[.pointer (some ⟨p, 0, none⟩)] w (Gapped w (gapsL c xs)) := by
  obtain ⟨v, u, hT, _⟩ := h
  obtain ⟨A, cc, rfl, hcc, hC⟩ := uq_slice hT.2.2.1
  have hp := hT.lt
  have hB2 := below_alloc (below_alloc (Below.refl w.heap.size w) (.cells #[.pointer (some ⟨p, 0, none⟩)] 26)) (.cells #[.slice none 0 0] 40)
  have hpb := blk_alloc (blk_alloc hT.2.1 (.cells #[.pointer (some ⟨p, 0, none⟩)] 26)) (.cells #[.slice none 0 0] 40)
  have hx1 := blk_alloc (blk_new w (.cells #[.pointer (some ⟨p, 0, none⟩)] 26)) (.cells #[.slice none 0 0] 40)
  have hx2 := blk_new (w.alloc (.cells #[.pointer (some ⟨p, 0, none⟩)] 26)) (.cells #[.slice none 0 0] 40)
  have hsz : ((w.alloc (.cells #[.pointer (some ⟨p, 0, none⟩)] 26)).alloc (.cells #[.slice none 0 0] 40)).heap.size = w.heap.size + 2 := by simp
  rw [World.size_alloc] at hx2
  have HRun := Aside0.mk (runs_calls (w := (w.alloc (.cells #[.pointer (some ⟨p, 0, none⟩)] 26)).alloc (.cells #[.slice none 0 0] 40)) hcc (Kd.C_alloc (Kd.C_alloc hC _) _) hl)
  have h1 : ((w.alloc (.cells #[.pointer (some ⟨p, 0, none⟩)] 26)).alloc (.cells #[.slice none 0 0] 40)).cell? ⟨p, 1, none⟩ = some (.slice A xs.length cc) := (blk_cell hpb 1).trans rfl
  have h1b : (w.alloc (.cells #[.pointer (some ⟨p, 0, none⟩)] 26)).cell? ⟨p, 1, none⟩ = some (.slice A xs.length cc) := (blk_cell (blk_alloc hT.2.1 _) 1).trans rfl
  have HP := Aside0.mk hT.2.1
  have HX := Aside0.mk (And.intro hx1 (And.intro hx2 (And.intro hB2 hsz)))
  clear hT hC hB2 hpb hx1 hx2 hsz
  refine (callsIn_wide (n := 10)).1 ?_
  refine callsIn_of_wp_marks Try.func16 rfl (by trivial) ?_ rfl
  refine wpIn_wide.2 ?_
  simp only [Try.ntmps16, List.size_toArray, List.length_cons, List.length_nil, Nat.reduceAdd, Nat.reduceSub, Array.replicate_succ, Array.replicate_zero, List.push_toArray, List.append_toArray, List.nil_append, List.cons_append]
  go_wp2_with (first | (go_at_call 50; refine HRun.out.mono ?_; rintro e w1 ⟨Bs, gb, A1, c1, rfl, hbx⟩; have HBX := Aside0.mk hbx; clear hbx))
  obtain ⟨g, hg⟩ : ∃ g, g = w.heap.size := ⟨_, rfl⟩
  have HG := Aside0.mk hg
  obtain ⟨w0, hw0⟩ : ∃ w0, w0 = (w.alloc (.cells #[.pointer (some ⟨p, 0, none⟩)] 26)).alloc (.cells #[.slice none 0 0] 40) := ⟨_, rfl⟩
  rw [← hw0] at HX HBX
  rw [← hg] at HX hp ⊢
  clear hg hw0 HRun h1 h1b
  have hsz0 := HX.out.2.2.2
  have HGI := Aside0.mk (show GI w w1 g p Bs gb c [] w1 from ⟨((HBX.out.bel.block g (by omega)).trans HX.out.1), ⟨.slice none 0 0, (HBX.out.bel.block (g + 1) (by omega)).trans HX.out.2.1, Kd.Q_nil _ _ _ _ _⟩, HX.out.2.2.1.trans (HBX.out.bel.mono (by omega)), HBX.out.gcell, ⟨_, HBX.out.box⟩⟩)
  have hw1 : w0.heap.size ≤ w1.heap.size := HBX.out.bel.size
  have hBl := blk_lt HBX.out.box
  have hgl := blk_lt HBX.out.gcell.choose_spec.choose_spec.1
  have hBg := HBX.out.hBs
  have hgg := HBX.out.hgb
  refine (wpIn_wide (n := 10)).1 ?_
  refine range_meet (n := 10) rfl (by decide) (gf := 109) (lb := #[.pointer (some ⟨Bs, 0, none⟩)]) rfl (by trivial) (enters_of Try.func109 (by kernel_rfl) rfl)
    (runs_stops 9 (by decide) (n₀ := g) HBX.out hl)
    (fun h h' => Kp2.trans h h') (fun W l o o' hle ho hc hw => ⟨belowK_b (w := w1) (by omega) W l o o' hle ho hc hw, World.putObj_heap_other (by omega), World.putObj_heap_other (by omega)⟩) (Below.refl _ _) (fun _ => rfl)
    (fun pre W => pre.length ≤ 16 ∧ GI w w1 g p Bs gb c (pre.map (gapOf c)) W)
    (fun e pre W => e = .exit 0 ∧ 16 ≤ pre.length ∧ GI w w1 g p Bs gb c ((pre.map (gapOf c)).take 16) W)
    (fun s A B row hs hg hr => ⟨hs.1, hs.2.from hg (fun r e => ⟨by have := (hr r e).1; omega, (hr r e).2⟩) (by have := hs.2.bel.size; have := HG.out; omega)⟩)
    (fun e s A B row hs hg hr => ⟨hs.1, hs.2.1, hs.2.2.from hg (fun r e => ⟨by have := (hr r e).1; omega, (hr r e).2⟩) (by have := hs.2.2.bel.size; have := HG.out; omega)⟩)
    ⟨Nat.zero_le _, HGI.out⟩
    0 (fun W => GI w w1 g p Bs gb c (gapsL c xs) W)
    ?hd ?hs ?hQ ?hab ?rest
  case hd =>
    rintro ys W hys ⟨hl16, hI⟩
    subst hys
    rw [all_of hl16] at hI
    exact hI
  case hs =>
    rintro cde pre W ⟨k, hk, hpre⟩ ⟨hc, hl16, hI⟩
    rw [take_of hpre hl16] at hI
    exact ⟨hc, hI⟩
  case hQ =>
    intro a W h
    first | exact h | simpa [Exit.inBlock] using h
  case hab =>
    apply Exists.intro
    refine ⟨?assign, ?body⟩
    case assign =>
      intro l x W K hK
      gi_wp2
      exact hK
    case body =>
      rintro l pre ⟨x1, x2⟩ W ⟨hl16, hI⟩ hlt
      obtain ⟨v, hv, hq⟩ := hI.out
      obtain ⟨A5, c5, rfl, hc5⟩ := Kd.Q_slice hq
      have hpl : (pre.map (gapOf c)).length = pre.length := by simp
      rw [hpl] at hv hc5 hq
      have HI := Aside0.mk hI
      have HQ := Aside0.mk hq
      have hcb : W.cell? ⟨g, 0, none⟩ = some (.pointer (some ⟨p, 0, none⟩)) := (blk_cell hI.box 0).trans rfl
      have hcv : W.cell? ⟨g + 1, 0, none⟩ = some (.slice A5 pre.length c5) := (blk_cell hv 0).trans rfl
      have hfv : W.frozen? ⟨g + 1, 0, none⟩ = false := blk_frozen hv 0
      have hcp : W.cell? ⟨p, 0, none⟩ = some (.int .u32 c) := (blk_cell ((hI.bel.block p hp).trans HP.out) 0).trans rfl
      have HV := Aside0.mk hv
      clear hv hq hI hpl hc5
      by_cases h16 : pre.length = 16
      · rw [h16] at hcv
        gi_wp2
        refine ⟨KeepsOthers.refl _, rfl, by simp; omega, ?_⟩
        rw [List.map_append, List.take_append_of_le_length (by simp; omega), List.take_of_length_le (by simp; omega)]
        exact HI.out
      · have h16b : ((pre.length : Int) == 16) = false := by simp; omega
        have HL := Aside0.mk (show ((pre.map (gapOf c)).length + 1) * 16 ≤ 140737488355328 by simp; omega)
        have HBG := Aside0.mk (show g + 2 ≤ Bs ∧ g + 2 ≤ gb by omega)
        have hx2n : (0 : Int) ≤ (x2 : Int) := by omega
        gi_wp2_with (first | (gi_at_call 44; refine (CallsIn.inRound l (callsIn_wide.2 (far_calls _ _ _))).mono ?_; rintro e w7 ⟨rfl, rfl⟩) | ((with_reducible refine gatein_builtin (b := .append) (xs := #[.tmp 25, .tmp 32]) (ats := #[40, 40]) rfl ?_); refine qin_append PII (w0 := w) g rfl (.tmp 25) (.tmp 32) 40 44 (.agg #[.int .i64 0, .int .i64 0]) 16 rfl Try.underlying40 info44 rfl (by decide) (by decide) (.slice A5 pre.length c5) (pre.map (gapOf c)) (gapOf c (x1, x2)) [.int .i64 (far c x1), .int .i64 (wrap64 (wrap64 (far c x1 + (x2 : Int)) - 1))] (fun _ => True) (fun _ => False) rfl rfl (pii_M _ _ _ _) (fun _ h => h.elim) (fun _ _ => trivial) ?aO ?aB ?aS ?aL ?_; (case aO => exact HQ.out); (case aB => exact HI.out.bel); (case aS => exact Nat.le_trans (Nat.le_of_eq HG.out) HI.out.bel.size); (case aL => exact HL.out); intro v6 w6 ho hb hg hn; obtain ⟨A6, c6, rfl, _⟩ := Kd.Q_slice ho; rw [List.length_append, List.length_singleton, List.length_map] at ho hn; have HA6 := Aside0.mk (HI.out.app HV.out HQ.out HBG.out.1 HBG.out.2 (Nat.le_trans (Nat.le_of_eq HG.out) HI.out.bel.size) hg ho hn); have hb6 := (hg.block (g + 1) (blk_lt HV.out) (fun e => Kd.Q_ne HQ.out HV.out (by decide) e)).trans HV.out; have hc6 : w6.cell? ⟨g + 1, 0, none⟩ = some (.slice A5 pre.length c5) := (blk_cell hb6 0).trans rfl; have hf6 : w6.frozen? ⟨g + 1, 0, none⟩ = false := blk_frozen hb6 0; clear ho hb hg hn hb6))
        refine ⟨HA6.out.1, HA6.out.2.1, by simp; omega, ?_⟩
        rw [List.map_append]
        exact HA6.out.2.2
  case rest =>
    rintro D W2 hD hI hK
    obtain ⟨v, hv, hq⟩ := hI.out
    obtain ⟨A5, c5, rfl, hc5⟩ := Kd.Q_slice hq
    have hcv : W2.cell? ⟨g + 1, 0, none⟩ = some (.slice A5 (gapsL c xs).length c5) := (blk_cell hv 0).trans rfl
    obtain ⟨L, hL⟩ : ∃ L, L = gapsL c xs := ⟨_, rfl⟩
    rw [← hL] at hcv hq
    have HLL := Aside0.mk hL
    have HI := Aside0.mk hI.bel
    have HQ := Aside0.mk hq
    have HK := Aside0.mk hK
    have HD := Aside0.mk hD
    clear hv hq hI hK hD hL hc5
    go_wp2_with fail
    refine ⟨by simp, .inl ⟨_, _, rfl, run_takeDeferred HK.out, ?_⟩⟩
    refine ⟨.slice A5 L.length c5, (results_tmp (t := 2) rfl _ _ _), ?_⟩
    refine ⟨_, rfl, ?_, ?_⟩
    · rw [← HLL.out, ← HG.out]
      refine pq_move HQ.out (fun k hk => ?_)
      obtain ⟨cells, hc⟩ := Kd.Q_typed HQ.out k hk
      refine World.putObj_heap_other (fun e => ?_)
      have := HK.out
      rw [e] at hc
      rw [hc] at this
      cases this
    · rw [← HG.out]
      exact HI.out.trans (belowK_b (w := w1) (by omega) W2 D _ _ HD.out HK.out rfl rfl)
end Go.Proofs.Ytkginabioolmiaa.Gp
