import Derived.Test.YtkginabioolmiaaGpK
/- A tracker's TSNs beyond, by its iterator: slices.Values, Beyond; the law's list of them. -/
namespace Go.Proofs.Ytkginabioolmiaa.Gp
open Go.RowKit Go.Shelf Go.Proofs.YtkginabioolmiaaW.PrintWords Go.Proofs.YtkginabioolmiaaW.PrintLast Go.Proofs.YtkginabioolmiaaW.PrintMore Go.Proofs.Ytkginabioolmiaa.Sh
set_option linter.unusedVariables false
set_option linter.unusedSimpArgs false
attribute [local go_sem] Oper.semAt_some wide_fn
set_option maxRecDepth 100000 in
set_option maxHeartbeats 4000000 in
theorem values_in (n : Nat) (hn : 1 ≤ n) (l Bs gb n₀ : Nat) (A : Option Addr) (c : Nat) (xs : List Int) (hl : xs.length ≤ 1000) (J Jx : List Int → World → Prop)
    (hY : ∀ pre x W, J pre W → pre.length < xs.length → YieldAt Fence.wide (n - 1) Try.prog l #[.int .u32 x] W fun e W' =>
      (e = .returned (.bool true) ∧ J (pre ++ [x]) W' ∧ Kp2 n₀ Bs gb W W') ∨ (e = .returned (.bool false) ∧ Jx (pre ++ [x]) W'))
    (W : World) (hBs : W.heap[Bs]? = some (.cells #[.slice A xs.length c] 35 (0, 0))) (hH : Held W gb A xs) (h0 : J [] W)
    (hJd : ∀ pre W m, J pre W → J pre (W.drewN m)) :
    CallsIn Fence.wide n Try.prog 132 #[.func (.yield l) #[] #[], .pointer (some ⟨Bs, 0, none⟩)] W fun e W' => (∃ v, e = .returned v) ∧
      ((∃ ys, ys = xs ∧ J ys W') ∨ (∃ pre, (∃ k, k ≤ xs.length ∧ pre = xs.take k) ∧ Jx pre W')) := by
  have HY := Aside0.mk hY
  have HH := Aside0.mk hH
  have H0 := Aside0.mk h0
  have hb0 : W.cell? ⟨Bs, 0, none⟩ = some (.slice A xs.length c) := (blk_cell hBs 0).trans rfl
  clear hY hJd hBs hH h0
  refine callsIn_of_wp Try.func132 rfl (by trivial) ?_ rfl
  simp only [Try.ntmps132, List.size_toArray, List.length_cons, List.length_nil, Nat.reduceAdd, Nat.reduceSub, Array.replicate_succ, Array.replicate_zero, List.push_toArray, List.append_toArray, List.nil_append, List.cons_append]
  gi_wp2
  gi_loopw [7] (fun i wr => ∃ (k : Nat), k ≤ xs.length ∧ i = .int .i64 (k : Nat) ∧ Aside0 (J (xs.take k) wr) ∧ Aside0 (Kp2 n₀ Bs gb W wr))
    (fun i _ => xs.length - (intOf i).toNat)
  case atStart => exact ⟨0, Nat.zero_le _, rfl, H0, ⟨Kp2.refl _ _ _ _⟩⟩
  case round =>
    obtain ⟨k, hk, rfl, HJ, HN⟩ := hrel
    by_cases hlt : k < xs.length
    · have hlt2 : (k : Int) < (xs.length : Int) := by omega
      obtain ⟨o, rfl, hcells⟩ := (HH.out.kept HN.out.2.2).cell (by omega)
      have hck := hcells k hlt
      obtain ⟨x, hx⟩ : ∃ x, x = xs.getD k 0 := ⟨_, rfl⟩
      rw [← hx] at hck
      have HTK := Aside0.mk (show xs.take (k + 1) = xs.take k ++ [x] by
        rw [List.take_succ_eq_append_getElem hlt, hx]
        simp [List.getD_eq_getElem?_getD, List.getElem?_eq_getElem hlt])
      clear hcells hx
      have HYK := Aside0.mk (HY.out (xs.take k) x wr HJ.out (by rw [List.length_take]; omega))
      obtain ⟨fn, tmps, assign, body, hy, hR⟩ := HYK.out
      have hR2 := Aside0.mk (hR.mono (fun e W' h => (show ∃ b : Bool, e = .returned (.bool b) ∧ Aside0 ((b = true ∧ J (xs.take k ++ [x]) W' ∧ Kp2 n₀ Bs gb wr W') ∨ (b = false ∧ Jx (xs.take k ++ [x]) W')) from by
        rcases h with ⟨rfl, h1, h2⟩ | ⟨rfl, h⟩
        · exact ⟨true, rfl, ⟨.inl ⟨rfl, h1, h2⟩⟩⟩
        · exact ⟨false, rfl, ⟨.inr ⟨rfl, h⟩⟩⟩)))
      clear hR HYK
      gi_wp2_with (first | (refine hR2.out.mono ?_; rintro e W3 ⟨b, rfl, HB3⟩))
      all_goals (rcases HB3.out with ⟨hb, hJ3, hk3⟩ | ⟨hb, hJx3⟩)
      all_goals first
        | (rename_i hbn; rw [hb] at hbn; exact absurd hbn (by decide))
        | (refine bodyPost_ret (results_none rfl _ _ _) rfl ?_; exact ⟨⟨_, rfl⟩, .inr ⟨xs.take (k + 1), ⟨k + 1, by omega, rfl⟩, by rw [HTK.out]; exact hJx3⟩⟩)
        | exact ⟨⟨k + 1, by omega, by go_num, ⟨by rw [HTK.out]; exact hJ3⟩, ⟨HN.out.trans hk3⟩⟩, by simp [intOf]; omega⟩
    · obtain rfl : k = xs.length := by omega
      have hlt2 : ¬ ((xs.length : Int) < (xs.length : Int)) := Int.lt_irrefl _
      gi_wp2
      go_end0
      refine ⟨⟨_, rfl⟩, .inl ?_⟩
      have h := HJ.out
      rw [List.take_length] at h
      exact h
theorem values_stops (n : Nat) (hn : 1 ≤ n) {w w' : World} {Bs gb n₀ c : Nat} {A : Option Addr} {xs : List Int} (h : Box w w' Bs gb A c xs) (hl : xs.length ≤ 1000) :
    SeqStopsK Fence.wide n Try.prog 132 #[.pointer (some ⟨Bs, 0, none⟩)] (fun x : Int => #[Value.int .u32 x]) (Kp2 n₀ Bs gb) (fun ys => ys = xs) (fun pre => ∃ k, k ≤ xs.length ∧ pre = xs.take k) xs.length w' :=
  fun l J Jx W hW hJ _ hY h0 => values_in n hn l Bs gb n₀ A c xs hl J Jx hY W ((hW.block Bs (blk_lt h.box)).trans h.box) (h.held.kept (hW.block gb (blk_lt h.gcell.choose_spec.choose_spec.1))) h0
    (fun pre W m h => hJ pre W _ none h (gb_drewN W m none) (fun r e => by cases e))
theorem val_calls (w : World) (A : Option Addr) (n c : Nat) : Calls Try.prog 110 #[.slice A n c] w fun e w' => e = .returned (.func (.func 132) #[] #[.pointer (some ⟨w.heap.size, 0, none⟩)]) ∧ w' = w.alloc (.cells #[.slice A n c] 35) := by
  go_enter Try.func110, Try.ntmps110
  go_wp2
  go_ret
  exact ⟨rfl, rfl⟩
set_option maxRecDepth 100000 in
theorem beyond_iter {w : World} {B p : Nat} {c : Int} {xs ds : List Int} {S : Nat → Prop} (h : Tr w B p c xs ds S) (hl : xs.length ≤ 1000) :
    Calls Try.prog 51 #[.pointer (some ⟨p, 0, none⟩)] w fun e w' => ∃ Bs gb A' c', e = .returned (.func (.func 132) #[] #[.pointer (some ⟨Bs, 0, none⟩)]) ∧ Box w w' Bs gb A' c' xs := by
  obtain ⟨v, u, hT, _⟩ := h
  obtain ⟨A, cc, rfl, hcc, hC⟩ := uq_slice hT.2.2.1
  have h1 : w.cell? ⟨p, 1, none⟩ = some (.slice A xs.length cc) := (blk_cell hT.2.1 1).trans rfl
  have HC := Aside0.mk (clone_q hcc hC (by omega))
  clear hT hC
  go_enter Try.func51, Try.ntmps51
  go_wp2_with (first | (go_at_call 49; refine HC.out.mono ?_; rintro e w1 ⟨A1, c1, rfl, hq, hb⟩; have HQ := Aside0.mk hq; have HB := Aside0.mk hb; clear hq hb) | (go_at_call 110; refine (val_calls _ _ _ _).mono ?_; rintro e w2 ⟨rfl, rfl⟩))
  go_ret
  obtain ⟨gb, hh, hgb⟩ := held_of HQ.out w1.heap.size
  have hbx := blk_new w1 (.cells #[.slice A1 xs.length c1] 35)
  refine ⟨w1.heap.size, gb, A1, c1, rfl, hbx, ?_, below_alloc HB.out _, HB.out.size, ?_, ?_⟩
  · rcases hh with h | ⟨P, S, h1, h2⟩
    · exact .inl h
    · exact .inr ⟨P, S, h1, blk_alloc h2 _⟩
  · rcases hgb with rfl | ⟨h1, h2, _⟩
    · exact HB.out.size
    · exact h2
  · rcases hgb with rfl | ⟨h1, h2, cs, h3⟩
    · exact ⟨_, 35, hbx, .inr rfl⟩
    · exact ⟨cs, 22, blk_alloc h3 _, .inl rfl⟩
/-- Between two rounds: the boxes, the list so far. -/
structure BI (w : World) (g Bs gb : Nat) (L : List Int) (W : World) : Prop where
  out : ∃ v, W.heap[g + 1]? = some (.cells #[v] 35 (0, 0)) ∧ UQ W g v L ∧ ∀ k, v.ownBlock = some k → k ≠ gb ∧ k ≠ Bs
  bel : Below g w W
  run : ∃ cs t, W.heap[gb]? = some (.cells cs t (0, 0)) ∧ (t = 22 ∨ t = 35)
  own : ∃ cs, W.heap[Bs]? = some (.cells cs 35 (0, 0))
theorem BI.from {w : World} {g Bs gb : Nat} {L : List Int} {A B : World} {row : Option Nat} (h : BI w g Bs gb L A) (hg : A.grownBy B row) (hr : ∀ r, row = some r → g ≤ r ∧ ∃ o : Obj, A.heap[r]? = some o ∧ o.isCells = false) (hgA : g ≤ A.heap.size) : BI w g Bs gb L B := by
  obtain ⟨v, h1, h2, h6⟩ := h.out
  obtain ⟨cs, t, h3, h4⟩ := h.run
  obtain ⟨cs2, h5⟩ := h.own
  have hr' := fun r e => (hr r e).2
  refine ⟨⟨v, cells_kept hg hr' h1, uq_move h2 (fun k hk => ?_), h6⟩, h.bel.grown hg hgA (fun k e => (hr k e).1), ⟨cs, t, cells_kept hg hr' h3, h4⟩, ⟨cs2, cells_kept hg hr' h5⟩⟩
  obtain ⟨cells, hc⟩ := Kd.Q_typed h2 k hk
  exact (cells_kept hg hr' hc).trans hc.symm
theorem BI.app {w : World} {g Bs gb : Nat} {L : List Int} {W w6 : World} {v v6 : Value} {y : Int} (h : BI w g Bs gb L W) (hv : W.heap[g + 1]? = some (.cells #[v] 35 (0, 0))) (hq : UQ W g v L) (hne6 : ∀ k, v.ownBlock = some k → k ≠ gb ∧ k ≠ Bs) (hBs : g + 2 ≤ Bs) (hgb : g + 2 ≤ gb) (hgW : g ≤ W.heap.size)
    (hg : W.grownBy w6 v.ownBlock) (ho : UQ w6 g v6 (L ++ [y])) (hn : v6.ownBlock = v.ownBlock ∨ ∃ b, v6.ownBlock = some b ∧ W.heap.size ≤ b) :
    KeepsOthers W (w6.setCell ⟨g + 1, 0, none⟩ v6) ∧ Kp2 g Bs gb W (w6.setCell ⟨g + 1, 0, none⟩ v6) ∧ BI w g Bs gb (L ++ [y]) (w6.setCell ⟨g + 1, 0, none⟩ v6) := by
  obtain ⟨cs, t, h3, h4⟩ := h.run
  obtain ⟨cs2, h5⟩ := h.own
  have hne : ∀ k, k ≠ g + 1 → (w6.setCell ⟨g + 1, 0, none⟩ v6).heap[k]? = w6.heap[k]? := fun k hk => Below.heap_setCell w6 ⟨g + 1, 0, none⟩ v6 k hk
  have hB6 : Below g W w6 := (Below.refl g W).grown hg hgW (fun k hk => Kd.Q_base hq k hk)
  have hBW := hB6.setCell (p := ⟨g + 1, 0, none⟩) (Nat.le_succ g) v6
  have k1 := (hne gb (by omega)).trans ((hg.block gb (blk_lt h3) (fun e => (hne6 gb e.symm).1 rfl)).trans h3)
  have k2 := (hne Bs (by omega)).trans ((hg.block Bs (blk_lt h5) (fun e => (hne6 Bs e.symm).2 rfl)).trans h5)
  have h40 := (hg.block (g + 1) (blk_lt hv) (fun e => Kd.Q_ne hq hv (by decide) e)).trans hv
  refine ⟨(KeepsOthers.of_grownBy hg (fun j o hj hjo => ?_)).trans (KeepsOthers.setCell _ _ _), ⟨hBW, k2.trans h5.symm, k1.trans h3.symm⟩, ⟨⟨v6, blk_put h40 0 v6 rfl, uq_move ho (fun k hk => hne k (fun e => Kd.Q_ne ho h40 (by decide) (by rw [← e]; exact hk.symm))), fun k hk => ?_⟩, h.bel.trans hBW, ⟨cs, t, k1, h4⟩, ⟨cs2, k2⟩⟩⟩
  · obtain ⟨cells, hc⟩ := Kd.Q_typed hq j hj
    rw [hc] at hjo
    injection hjo with hjo
    subst hjo
    rfl
  · rcases hn with e | ⟨b, e, hb⟩
    · exact hne6 k (e ▸ hk)
    · rw [e] at hk
      injection hk with hk
      have := blk_lt h3
      have := blk_lt h5
      omega
set_option maxRecDepth 100000 in
set_option maxHeartbeats 4000000 in
theorem beyond_calls {w : World} {B p : Nat} {c : Int} {xs ds : List Int} {S : Nat → Prop} (h : Tr w B p c xs ds S) (hl : xs.length ≤ 1000) : Calls Try.prog 17 #[.pointer (some ⟨p, 0, none⟩)] w (Copied w xs) := by
  have hB2 := below_alloc (below_alloc (Below.refl w.heap.size w) (.cells #[] 22)) (.cells #[.slice (some ⟨w.heap.size, 0, none⟩) 0 0] 35)
  have hx1 := blk_alloc (blk_new w (.cells #[] 22)) (.cells #[.slice (some ⟨w.heap.size, 0, none⟩) 0 0] 35)
  have hx2 := blk_new (w.alloc (.cells #[] 22)) (.cells #[.slice (some ⟨w.heap.size, 0, none⟩) 0 0] 35)
  have hsz : ((w.alloc (.cells #[] 22)).alloc (.cells #[.slice (some ⟨w.heap.size, 0, none⟩) 0 0] 35)).heap.size = w.heap.size + 2 := by simp
  rw [World.size_alloc] at hx2
  have HRun := Aside0.mk (beyond_iter ((h.below (below_alloc (Below.refl _ _) (.cells #[] 22))).below (below_alloc (Below.refl _ _) (.cells #[.slice (some ⟨w.heap.size, 0, none⟩) 0 0] 35))) hl)
  have HX := Aside0.mk (And.intro hx1 (And.intro hx2 (And.intro hB2 hsz)))
  clear h hB2 hx1 hx2 hsz
  refine (callsIn_wide (n := 10)).1 ?_
  refine callsIn_of_wp_marks Try.func17 rfl (by trivial) ?_ rfl
  refine wpIn_wide.2 ?_
  simp only [Try.ntmps17, List.size_toArray, List.length_cons, List.length_nil, Nat.reduceAdd, Nat.reduceSub, Array.replicate_succ, Array.replicate_zero, List.push_toArray, List.append_toArray, List.nil_append, List.cons_append]
  go_wp2_with (first | (go_at_call 51; refine HRun.out.mono ?_; rintro e w1 ⟨Bs, gb, A1, c1, rfl, hbx⟩; have HBX := Aside0.mk hbx; clear hbx))
  obtain ⟨g, hg⟩ : ∃ g, g = w.heap.size := ⟨_, rfl⟩
  have HG := Aside0.mk hg
  rw [← hg] at HX HBX ⊢
  obtain ⟨w0, hw0⟩ : ∃ w0, w0 = (w.alloc (.cells #[] 22)).alloc (.cells #[.slice (some ⟨g, 0, none⟩) 0 0] 35) := ⟨_, rfl⟩
  rw [← hw0] at HX HBX
  clear hg hw0 HRun
  have hsz0 := HX.out.2.2.2
  have hBl := blk_lt HBX.out.box
  have hgl := blk_lt HBX.out.gcell.choose_spec.choose_spec.1
  have hBg := HBX.out.hBs
  have hgg := HBX.out.hgb
  have hw1 : w0.heap.size ≤ w1.heap.size := HBX.out.bel.size
  have HGI := Aside0.mk (show BI w g Bs gb [] w1 from ⟨⟨.slice (some ⟨g, 0, none⟩) 0 0, (HBX.out.bel.block (g + 1) (by omega)).trans HX.out.2.1, ⟨fun _ _ => trivial, [], ⟨rfl, .inl ⟨rfl, some ⟨g, 0, none⟩, rfl, fun a ha => by cases ha; exact ⟨Nat.le_refl _, _, (HBX.out.bel.block g (by omega)).trans HX.out.1⟩⟩⟩, Reps.none _ _⟩, fun k hk => by have hk' : g = k := (by simpa [Value.ownBlock] using hk); omega⟩, HX.out.2.2.1.trans (HBX.out.bel.mono (by omega)), HBX.out.gcell, ⟨_, HBX.out.box⟩⟩)
  refine (wpIn_wide (n := 10)).1 ?_
  refine range_meet (n := 10) rfl (by decide) (gf := 132) (lb := #[.pointer (some ⟨Bs, 0, none⟩)]) rfl (by trivial) (enters_of Try.func132 (by kernel_rfl) rfl)
    (values_stops 9 (by decide) (n₀ := g) HBX.out hl)
    (fun h h' => Kp2.trans h h') (fun W l o o' hle ho hc hw => ⟨belowK_b (w := w1) (by omega) W l o o' hle ho hc hw, World.putObj_heap_other (by omega), World.putObj_heap_other (by omega)⟩) (Below.refl _ _) (fun _ => rfl)
    (fun pre W => pre.length ≤ 1000 ∧ BI w g Bs gb pre W)
    (fun e pre W => False)
    (fun s A B row hs hg hr => ⟨hs.1, hs.2.from hg (fun r e => ⟨by have := (hr r e).1; omega, (hr r e).2⟩) (by have := hs.2.bel.size; have := HG.out; omega)⟩)
    (fun e s A B row hs hg hr => hs)
    ⟨Nat.zero_le _, HGI.out⟩
    0 (fun W => BI w g Bs gb xs W)
    ?hd ?hs ?hQ ?hab ?rest
  case hd =>
    rintro ys W hys ⟨_, hI⟩
    subst hys
    exact hI
  case hs =>
    rintro cde pre W _ h
    exact h.elim
  case hQ =>
    intro a W h
    first | exact h | simpa [Exit.inBlock] using h
  case hab =>
    apply Exists.intro
    refine ⟨?assign, ?body⟩
    case assign =>
      intro l x W K hK
      gi_wp2
      exact hK
    case body =>
      rintro l pre x W ⟨_, hI⟩ hlt
      obtain ⟨v, hv, hq, hne⟩ := hI.out
      obtain ⟨A5, c5, rfl, hc5⟩ := Kd.Q_slice hq
      have HI := Aside0.mk hI
      have HQ := Aside0.mk hq
      have HNE := Aside0.mk hne
      have hcv : W.cell? ⟨g + 1, 0, none⟩ = some (.slice A5 pre.length c5) := (blk_cell hv 0).trans rfl
      have hfv : W.frozen? ⟨g + 1, 0, none⟩ = false := blk_frozen hv 0
      have HV := Aside0.mk hv
      have HL := Aside0.mk (show (pre.length + 1) * 4 ≤ 140737488355328 by omega)
      have HBG := Aside0.mk (show g + 2 ≤ Bs ∧ g + 2 ≤ gb by omega)
      have HP := Aside0.mk (show (pre ++ [x]).length ≤ 1000 by simp; omega)
      clear hv hq hI hc5 hne
      gi_wp2_with (first | ((with_reducible refine gatein_builtin (b := .append) (xs := #[.tmp 9, .tmp 11]) (ats := #[35, 35]) rfl ?_); refine qin_append (Kd.int .u32) (w0 := w) g rfl (.tmp 9) (.tmp 11) 35 22 (.int .u32 0) 4 rfl Try.underlying35 info22 rfl (by decide) (by decide) (.slice A5 pre.length c5) pre x [.int .u32 x] (fun _ => True) (fun _ => False) rfl rfl ?aD (fun _ h => h.elim) (fun _ _ => trivial) ?aO ?aB ?aS ?aL ?_; (case aD => rfl); (case aO => exact HQ.out); (case aB => exact HI.out.bel); (case aS => exact Nat.le_trans (Nat.le_of_eq HG.out) HI.out.bel.size); (case aL => exact HL.out); intro v6 w6 ho hb hg hn; obtain ⟨A6, c6, rfl, _⟩ := Kd.Q_slice ho; rw [List.length_append, List.length_singleton] at ho hn; have HA6 := Aside0.mk (HI.out.app HV.out HQ.out HNE.out HBG.out.1 HBG.out.2 (Nat.le_trans (Nat.le_of_eq HG.out) HI.out.bel.size) hg ho hn); have hb6 := (hg.block (g + 1) (blk_lt HV.out) (fun e => Kd.Q_ne HQ.out HV.out (by decide) e)).trans HV.out; have hc6 : w6.cell? ⟨g + 1, 0, none⟩ = some (.slice A5 pre.length c5) := (blk_cell hb6 0).trans rfl; have hf6 : w6.frozen? ⟨g + 1, 0, none⟩ = false := blk_frozen hb6 0; clear ho hb hg hn hb6))
      exact ⟨HA6.out.1, HA6.out.2.1, HP.out, HA6.out.2.2⟩
  case rest =>
    rintro D W2 hD hI hK
    obtain ⟨v, hv, hq, _⟩ := hI.out
    obtain ⟨A5, c5, rfl, hc5⟩ := Kd.Q_slice hq
    have hcv : W2.cell? ⟨g + 1, 0, none⟩ = some (.slice A5 xs.length c5) := (blk_cell hv 0).trans rfl
    have HI := Aside0.mk hI.bel
    have HQ := Aside0.mk hq
    have HK := Aside0.mk hK
    have HD := Aside0.mk hD
    clear hv hq hI hK hD hc5
    go_wp2_with fail
    refine ⟨by simp, .inl ⟨_, _, rfl, run_takeDeferred HK.out, ?_⟩⟩
    refine ⟨.slice A5 xs.length c5, (results_tmp (t := 2) rfl _ _ _), ?_⟩
    refine ⟨_, _, rfl, ?_, ?_⟩
    · rw [← HG.out]
      refine uq_move HQ.out (fun k hk => ?_)
      obtain ⟨cells, hc⟩ := Kd.Q_typed HQ.out k hk
      refine World.putObj_heap_other (fun e => ?_)
      have := HK.out
      rw [e] at hc
      rw [hc] at this
      cases this
    · rw [← HG.out]
      exact HI.out.trans (belowK_b (w := w1) (by omega) W2 D _ _ HD.out HK.out rfl rfl)
end Go.Proofs.Ytkginabioolmiaa.Gp
